/- ref.values, ref.whole -/
import Derived.Test.YtfhmcahfjoliiaaGreatDoorRecVals
import Derived.Test.YtfhmcahfjoliiaaGreatDoorPk05
import Derived.Test.YtfhmcahfjoliiaaGreatDoorPk29
import Derived.Test.YtfhmcahfjoliiaaGreatDoorPk36
import Derived.Test.YtfhmcahfjoliiaaGreatDoorPk01
set_option maxRecDepth 20000
set_option maxHeartbeats 8000000
set_option linter.unusedSimpArgs false
set_option linter.unusedVariables false
namespace Go.Proofs.YtfhmcahfjoliiaaGreatDoor
open Go Go.RowKit

/- the loop over the digits -/
theorem whole_any (s : ByteArray) (w : World) : Calls Tryz.prog 15 #[.string s] w (Pure (I (whI s)) w) := by
  have HB:=Lib.hid (fun (h:s.size < 1∨7 < s.size)=>(show whI s=-1 by unfold whI;rw [if_pos h]))
  by_cases c1:s.size < 1
  · have h:=HB.out (Or.inl c1)
    have z1:(s.size:Int) < 1:=by omega
    rw [h];clear HB h;go_enter Tryz.func15,Tryz.ntmps15;go_wp2;go_ret;exact Pure.intro rfl
  · by_cases c2:7 < s.size
    · have h:=HB.out (Or.inr c2)
      have z1:¬ (s.size:Int) < 1:=by omega
      have z2:(7:Int) < (s.size:Int):=by omega
      rw [h];clear HB h;go_enter Tryz.func15,Tryz.ntmps15;go_wp2;go_ret;exact Pure.intro rfl
    · have z1 : ¬ (s.size : Int) < 1 := by omega
      have z2:¬ (7:Int) < (s.size:Int):=by omega
      have HE:=Lib.hid (show whI s=if allDig s s.size=true then (decV s s.size:Int) else -1 by unfold whI;rw [if_neg (by omega)]);have l0:0 < s.size:=by omega
      have hb0:=bat_eq l0;generalize whI s=r at *;clear HB c1 c2;go_enter Tryz.func15,Tryz.ntmps15;go_wp2
      go_loop [3,4] (fun n i=>∃ k:Nat,k≤s.size∧i=I k∧n=I (decV s k)∧Hid (allDig s k=true)) (fun _ i=>s.size-(intOf i).toNat)
      case atStart=>exact ⟨0,Nat.zero_le _,rfl,rfl,rfl⟩
      case round=>
        obtain ⟨k,hk,rfl,rfl,hall⟩:=hrel
        by_cases hlt:k < s.size
        · have hi0:(0:Int)≤(k:Int):=by omega
          have hi1:(k:Int) < (s.size:Int):=by omega
          have hb:=bat_eq hlt;have hdf:digAt s k=inB ((bat s k:Nat):Int) 48 57:=rfl;cases hd:digAt s k
          · have hA:=Lib.hid (show r=-1 by rw [HE.out,if_neg (by rw [allDig_no (n:=s.size) hlt hd];decide)])
            have hdf':=(hdf.symm.trans hd);clear hd hdf hall hb0;generalize bat s k=c at *
            go_wp2_with (go_at_call 37;refine (Digit_any _ _).mono ?_;rintro e w' ⟨rfl,rfl⟩)
            go_ret;exact Pure.intro (eI hA.out.symm)
          · obtain ⟨d0,d1⟩:=digAt_true.1 hd
            have hA:=Lib.hid (allDig_succ hall.out hd)
            have hv:decV s k < 1000000000000000:=by
              have h5:=decV_lt k hall.out;have h6:(10:Nat)^k≤10^13:=Nat.pow_le_pow_right (by decide) (by omega);omega
            have HN:=Lib.hid (show (.int .i64 (10*(decV s k:Int)+((bat s k:Int)-48)):Value)=I (decV s (k+1)) by rw [decV];congr 1;omega);have hdf':=(hdf.symm.trans hd);clear hd hdf hall hb0;generalize decV s k=v at *;generalize bat s k=c at *;have w8:IntKind.u8.wrap ((c:Int)-48)=(c:Int)-48:=by show ((c:Int)-48)%256=_;omega
            have w1:IntKind.i64.wrap (10*(v:Int))=10*(v:Int):=IntWalk.i64_in _ (by omega);have w2:IntKind.i64.wrap (10*(v:Int)+((c:Int)-48))=10*(v:Int)+((c:Int)-48):=IntWalk.i64_in _ (by omega);have w3:IntKind.i64.wrap ((c:Int)-48)=(c:Int)-48:=IntWalk.i64_in _ (by omega)
            go_wp2_with (go_at_call 37;refine (Digit_any _ _).mono ?_;rintro e w' ⟨rfl,rfl⟩)
            go_round
            case rel=>exact ⟨k+1,by omega,by go_num,HN.out,hA⟩
            case measure=>simp [intOf];omega
        · obtain rfl:k=s.size:=by omega
          have hA:=Lib.hid (show r=(decV s s.size:Int) by rw [HE.out,if_pos hall.out]);clear hall hb0;go_wp2;go_ret;exact Pure.intro (eI hA.out.symm)
theorem infoStrV:(Tryz.prog.info? 9).map (fun i=>(i.zero,i.size,i.bytes))=some (some (.string ByteArray.empty),1,16):=by kernel_rfl
/-- what ref.values answers -/
def ValP (s:ByteArray) (w:World) (e:Ending) (w':World):Prop:=
  Below w.heap.size w w'∧((valN s=none∧∃ v,e=.returned (T2 v (.bool false)))∨∃ l g cap,valN s=some l∧l.length=9∧e=.returned (T2 (.slice (some ⟨g,0,none⟩) 9 cap) (.bool true))∧w.heap.size≤g∧Own w' g (l.map Value.string))
structure VsR (s:ByteArray) (w wr:World) (k:Nat) (v:Value) (f:Nat) (b:Int) (out:List ByteArray):Prop where
  st:vsN s k=some (out,f,b)
  ow:wr.ownsRow w.heap.size 9 1 v out.length (out.map Value.string)
  be:Below w.heap.size w wr
theorem valN_none {s:ByteArray} {k:Nat} (hk:k≤s.size) (h:vsN s k=none):valN s=none:=by
  have:=vsN_none h (s.size-k);rw [show k+(s.size-k)=s.size by omega] at this;unfold valN;rw [this]
theorem valN_some {s:ByteArray} {out:List ByteArray} {f:Nat} {b:Int} (h:vsN s s.size=some (out,f,b)):valN s=if out.length=9∧f=s.size then some out else none:=by
  unfold valN;rw [h]
theorem owns_form {w:World} {base e sz n:Nat} {v:Value} {cs:List Value} (h:w.ownsRow base e sz v n cs):∃ a cap,v=.slice a n cap:=by
  rcases owns_cases h with ⟨rfl,rfl⟩ | ⟨g,cap,rfl,_⟩
  · exact ⟨_,_,rfl⟩
  · exact ⟨_,_,rfl⟩
theorem values_any (s : ByteArray) (w : World) (hs : s.size ≤ 400) : Calls Tryz.prog 13 #[.string s] w (ValP s w) := by
  obtain ⟨i0,hi,hz0,hz1,hz2⟩:=info_parts infoStrV;have hD:Hid (VsR s w w 0 (.slice none 0 0) 0 (-1) []):=⟨rfl,World.ownsRow_nil _ _ _ _,Below.refl _ _⟩;go_enter Tryz.func13,Tryz.ntmps13;go_wp2
  go_loopw [4,5,6,7] (fun s4 s5 s6 s7 wr=>∃ (k:Nat) (f:Nat) (b:Int) (out:List ByteArray) (va:Option Addr) (vc:Nat),s4=.slice va out.length vc∧k≤s.size∧s7=I k∧s5=I f∧s6=I b∧f≤k∧(-1≤b∧b < k)∧out.length≤k∧Hid (VsR s w wr k (.slice va out.length vc) f b out)) (fun _ _ _ i _=>s.size-(intOf i).toNat)
  case atStart=>exact ⟨0,0,-1,[],none,0,rfl,Nat.zero_le _,rfl,rfl,rfl,Nat.le_refl _,⟨by decide,by decide⟩,Nat.le_refl _,hD⟩
  case round=>
    clear hD;obtain ⟨k,f,b,out,va,vc,rfl,hk,rfl,rfl,rfl,hf,hb,hol,hV⟩:=hrel
    by_cases hlt:k < s.size
    · have j0:(0:Int)≤(k:Int):=by omega
      have j1:(k:Int) < (s.size:Int):=by omega
      have hq:=bat_eq hlt
      by_cases h10:bat s k=10
      · rw [h10] at hq
        have e1:blN s k b=b:=by unfold blN;rw [if_neg (by omega)]
        by_cases hbn:b < 0
        · have HN:=Lib.hid (valN_none (k:=k+1) (by omega) (vsN_bad hV.out.st h10 (by rw [e1];exact hbn)))
          have HB:=Lib.hid hV.out.be;clear hV h10
          go_wp2_with fail
          go_ret2;exact ⟨HB.out,.inl ⟨HN.out,_,rfl⟩⟩
        · have ST:=Lib.hid (vsN_end hV.out.st h10 (by rw [e1];exact hbn))
          rw [e1] at ST;have hown:=hV.out.ow;have hbw:=hV.out.be;have hsz:=hbw.size;have i1:(0:Int)≤b+1:=by omega
          have i2:b+1≤(k:Int):=by omega
          have i3:(k:Int)≤(s.size:Int):=by omega
          have i4:IntKind.i64.wrap (b+1)=b+1:=IntWalk.i64_in _ (by omega);have i5:(b+1).toNat=b.toNat+1:=by omega
          have hcells:(out.map Value.string)++[.string (s.extract (b.toNat+1) k)]=(out++[s.extract (b.toNat+1) k]).map Value.string:=by simp
          clear hV h10;generalize hx:s.extract (b.toNat+1) k=x at *
          go_wp2_with (
            at_builtin
            refine wpList_append_own _ rfl _ _ 31 rfl w.heap.size 9 i0 (.string ByteArray.empty) 1 16 Tryz.underlying31 hi hz0 hz1 hz2 rfl (by decide) _ _ _ rfl (hown.alloc _) ⟨wr.heap.size,0,none⟩ 1 1 [.string x] rfl rfl (news_lit _ [.string x] _) (oneCells_lit rfl) (by unfold maxLen;omega) (by omega) (by simp;omega) ?_;intro v' w1 hown' hgrow _)
          have hbel:=grown_below (hbw.alloc hsz _) (hown.alloc _) (Nat.le_refl _) hgrow;rw [hcells] at hown';have hown2:w1.ownsRow w.heap.size 9 1 v' (out++[x]).length ((out++[x]).map Value.string):=by simpa using hown'
          obtain ⟨a2,c2,rfl⟩:=owns_form hown2;exact ⟨⟨k+1,k+1,-1,out++[x],a2,c2,rfl,by omega,by go_num,by go_num,rfl,Nat.le_refl _,⟨by decide,by omega⟩,by simp;omega,⟨ST.out,hown2,hbel⟩⟩,by simp [intOf];omega⟩
      · by_cases h32:bat s k=32
        · rw [h32] at hq
          by_cases hbn:b < 0
          · have ST:=Lib.hid (vsN_step hV.out.st h10)
            have e1:blN s k b=(k:Int):=by unfold blN;rw [if_pos ⟨h32,hbn⟩]
            rw [e1] at ST;have HV:=Lib.hid (show VsR s w wr (k+1) _ f k out from ⟨ST.out,hV.out.ow,hV.out.be⟩);clear hV ST h10 h32
            go_wp2_with fail
            exact ⟨⟨k+1,f,k,out,va,vc,rfl,by omega,by go_num,rfl,rfl,by omega,⟨by omega,by omega⟩,by omega,HV⟩,by simp [intOf];omega⟩
          · have ST:=Lib.hid (vsN_step hV.out.st h10)
            have e1:blN s k b=b:=by unfold blN;rw [if_neg (by omega)]
            rw [e1] at ST;have HV:=Lib.hid (show VsR s w wr (k+1) _ f b out from ⟨ST.out,hV.out.ow,hV.out.be⟩);clear hV ST h10 h32
            go_wp2_with fail
            exact ⟨⟨k+1,f,b,out,va,vc,rfl,by omega,by go_num,rfl,rfl,by omega,⟨by omega,by omega⟩,by omega,HV⟩,by simp [intOf];omega⟩
        · have ST:=Lib.hid (vsN_step hV.out.st h10)
          have e1:blN s k b=b:=by unfold blN;rw [if_neg (fun h=>h32 h.1)]
          rw [e1] at ST;have HV:=Lib.hid (show VsR s w wr (k+1) _ f b out from ⟨ST.out,hV.out.ow,hV.out.be⟩);have q1:¬ ((bat s k:Nat):Int)=10:=by omega
          have q2:¬ ((bat s k:Nat):Int)=32:=by omega
          clear hV ST h10 h32 e1;generalize bat s k=c at *
          go_wp2_with fail
          exact ⟨⟨k+1,f,b,out,va,vc,rfl,by omega,by go_num,rfl,rfl,by omega,⟨by omega,by omega⟩,by omega,HV⟩,by simp [intOf];omega⟩
    · obtain rfl:k=s.size:=by omega
      have HN:=Lib.hid (valN_some hV.out.st);have hown:=hV.out.ow;have HB:=Lib.hid hV.out.be
      by_cases h9:out.length=9
      · obtain ⟨g,cap,hve,hgb,hcap,hOg⟩:=(owns_cases hown).resolve_left (by omega)
        simp only [Value.slice.injEq,true_and] at hve;obtain ⟨rfl,hvc⟩:=hve;subst hvc;have HO:=Lib.hid hOg;rw [h9] at HN ⊢
        by_cases hfs:f=s.size
        · subst hfs
          have hfb:((s.size:Int)==(s.size:Int))=true:=beq_self_eq_true _;clear hown hOg hV
          go_wp2_with fail
          go_ret2;exact ⟨HB.out,.inr ⟨out,g,_,by rw [HN.out,if_pos (by simp)],h9,rfl,hgb,HO.out⟩⟩
        · have hfb:((f:Int)==(s.size:Int))=false:=by rw [beq_eq_false_iff_ne];omega
          clear hown hOg hV
          go_wp2_with fail
          go_ret2;exact ⟨HB.out,.inl ⟨by rw [HN.out,if_neg (fun h=>hfs h.2)],.slice (some ⟨g,0,none⟩) 9 vc,rfl⟩⟩
      · have h9i:¬ (out.length:Int)=9:=by omega
        have hE:valN s=none:=by rw [HN.out,if_neg (fun h=>h9 h.1)]
        clear hown hV
        go_wp2_with fail
        go_ret2;exact ⟨HB.out,.inl ⟨hE,_,rfl⟩⟩
end Go.Proofs.YtfhmcahfjoliiaaGreatDoor
