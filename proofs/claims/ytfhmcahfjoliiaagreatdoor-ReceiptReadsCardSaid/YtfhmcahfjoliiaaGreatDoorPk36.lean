/- values that lie nowhere below a bound · receipt.grouped -/
import Derived.Test.YtfhmcahfjoliiaaGreatDoorPk05
import Derived.Test.YtfhmcahfjoliiaaGreatDoorPk24
import Derived.Test.YtfhmcahfjoliiaaGreatDoorShelf
set_option maxRecDepth 20000
set_option maxHeartbeats 8000000
set_option linter.unusedSimpArgs false
set_option linter.unusedVariables false
namespace Go.Proofs.YtfhmcahfjoliiaaGreatDoor
section
open Go.RowKit
/-- v lies nowhere below block B -/
def FarB (B:Nat) (v:Value):Prop:=∀ a n c,v=.slice (some a) n c→B≤a.block
end
section
open Go Go.RowKit
theorem infoStrG:(Tryz.prog.info? 9).map (fun i=>(i.zero,i.size,i.bytes))=some (some (.string ByteArray.empty),1,16):=by kernel_rfl
def quad (s:ByteArray) (j:Nat):ByteArray:=s.extract (4*j) (4*j+4)
def grpS (s:ByteArray):ByteArray:=⟨(Go.Lib.join (((List.range 5).map (quad s)).map (·.data.toList)) (⟨#[32]⟩:ByteArray).data.toList).toArray⟩
def GrpRel (w:World) (s:ByteArray) (k:Nat) (v:Value) (wr:World):Prop:=wr.ownsRow w.heap.size 9 1 v k ((List.range k).map fun j=>.string (quad s j))∧Below w.heap.size w wr
theorem quad_len (s:ByteArray) (hs:s.size=20) (j:Nat) (hj:j < 5):(quad s j).data.toList.length=4:=by
  unfold quad;rw [Array.length_toList];show (s.extract (4*j) (4*j+4)).size=4;rw [ByteArray.size_extract];omega
theorem grp_len (s:ByteArray) (hs:s.size=20):(grpS s).size=24:=by
  unfold grpS;show (Go.Lib.join (((List.range 5).map (quad s)).map (·.data.toList)) [32]).toArray.size=24;have h0:=quad_len s hs 0 (by decide);have h1:=quad_len s hs 1 (by decide);have h2:=quad_len s hs 2 (by decide);have h3:=quad_len s hs 3 (by decide);have h4:=quad_len s hs 4 (by decide);simp [Go.Lib.join,List.range,List.range.loop,List.intercalate,h0,h1,h2,h3,h4]
theorem grouped_any (s : ByteArray) (w : World) (hs : s.size = 20) : Calls Tryz.prog 32 #[.string s] w (Grew (.string (grpS s)) w) := by
  obtain ⟨i0,hi,hz0,hz1,hz2⟩:=info_parts infoStrG;have hD:Hid (GrpRel w s 0 (.slice none 0 0) w):=⟨World.ownsRow_nil _ _ _ _,Below.refl _ _⟩;have hs2:(s.size:Int)=20:=by omega
  have HG:=Lib.hid (grp_len s hs);have HL:=Lib.hid (fun j hj=>quad_len s hs j hj);go_enter Tryz.func32,Tryz.ntmps32;go_wp2
  go_loopw [3,4] (fun v i wr=>∃ k:Nat,k≤5∧i=I (4*k)∧Hid (GrpRel w s k v wr)) (fun _ i _=>20-(intOf i).toNat)
  case atStart=>exact ⟨0,by decide,rfl,hD⟩
  case round=>
    clear hD;obtain ⟨k,hk,rfl,hD⟩:=hrel;obtain ⟨hown,hbw⟩:=hD.out;have hsz:=hbw.size
    by_cases hlt:k < 5
    · have hi0:(0:Int)≤4*(k:Int):=by omega
      have hi1:4*(k:Int)+4≤20:=by omega
      have hi2:¬ 20 < 4*(k:Int)+4:=by omega
      have hi3:4*(k:Int)≤4*(k:Int)+4:=by omega
      have hi4:(0:Int)≤4*(k:Int)+4:=by omega
      have hx1:(4*(k:Int)).toNat=4*k:=by omega
      have hx2:(4*(k:Int)+4).toNat=4*k+4:=by omega
      have hw1:IntKind.i64.wrap (4*(k:Int)+4)=4*(k:Int)+4:=IntWalk.i64_in _ (by omega);have hq:=Lib.hid (show s.extract (4*k) (4*k+4)=quad s k from rfl)
      have hcells:((List.range k).map fun j=>Value.string (quad s j))++[.string (quad s k)]=(List.range (k+1)).map fun j=>Value.string (quad s j):=by
        rw [List.range_succ,List.map_append];rfl
      go_wp2_with (
        at_builtin
        refine wpList_append_own _ rfl _ _ 31 rfl w.heap.size 9 i0 (.string ByteArray.empty) 1 16 Tryz.underlying31 hi hz0 hz1 hz2 rfl (by decide) _ _ _ rfl (hown.alloc _) ⟨wr.heap.size,0,none⟩ 1 1 [.string (quad s k)] rfl rfl (news_lit _ [.string (quad s k)] _) (oneCells_lit rfl) (by unfold maxLen;omega) (by omega) (by simp;omega) ?_;intro v' w1 hown' hgrow _)
      have hbel:=grown_below (hbw.alloc hsz _) (hown.alloc _) (Nat.le_refl _) hgrow;rw [hcells] at hown';exact ⟨⟨k+1,by omega,by go_num,⟨hown',hbel⟩⟩,by simp [intOf];omega⟩
    · obtain rfl:k=5:=by omega
      obtain ⟨g,cap,rfl,hgb,hcap,hOg⟩:=(owns_cases hown).resolve_left (by omega);have HO:=Lib.hid hOg;have HBW:=Lib.hid hbw
      have J:=Tryz.strings_Join g 0 cap ((List.range 5).map (quad s)) ⟨#[32]⟩ wr (fun j x hx=>by
        have hj:j < 5:=by
          have:=(List.getElem?_eq_some_iff.1 hx).1;simpa using this
        have h1:=HO.out.cell j (by simpa using hj);rw [h1];simp [hj] at hx;rw [← hx]
        simp [List.getD_eq_getElem?_getD,hj]) HO.out.lt (by simp) (by simp;omega) (by
          have h24:=HG.out;unfold grpS at h24
          have h25:(Go.Lib.join (((List.range 5).map (quad s)).map (·.data.toList)) (⟨#[32]⟩:ByteArray).data.toList).length=24:=by
            rw [← List.size_toArray];exact h24
          rw [h25];decide)
      rw [List.length_map,List.length_range] at J;have HJ:=Lib.hid J;have hge:¬ 4*((5:Nat):Int)+4≤20:=by decide
      clear hown hbw hOg hsz hk hlt hD J
      go_wp2_with fail
      refine HJ.out.mono ?_;rintro e w7 ⟨rfl,k7⟩;have kk:=HBW.out.trans (k7.mono HBW.out.size);clear k7;go_wp2;go_ret;exact ⟨rfl,kk⟩
end
end Go.Proofs.YtfhmcahfjoliiaaGreatDoor
