/- disk.Replay: the walk over the tape that keeps the records; the program and the reference side by side · the map of a keeper: where a meter's customer stands · what (*book.keeper).keep answers -/
import Derived.Test.YtdjgcenjonegjaaGreatPk25
import Derived.Test.YtdjgcenjonegjaaGreatPk17
import Derived.Maps.Own
import Derived.Maps.OwnOps
import Derived.Test.YtdjgcenjonegjaaGreatPk18
import Derived.Test.YtdjgcenjonegjaaGreatPk23
import Derived.Test.YtdjgcenjonegjaaGreatPk03
import Derived.Test.YtdjgcenjonegjaaGreatPk09
import Derived.Deep.DeepCutAuto
import Derived.Deep.RegionLaw
import Derived.Deep.AppendLies
import Derived.Test.YtdjgcenjonegjaaGreatPk06
set_option maxRecDepth 20000
set_option maxHeartbeats 8000000
set_option linter.unusedSimpArgs false
set_option linter.unusedVariables false
namespace Go.Proofs.YtdjgcenjonegjaaGreat
section
open Go.RowKit

theorem Recs.mono_base {W:World} {base:Nat} {v:Value} {rs:List (List Int)} {us:List Value} (h:Recs W (base+1) v rs us):Recs W base v rs us:=
  ⟨h.1,⟨h.2.1.1,h.2.1.2.imp id (fun ⟨g,cap,cur,hv,hg,r⟩=>⟨g,cap,cur,hv,Nat.le_of_succ_le hg,r⟩)⟩,h.2.2⟩
/-- what is kept by the time the walk stands at p -/
def Kept (w0:World) (xs:List Int) (rs:List (List Int)) (p f:Nat) (w:World):Prop:=
  Below w0.heap.size w0 w∧rs.length≤p∧rs++recT xs f p=recR xs∧∃ v us,w.cell? ⟨w0.heap.size,0,none⟩=some v∧w.frozen? ⟨w0.heap.size,0,none⟩=false∧Recs w (w0.heap.size+1) v rs us
theorem Kept.below {w0:World} {xs:List Int} {rs:List (List Int)} {p f:Nat} {w:World} (h:Kept w0 xs rs p f w):Below w0.heap.size w0 w:=h.1
/-- what the walk answers, and what it leaves in the caller's variable -/
def Walked (w0:World) (xs:List Int) (a k:Int) (e:Ending) (w':World):Prop:=
  e=.returned (T2 (I a) (I k))∧Below w0.heap.size w0 w'∧(k=0→∃ v us,w'.cell? ⟨w0.heap.size,0,none⟩=some v∧w'.frozen? ⟨w0.heap.size,0,none⟩=false∧Recs w' (w0.heap.size+1) v (recR xs) us)
theorem Walked.stop {w0:World} {xs:List Int} {rs:List (List Int)} {p f:Nat} {w:World} {a k a' k':Int} (h:Kept w0 xs rs p f w) (hr:recT xs f p=[]) (ha:a'=a) (hk:k'=k):Walked w0 xs a k (.returned (T2 (I a') (I k'))) w:=by
  obtain ⟨h1,-,h3,v,us,h4,h5,h6⟩:=h;subst ha hk;rw [hr,List.append_nil] at h3;subst h3;exact ⟨rfl,h1,fun _=>⟨v,us,h4,h5,h6⟩⟩
theorem Walked.bad {w0:World} {xs:List Int} {rs:List (List Int)} {p f:Nat} {w:World} {a k a' k':Int} (h:Kept w0 xs rs p f w) (ha:a'=a) (hk:k'=k) (hk0:k≠0):Walked w0 xs a k (.returned (T2 (I a') (I k'))) w:=by
  subst ha hk;exact ⟨rfl,h.1,fun e=>absurd e hk0⟩
theorem Kept.go {w0:World} {xs:List Int} {rs:List (List Int)} {p f n:Nat} {wr w':World} {e:Ending} (hD:Kept w0 xs rs p (f+1) wr) (hs:stepI xs p=(n:Int)) (hn:0 < n) (hq:KeptRec w0.heap.size (w0.heap.size+1) (rs++[(xs.drop (p+1)).take n]) wr e w'):
    Kept w0 xs (rs++[(xs.drop (p+1)).take n]) (p+n+1) f w':=by
  obtain ⟨h1,h2,h3,-⟩:=hD;obtain ⟨-,v,us,q1,q2,q3,q4⟩:=hq;refine ⟨h1.trans q4,by simp;omega,?_,v,us,q1,q2,q3⟩;rw [List.append_assoc,← h3,recT_go hs hn];rfl

theorem walk1_any (v : Value) (xs : List Int) (w0 w : World) (h : Sl w0 v 1 xs.length (xs.map U32)) (hw : ∀ x ∈ xs, W32 x) (hK : Kept w0 xs [] 0 (xs.length + 1) w) :
    Calls Tryz.prog 71 #[v,.func (.func 72) #[] #[.pointer (some ⟨w0.heap.size,0,none⟩)]] w (Walked w0 xs (tapeA xs) (tapeE xs)):=by
  obtain ⟨a,cap,rfl,hn,hl,h0,hr⟩:=h;clear hl h0;cases hi:inB xs.length 1 2048
  · have e1:tapeE xs=1:=by simp [tapeE,hi]
    have e2:tapeA xs=0:=by simp [tapeA,e1]
    rw [e1,e2];have hcase:(xs.length:Int) < 1∨(1≤(xs.length:Int)∧2048 < (xs.length:Int)):=by rw [← Bool.not_eq_true,inB_true] at hi;omega
    have hbw:=Lib.hid hK.below;clear e1 e2 hi hr hw hK;rcases hcase with c1 | ⟨c1,c2⟩
    all_goals
      go_enter Tryz.func71,Tryz.ntmps71;go_wp2;go_ret2;exact ⟨rfl,hbw.out,fun h=>absurd h (by decide)⟩
  · obtain ⟨l0, l1⟩ := inB_true.1 hi
    have HE:=Lib.hid (show tapeE xs=if (tapeR xs).2 then 0 else 3 by simp [tapeE,hi]);have HA:=Lib.hid (show tapeA xs=if tapeE xs=0 then (((tapeR xs).1:Nat):Int) else 0 from rfl);obtain ⟨b,off,rfl,hb,hcell⟩:=hr.resolve_left (by omega);have c0:¬ (xs.length:Int) < 1:=by omega
    have c1:¬ 2048 < (xs.length:Int):=by omega
    have HS:=Lib.hid (fun at_=>show stepI xs at_=if at_=xs.length then 0 else if xs.getD at_ 0=0 then 0 else if 64 < xs.getD at_ 0 then -1 else if (xs.length:Int)≤at_+xs.getD at_ 0 then -1 else xs.getD at_ 0 from rfl);have HW:=Lib.hid hw;generalize tapeA xs=RA at *;generalize tapeE xs=RE at *;have HK:=Lib.hid hK;clear hr hi hw hK;go_enter Tryz.func71,Tryz.ntmps71;go_wp2
    go_loopw [6] (fun i wr=>∃ (rs:List (List Int)) (p f:Nat),p≤xs.length∧i=I p∧xs.length+1≤f+p∧Hid (runT xs f p=tapeR xs)∧Hid (Kept w0 xs rs p f wr)) (fun i _=>xs.length-(intOf i).toNat)
    case atStart=>exact ⟨[],0,xs.length+1,by omega,rfl,by omega,rfl,HK.out⟩
    case round=>
      obtain ⟨rs,p,f,hp,rfl,hf,hT,hD⟩:=hrel;have hbw:=hD.out.below;obtain ⟨f,rfl⟩:∃ f',f=f'+1:=⟨f-1,by omega⟩;have S:=HS.out p
      by_cases hlt:p < xs.length
      · have e0 := (hbw.cell (p := ⟨b, off + p, none⟩) hb).trans (hcell p (by simpa using hlt))
        rw [getD_map' _ _ hlt] at e0
        obtain ⟨x0,x1⟩:W32 (xs.getD p 0):=by
          rw [List.getD_eq_getElem?_getD,List.getElem?_eq_getElem hlt];exact HW.out _ (List.getElem_mem hlt)
        have hi0:(0:Int)≤(p:Int):=by omega
        have hi1:(p:Int) < (xs.length:Int):=by omega
        rw [if_neg (by omega)] at S;have HC:=Lib.hid hcell;clear HS hcell;generalize xs.getD p 0=x at *
        by_cases hz:x=0
        · rw [if_pos hz] at S
          have hR:=hT.out;rw [runT_stop S] at hR;have E1:RE=0:=by rw [HE.out,← hR];rfl
          have E2:RA=p:=by rw [HA.out,E1,← hR];rfl
          have F1:=Lib.hid E1;have F2:=Lib.hid E2;clear E1 E2;have hb2:(x != 0)=false:=by simp [hz]
          have hRT:Hid (recT xs (f+1) p=[]):=Lib.hid (recT_stop (by omega));clear S hz hR hT HE HA;go_wp2;go_ret2;exact Walked.stop hD.out hRT.out F2.out.symm F1.out.symm
        · rw [if_neg hz] at S
          have hb2:(x != 0)=true:=by simp [hz]
          by_cases h64:64 < x
          · rw [if_pos h64] at S
            have hR:=hT.out;rw [runT_bad (by omega)] at hR;have E1:RE=3:=by rw [HE.out,← hR];rfl
            have E2:RA=0:=by rw [HA.out,E1];rfl
            have F1:=Lib.hid E1;have F2:=Lib.hid E2;clear E1 E2;clear S hz hR hT HE HA;go_wp2;go_ret2;exact Walked.bad hD.out F2.out.symm F1.out.symm (by rw [F1.out];decide)
          · rw [if_neg h64] at S
            by_cases hlen:(xs.length:Int)≤p+x
            · rw [if_pos hlen] at S
              have hR:=hT.out;rw [runT_bad (by omega)] at hR;have E1:RE=3:=by rw [HE.out,← hR];rfl
              have E2:RA=0:=by rw [HA.out,E1];rfl
              have F1:=Lib.hid E1;have F2:=Lib.hid E2;clear E1 E2;have hlen2:(xs.length:Int)-p≤x:=by omega
              clear S hz hR hT HE HA;go_wp2;go_ret2;exact Walked.bad hD.out F2.out.symm F1.out.symm (by rw [F1.out];decide)
            · rw [if_neg hlen] at S
              have hR:=hT.out;rw [runT_go (by omega),S] at hR;obtain ⟨n,rfl⟩:=Int.eq_ofNat_of_zero_le x0;rw [Int.toNat_natCast] at hR;have HR:=Lib.hid hR;clear hR;have hlen2:¬ (xs.length:Int)-p≤n:=by omega
              have hn0:0 < n:=by omega
              have hpn:p+1+n≤xs.length:=by omega
              have hcapn:=hn.2;have hws:((xs.drop (p+1)).take n).length=n:=by simp;omega
              have HREC:Hid (∀ j,j < n→wr.cell? ⟨b,off+(p+1)+j,none⟩=some (U32 (((xs.drop (p+1)).take n).getD j 0))):=by
                intro j hj;have e:=(hbw.cell (p:=⟨b,off+(p+1+j),none⟩) hb).trans (HC.out (p+1+j) (by simp;omega));rw [getD_map' _ _ (by omega)] at e;rw [Nat.add_assoc,e]
                have:((xs.drop (p+1)).take n).getD j 0=xs.getD (p+1+j) 0:=by
                  rw [List.getD_eq_getElem?_getD,List.getD_eq_getElem?_getD,List.getElem?_take,if_pos hj,List.getElem?_drop]
                rw [this]
              have hn64:n≤64:=by omega
              have hk4:rs.length≤4096:=by have:=hD.out.2.1;omega
              obtain ⟨vv,us,q1,q2,q3⟩:=hD.out.2.2.2;have HQ3:=Lib.hid q3;have HWS:=Lib.hid hws;have HS2:=Lib.hid S;clear q3 hws;have hne1:¬ p+1+n=p+1:=by omega
              have hne2:¬ ((p:Int)+1+n=(p:Int)+1):=by omega
              have hle1:(p:Int)+1+n≤(cap:Int):=by omega
              clear S hz hT HE HA
              go_wp2_with fail
              refine (Replay1_any _ b (off+(p+1)) n n _ vv rs us wr q1 q2 HQ3.out HREC.out HWS.out hn0 hn64 hk4).mono ?_;rintro e w' hq;obtain rfl:=hq.1;have HK2:=Lib.hid (Kept.go hD.out HS2.out hn0 hq);clear hq q1 q2 HQ3 HREC HWS HS2 HC e0 hD hbw;go_wp2;exact ⟨⟨_,p+n+1,f,by omega,eI (by omega),by omega,HR,HK2⟩,by simp [intOf];omega⟩
      · have S0:stepI xs p=0:=by rw [S,if_pos (by omega)]
        have hR:=hT.out;rw [runT_stop S0] at hR;have E1:RE=0:=by rw [HE.out,← hR];rfl
        have E2:RA=p:=by rw [HA.out,E1,← hR];rfl
        have F1:=Lib.hid E1;have F2:=Lib.hid E2;clear E1 E2;have hge:(xs.length:Int)≤(p:Int):=by omega
        have hRT:Hid (recT xs (f+1) p=[]):=Lib.hid (recT_stop (by omega));have hge2:decide ((p:Int) < (xs.length:Int))=false:=by simp;omega
        clear S S0 hR hT HE HA hcell HS;go_wp2;go_ret2;exact Walked.stop hD.out hRT.out F2.out.symm F1.out.symm


theorem Replay_any (v:Value) (xs:List Int) (w:World) (h:Sl w v 1 xs.length (xs.map U32)) (hw:∀ x∈xs,W32 x):
    Calls Tryz.prog 38 #[v] w (GrewRecs (recsOf xs) (tapeA xs) (tapeE xs) w):=by
  have kb:=boxed_below w (.cells #[.slice none 0 0] 101);have ob:=Own.new (w:=w) rfl [.slice none 0 0] 101;have W:=Lib.hid (walk1_any v xs w _ h hw ⟨kb,Nat.le_refl _,rfl,_,[],ob.cell 0 (by simp),ob.frozen 0,Recs.nil _ _⟩);have HC:=Lib.hid (show recsOf xs=if tapeE xs=0 then recR xs else [] from rfl);have HA:=Lib.hid (show tapeA xs=if tapeE xs=0 then (((tapeR xs).1:Nat):Int) else 0 from rfl);generalize tapeA xs=RA at *;generalize recsOf xs=RC at *;generalize tapeE xs=RE at *;obtain ⟨a,cap,rfl,-⟩:=h;clear kb ob;go_enter Tryz.func38,Tryz.ntmps38
  go_wp2_with fail
  refine W.out.mono ?_;rintro e w1 ⟨rfl,k1,hres⟩
  by_cases hE:RE=0
  · subst hE
    obtain ⟨v1,us,q1,q2,q3⟩:=hres rfl;have E3:=Lib.hid (show RC=recR xs by rw [HC.out,if_pos rfl]);have H3:=Lib.hid q3;clear hres q3 HC HA W;go_wp2;go_ret3;rw [E3.out];exact ⟨_,_,rfl,H3.out.mono_base,k1⟩
  · have hb:(RE != 0)=true:=by simp [hE]
    have E2:=Lib.hid (show RA=0 by rw [HA.out,if_neg hE]);have E3:=Lib.hid (show RC=[] by rw [HC.out,if_neg hE]);clear hres HC HA W;go_wp2;go_ret3;rw [E2.out,E3.out];exact ⟨_,_,rfl,Recs.nil _ _,k1⟩
end
section
open Go Go.RowKit
open Go.Maps (Keyed)

theorem intK:Keyed Tryz.prog 3:=Go.Maps.int_keyed Tryz.underlying3
theorem zero_int0 (w:World):(zeroValue 3).run Tryz.prog w=.ok (I 0) w:=by kernel_rfl
theorem wf64i {a:Int} (h:I64 a):(Lit.int .i64 a).wf=true:=by
  obtain ⟨h0,h1⟩:=h;show (decide (IntKind.i64.min≤a)&&decide (a≤IntKind.i64.max))=true;have e0:IntKind.i64.min=-9223372036854775808:=rfl;have e1:IntKind.i64.max=9223372036854775807:=rfl;rw [e0,e1,Bool.and_eq_true,decide_eq_true_eq,decide_eq_true_eq];exact ⟨h0,h1⟩
theorem keyOf_i {a:Int} (ha:I64 a):∃ l,keyOf Tryz.prog 3 (I a)=some l:=⟨_,Go.Maps.keyOf_int_mk Tryz.underlying3 (wf64i ha)⟩
/-- block b is a map that tells where each of these meters stands -/
def OwnIdx (w:World) (b:Nat) (ms:List Int):Prop:=(∃ es clock,w.heap[b]?=some (.map es clock)∧es.toList.map (fun e=>(e.key,e.val))=ms.zipIdx.map fun p=>(I p.1,I (p.2:Nat)))∧(∀ m∈ms,I64 m)∧ms.Nodup
theorem OwnIdx.lt {w:World} {b:Nat} {ms:List Int} (h:OwnIdx w b ms):b < w.heap.size:=by
  obtain ⟨⟨es,clock,h,_⟩,_⟩:=h;exact (Array.getElem?_eq_some_iff.1 h).1
theorem OwnIdx.heap {w w':World} {b:Nat} {ms:List Int} (h:OwnIdx w b ms) (k:w'.heap[b]?=w.heap[b]?):OwnIdx w' b ms:=by
  obtain ⟨⟨es,clock,h,e⟩,r⟩:=h;exact ⟨⟨es,clock,k.trans h,e⟩,r⟩
theorem OwnIdx.below {w w':World} {b:Nat} {ms:List Int} (h:OwnIdx w b ms) (k:Below w.heap.size w w'):OwnIdx w' b ms:=h.heap (k.block b h.lt)
theorem OwnIdx.new (w:World):OwnIdx (w.alloc (.map #[] 0)) w.heap.size []:=⟨⟨#[],0,(MapKept.heap_alloc w _).1,rfl⟩,(fun p hp=>by simp at hp),List.nodup_nil⟩
theorem entry_at {es:Array MapEntry} {ms:List Int} (he:es.toList.map (fun e=>(e.key,e.val))=ms.zipIdx.map fun p=>(I p.1,I (p.2:Nat))) {j:Nat} {e:MapEntry} (hj:es.toList[j]?=some e):∃ m,ms[j]?=some m∧e.key=I m∧e.val=I (j:Nat):=by
  have h1:(es.toList.map (fun e=>(e.key,e.val)))[j]?=some (e.key,e.val):=by rw [List.getElem?_map,hj];rfl
  rw [he,List.getElem?_map,List.getElem?_zipIdx,Nat.zero_add] at h1;cases hm:ms[j]? with
  | none=>rw [hm] at h1;cases h1
  | some m=>
    rw [hm] at h1;simp only [Option.map_some,Option.some.injEq,Prod.mk.injEq] at h1;exact ⟨m,rfl,h1.1.symm,h1.2.symm⟩
theorem entry_mem {es:Array MapEntry} {ms:List Int} (he:es.toList.map (fun e=>(e.key,e.val))=ms.zipIdx.map fun p=>(I p.1,I (p.2:Nat))) {m:Int} (hm:m∈ms):∃ e∈es.toList,e.key=I m:=by
  obtain ⟨j,hj,rfl⟩:=List.getElem_of_mem hm
  have h1:(ms.zipIdx.map fun p=>(I p.1,I (p.2:Nat)))[j]?=some (I ms[j],I (j:Nat)):=by
    rw [List.getElem?_map,List.getElem?_zipIdx,Nat.zero_add,List.getElem?_eq_getElem hj];rfl
  rw [← he,List.getElem?_map] at h1;cases hq:es.toList[j]? with
  | none=>rw [hq] at h1;cases h1
  | some e=>
    rw [hq] at h1;simp only [Option.map_some,Option.some.injEq,Prod.mk.injEq] at h1;exact ⟨e,List.mem_of_getElem? hq,h1.1⟩
theorem I_inj {a b:Int} (h:I a=I b):a=b:=by simpa using h
theorem findI_nodup {m:Int} {ms:List Int} (hn:ms.Nodup) {j:Nat} (hj:ms[j]?=some m):findI m ms 0=(j:Int):=by
  obtain ⟨hlt,he⟩:=List.getElem?_eq_some_iff.1 hj
  have:=findI_hit (me:=m) ms 0 j hlt (fun q hq h=>by
    rw [List.getD_eq_getElem?_getD,List.getElem?_eq_getElem (by omega)] at h;have h:ms[q]'(by omega)=ms[j]:=by rw [he];exact h
    have hq2:q < ms.length:=by omega
    exact absurd h ((List.pairwise_iff_getElem.1 hn) q j hq2 hlt hq)) (by rw [List.getD_eq_getElem?_getD,hj];rfl)
  rw [this];omega
def idxA (ms:List Int) (m:Int):Int:=if 0≤findI m ms 0 then findI m ms 0 else 0
theorem run_lookI {w:World} {b:Nat} {ms:List Int} (h:OwnIdx w b ms) {m:Int} (hm:I64 m):
    (Instr.lookup 161 (.map (some b)) (I m) true).run Tryz.prog w=.ok (.tuple #[I (idxA ms m),.bool (decide (0≤findI m ms 0))]) w:=by
  obtain ⟨⟨es,clock,hb,he⟩,hwf,hnd⟩:=h;obtain ⟨l,hl⟩:=keyOf_i hm
  have hread:∀ e∈es.toList,∃ l,keyOf Tryz.prog 3 e.key=some l:=fun e hmm=>by
    obtain ⟨j,hj,he2⟩:=List.getElem_of_mem hmm;obtain ⟨q,h1,h2,-⟩:=entry_at he (j:=j) (e:=e) (by rw [List.getElem?_eq_getElem hj,he2]);rw [h2];exact keyOf_i (hwf q (List.mem_of_getElem? h1))
  have hrun:∀ r:Option (Nat×Value),(Instr.findKey 3 (I m) es.toList).run Tryz.prog w=.ok r w→(Instr.lookup 161 (.map (some b)) (I m) true).run Tryz.prog w=.ok (match r with | some (_,v)=>.tuple #[v,.bool true] | none=>.tuple #[I 0,.bool false]) w:=fun r hr=>by
    cases r with
    | none=>simp [Instr.lookup,run_underlying Tryz.underlying161,MapKept.run_getObj_map hb,intK.check w _ hl,hr,zero_int0,Result.andThen]
    | some q=>simp [Instr.lookup,run_underlying Tryz.underlying161,MapKept.run_getObj_map hb,intK.check w _ hl,hr,Result.andThen]
  rcases intK.find w hl es.toList hread with ⟨h1,h2⟩ | ⟨j,e,h1,h2,h3⟩
  · rw [hrun _ h1]
    have hno:findI m ms 0=-1:=findI_none ms 0 fun q hq hh=>by
      obtain ⟨e,hmm,hk⟩:=entry_mem he (m:=m) (by rw [← hh,List.getD_eq_getElem?_getD,List.getElem?_eq_getElem hq];exact List.getElem_mem hq);exact h2 e hmm hk
    unfold idxA;rw [hno]
    rfl
  · rw [hrun _ h1]
    obtain ⟨q,g1,g2,g3⟩:=entry_at he h2;rw [h3] at g2;have:=I_inj g2;subst this;have hf:=findI_nodup hnd g1;unfold idxA;rw [hf,g3,if_pos (by omega),decide_eq_true (by omega)]
theorem run_putI {w:World} {b:Nat} {ms:List Int} (h:OwnIdx w b ms) {m:Int} (hm:I64 m) (hno:¬ 0≤findI m ms 0):
    ∃ w',(Instr.mapUpdate 161 (.map (some b)) (I m) (I (ms.length:Nat))).run Tryz.prog w=.ok () w'∧OwnIdx w' b (ms++[m])∧(∀ z,z≠b→w'.heap[z]?=w.heap[z]?)∧w'.heap.size=w.heap.size∧w'.os=w.os∧w'.tape=w.tape∧w'.output=w.output∧w'.drawn=w.drawn:=by
  obtain ⟨⟨es,clock,hb,he⟩,hwf,hnd⟩:=h;obtain ⟨l,hl⟩:=keyOf_i hm
  have hread:∀ e∈es.toList,∃ l,keyOf Tryz.prog 3 e.key=some l:=fun e hmm=>by
    obtain ⟨j,hj,he2⟩:=List.getElem_of_mem hmm;obtain ⟨q,h1,h2,-⟩:=entry_at he (j:=j) (e:=e) (by rw [List.getElem?_eq_getElem hj,he2]);rw [h2];exact keyOf_i (hwf q (List.mem_of_getElem? h1))
  rcases intK.find w hl es.toList hread with ⟨h1,h2⟩ | ⟨j,e,h1,h2,h3⟩
  · refine ⟨{ w with heap:=w.heap.setIfInBounds b (.map (es.push { key:=I m,val:=I (ms.length:Nat),born:=clock }) (clock+1)) },?_,⟨⟨es.push { key:=I m,val:=I (ms.length:Nat),born:=clock },clock+1,?_,?_⟩,?_,?_⟩,fun z hz=>?_,by simp,rfl,rfl,rfl,rfl⟩
    · simp [Instr.mapUpdate,run_underlying Tryz.underlying161,MapKept.run_getObj_map hb,intK.check w _ hl,h1,MapKept.run_setObj_map _ hb,Result.andThen]
    · have:=(Array.getElem?_eq_some_iff.1 hb).1
      simp [Array.getElem?_setIfInBounds,this]
    · rw [Array.toList_push,List.map_append,he,List.zipIdx_append,List.map_append]
      simp
    · intro q hq
      rcases List.mem_append.1 hq with hq | hq
      · exact hwf q hq
      · simp at hq;subst hq;exact hm
    · rw [List.nodup_append]
      refine ⟨hnd,by simp,fun a ha c hc=>?_⟩
      simp at hc;subst hc;intro e;subst e;obtain ⟨e,hmm,hk⟩:=entry_mem he ha;exact h2 e hmm hk
    · simp [Array.getElem?_setIfInBounds,show ¬ b=z by omega]
  · exfalso
    obtain ⟨q,g1,g2,g3⟩:=entry_at he h2;rw [h3] at g2;have:=I_inj g2;subst this;have hf:=findI_nodup hnd g1;omega
end
section
open Go Go.RowKit
/-- a keeper: its block, its map, its book -/
def KState (W:World) (B kb mb:Nat) (t:PTerms) (tv:Value) (cs:List PCust):Prop:=
  ∃ v ys,Own W kb [v,tv,I t.f,I t.b,I t.d,I t.al,.map (some mb)]∧OwnIdx W mb (cs.map fun c=>c.acc.meter)∧BookAt W B v cs ys
/-- an event is kept, or it throws its code, and what was there is as it was -/
def KeepP (A B kb mb:Nat) (t:PTerms) (tv:Value) (cs:List PCust) (v:AEvent) (w:World) (e:Ending) (w':World):Prop:=
  (evE t cs v=0→e=.returned (.tuple #[])∧KState w' B kb mb t tv (evC t cs v)∧Below A w w')∧(evE t cs v≠0→e=.panicked [{ v:=refV (evE t cs v),recovered:=false }]∧Below w.heap.size w w')
theorem KeepP.no {A B kb mb:Nat} {t:PTerms} {tv:Value} {cs:List PCust} {v:AEvent} {w w':World} {k:Int} (h:evE t cs v=k) (hk:k≠0) (hb:Below w.heap.size w w'):KeepP A B kb mb t tv cs v w (.panicked [{ v:=refV k,recovered:=false }]) w':=by
  subst h;exact ⟨fun h=>absurd h hk,fun _=>⟨rfl,hb⟩⟩
theorem KeepP.yes {A B kb mb:Nat} {t:PTerms} {tv:Value} {cs:List PCust} {v:AEvent} {w w':World} (h:evE t cs v=0) (hs:KState w' B kb mb t tv (evC t cs v)) (hb:Below A w w'):KeepP A B kb mb t tv cs v w (.returned (.tuple #[])) w':=⟨fun _=>⟨rfl,hs,hb⟩,fun hk=>absurd h hk⟩
theorem below_le {B C:Nat} {w w':World} (h:Below B w w') (hC:C≤B):Below C w w':=h.mono hC
theorem set_meters {cs:List PCust} {j:Nat} {c:PCust} (hj:j < cs.length) (hm:c.acc.meter=(cs.getD j default).acc.meter):(cs.set j c).map (fun c=>c.acc.meter)=cs.map fun c=>c.acc.meter:=by
  apply List.ext_getElem?;intro i;rw [List.getElem?_map,List.getElem?_map,List.getElem?_set]
  by_cases e:j=i
  · subst e
    rw [if_pos rfl,if_pos hj,List.getElem?_eq_getElem hj];simp only [Option.map_some,Option.some.injEq];rw [hm,List.getD_eq_getElem?_getD,List.getElem?_eq_getElem hj]
    rfl
  · rw [if_neg e]
end
end Go.Proofs.YtdjgcenjonegjaaGreat
