/- disk: the records themselves, as they lie; the reference's walk with its records · events: new memory for a list (made by wip/bin/gen_api.py) · the events that a disk holds, and the book that they make: plain · book.Decode at thirteen words -/
import Derived.Test.YtdjgcenjonegjaaGreatPk23
import Derived.Deep.AppendLies
import Derived.Test.YtdjgcenjonegjaaGreatPk01
import Derived.Test.YtdjgcenjonegjaaGreatPk04
import Derived.Test.YtdjgcenjonegjaaGreatPk18
set_option maxRecDepth 20000
set_option maxHeartbeats 8000000
set_option linter.unusedSimpArgs false
set_option linter.unusedVariables false
namespace Go.Proofs.YtdjgcenjonegjaaGreat
section
open Go.RowKit

/-- the records from a place on -/
def recT (xs:List Int):Nat→Nat→List (List Int)
  | 0,_=>[]
  | f+1,p=>if 0 < stepI xs p then ((xs.drop (p+1)).take (stepI xs p).toNat)::recT xs f (p+(stepI xs p).toNat+1) else []
def recR (xs:List Int):List (List Int):=recT xs (xs.length+1) 0
def recsOf (xs:List Int):List (List Int):=if tapeE xs=0 then recR xs else []
theorem recT_stop {xs:List Int} {f p:Nat} (h:¬ 0 < stepI xs p):recT xs (f+1) p=[]:=by simp [recT,h]
theorem recT_go {xs:List Int} {f p n:Nat} (h:stepI xs p=(n:Int)) (hn:0 < n):recT xs (f+1) p=((xs.drop (p+1)).take n)::recT xs f (p+n+1):=by
  rw [recT,h,if_pos (by omega)];simp

/-- a record: a block of its own, other than a given one -/
def Rec (W:World) (blk:Option Nat) (u:Value) (ws:List Int):Prop:=
  ∃ g c,u=.slice (some ⟨g,0,none⟩) ws.length c∧ws.length≤c∧ws.length≤64∧Own W g (ws.map U32)∧blk≠some g
theorem Rec.below {W W':World} {blk:Option Nat} {u:Value} {ws:List Int} (h:Rec W blk u ws) (hb:Below W.heap.size W W'):Rec W' blk u ws:=by
  obtain ⟨g,c,hu,h1,h2,h3,h4⟩:=h;exact ⟨g,c,hu,h1,h2,h3.below hb,h4⟩
theorem Rec.sl {W:World} {blk:Option Nat} {u:Value} {ws:List Int} (h:Rec W blk u ws):Sl W u 1 ws.length (ws.map U32):=by
  obtain ⟨g,c,hu,h1,h2,h3,h4⟩:=h;subst hu;exact h3.sl (by omega) h1 (by simp)
/-- records as they lie -/
def Recs (W:World) (base:Nat) (v:Value) (rs:List (List Int)) (us:List Value):Prop:=
  us.length=rs.length∧W.ownsRow base 25 1 v rs.length us∧∀ k,k < rs.length→Rec W v.ownBlock (us.getD k undef) (rs.getD k [])
theorem Recs.below {W W':World} {base:Nat} {v:Value} {rs:List (List Int)} {us:List Value} (h:Recs W base v rs us) (hb:Below W.heap.size W W'):Recs W' base v rs us:=by
  obtain ⟨h1,h2,h3⟩:=h;exact ⟨h1,owns_below h2 hb,fun k hk=>(h3 k hk).below hb⟩
theorem Recs.nil (W:World) (base:Nat):Recs W base (.slice none 0 0) [] []:=⟨rfl,World.ownsRow_nil _ _ _ _,fun k hk=>absurd hk (by simp)⟩
theorem recs_snoc {W W':World} {base g cap n:Nat} {v u:Value} {us:List Value} {rs:List (List Int)} {ws:List Int} (h:Recs W base v rs us) (hu:Rec W v.ownBlock u ws)
    (hown:W'.ownsRow base 25 1 (.slice (some ⟨g,0,none⟩) n cap) n (us++[u])) (hn:n=rs.length+1) (hgrow:W.grownBy W' v.ownBlock) (hg:v.ownBlock=some g∨g=W.heap.size):
    Recs W' base (.slice (some ⟨g,0,none⟩) n cap) (rs++[ws]) (us++[u]):=by
  obtain ⟨h1,h2,h3⟩:=h
  have key:∀ u ws,Rec W v.ownBlock u ws→Rec W' (some g) u ws:=by
    intro u ws h;obtain ⟨gk,c,hu,q1,q2,q3,q4⟩:=h;have hlt:=q3.lt;refine ⟨gk,c,hu,q1,q2,?_,?_⟩
    · obtain ⟨cur,e,hh,hc⟩:=q3
      exact ⟨cur,e,(hgrow.block gk hlt (fun e=>q4 e.symm)).trans hh,hc⟩
    · intro e
      injection e with e
      subst e;rcases hg with hg | hg
      · exact q4 hg
      · omega
  subst hn;refine ⟨by simp [h1],by simpa using hown,?_⟩;intro k hk;rw [List.length_append,List.length_singleton] at hk;show Rec W' (some g) _ _
  by_cases hlt:k < rs.length
  · have:=key _ _ (h3 k hlt)
    rw [List.getD_eq_getElem?_getD,List.getD_eq_getElem?_getD,List.getElem?_append_left (by omega),List.getElem?_append_left hlt]
    rwa [List.getD_eq_getElem?_getD,List.getD_eq_getElem?_getD] at this
  · have hkl:k=rs.length:=by omega
    subst hkl;have:=key _ _ hu;rw [List.getD_eq_getElem?_getD,List.getD_eq_getElem?_getD,List.getElem?_append_right (by omega),List.getElem?_append_right (by omega),h1];simpa using this

/-- what comes back: records in new memory, and two numbers -/
def GrewRecs (rs:List (List Int)) (p k:Int) (w:World) (e:Ending) (w':World):Prop:=
  ∃ v us,e=.returned (T3 v (I p) (I k))∧Recs w' w.heap.size v rs us∧Below w.heap.size w w'
def RRel (w:World) (xs:List Int) (rs:List (List Int)) (f p:Nat) (us:List Value) (v:Value) (wr:World):Prop:=
  Recs wr w.heap.size v rs us∧rs++recT xs f p=recR xs∧Below w.heap.size w wr

theorem Replayed_recs (v : Value) (xs : List Int) (w : World) (h : Sl w v 1 xs.length (xs.map U32)) (hw : ∀ x ∈ xs, W32 x) :
    Calls Tryz.prog 95 #[v] w (GrewRecs (recsOf xs) (tapeA xs) (tapeE xs) w):=by
  obtain ⟨i0,hi,hz0,hz1,hz2⟩:=info_parts infoRec;obtain ⟨j0,hj,hy0,hy1,hy2⟩:=info_parts infoU32d;have hS:=h;obtain ⟨a,cap,rfl,hn,hl,h0,hr⟩:=h;clear hl h0;cases hi1:inB xs.length 1 2048
  · have e1:tapeE xs=1:=by simp [tapeE,hi1]
    have e2:tapeA xs=0:=by simp [tapeA,e1]
    have e3:recsOf xs=[]:=by simp [recsOf,e1]
    rw [e1,e2,e3];clear e1 e2 e3 hr hw;go_enter Tryz.func95,Tryz.ntmps95
    go_wp2_with (go_at_call 57;refine (In_any _ _ _ _).mono ?_;rintro e w' ⟨rfl,rfl⟩)
    go_ret3;exact ⟨_,_,rfl,Recs.nil _ _,Below.refl _ _⟩
  · obtain ⟨l0, l1⟩ := inB_true.1 hi1
    have HE:=Lib.hid (show tapeE xs=if (tapeR xs).2 then 0 else 3 by simp [tapeE,hi1]);have HA:=Lib.hid (show tapeA xs=if tapeE xs=0 then (((tapeR xs).1:Nat):Int) else 0 from rfl);have HC:=Lib.hid (show recsOf xs=if tapeE xs=0 then recR xs else [] from rfl);have L:=Lib.hid (fun at_ W hW (ha:at_≤xs.length)=>lengthAt_any (.slice a xs.length cap) xs at_ W hW hw ha (by omega) (by omega));have HB:=Lib.hid (fun at_ (ha:at_≤xs.length)=>stepI_bd hw ha);have L0:=Lib.hid (L.out 0 w hS (Nat.zero_le _));generalize tapeA xs=RA at *;generalize tapeE xs=RE at *;generalize recsOf xs=RC at *;clear hw;go_enter Tryz.func95,Tryz.ntmps95
    go_wp2_with (first | (go_at_call 57;refine (In_any _ _ _ _).mono ?_;rintro e w' ⟨rfl,rfl⟩) | (go_at_call 138;refine (L0.out).mono ?_;rintro e w' ⟨rfl,rfl⟩))
    go_loopw [5,6,7] (fun v i n wr=>∃ (rs:List (List Int)) (us:List Value) (p f:Nat),p≤xs.length∧rs.length≤p∧i=I p∧n=I (stepI xs p)∧xs.length+1≤f+p∧Hid (runT xs f p=tapeR xs)∧Hid (RRel w xs rs f p us v wr)) (fun _ i _ _=>xs.length+1-(intOf i).toNat)
    case atStart=>exact ⟨[],[],0,xs.length+1,by omega,by simp,rfl,rfl,by omega,rfl,Recs.nil _ _,rfl,Below.refl _ _⟩
    case round=>
      obtain ⟨rs,us,p,f,hp,hkp,rfl,rfl,hf,hT,hD⟩:=hrel;obtain ⟨f,rfl⟩:∃ f',f=f'+1:=⟨f-1,by omega⟩;obtain ⟨hrecs,hacc,hbw⟩:=hD.out;have hsz:=hbw.size;obtain ⟨s1,s2,s3⟩:=HB.out p hp;rcases Int.lt_trichotomy (stepI xs p) 0 with hs | hs | hs
      · have hR:=hT.out
        rw [runT_bad hs] at hR;have E1:RE=3:=by rw [HE.out,← hR];rfl
        have E2:RA=0:=by rw [HA.out,E1];rfl
        have E3:RC=[]:=by rw [HC.out,E1];rfl
        have F1:=Lib.hid E1;have F2:=Lib.hid E2;have F3:=Lib.hid E3;clear E1 E2 E3 hR hT HE HA HC L L0 HB s1 s2 s3 hrecs hacc;generalize stepI xs p=n at *;go_wp2;go_ret3;rw [F1.out,F2.out,F3.out];exact ⟨_,_,rfl,Recs.nil _ _,hbw⟩
      · have hR:=hT.out
        rw [runT_stop hs] at hR;rw [recT_stop (by omega),List.append_nil] at hacc;have E1:RE=0:=by rw [HE.out,← hR];rfl
        have E2:RA=p:=by rw [HA.out,E1,← hR];rfl
        have E3:RC=rs:=by rw [HC.out,E1,hacc];rfl
        have F1:=Lib.hid E1;have F2:=Lib.hid E2;have F3:=Lib.hid E3;have HRc:=Lib.hid hrecs;clear E1 E2 E3 hR hT HE HA HC L L0 HB s1 s2 s3 hrecs hacc hD;generalize stepI xs p=n at *;go_wp2;go_ret3;rw [F1.out,F2.out,F3.out];exact ⟨_,_,rfl,HRc.out,hbw⟩
      · have hR := hT.out
        rw [runT_go hs] at hR;obtain ⟨n,hn0⟩:=Int.eq_ofNat_of_zero_le (Int.le_of_lt hs);have hpn:=s3 hs;rw [hn0,Int.toNat_natCast] at hR;rw [hn0] at hs s2 hpn;rw [recT_go hn0 (by omega)] at hacc;have HR:=Lib.hid hR;have HAcc:=Lib.hid hacc;have HRc:=Lib.hid hrecs;rw [hn0];clear hR hT hn0 s1 s3 hacc hrecs hD;have hn1:0 < n:=by omega
        have hpn2:p+n+1≤xs.length:=by omega
        go_wp2_with (refine wpList_make_full _ rfl (.tmp 19) (.tmp 19) 25 rfl wr.heap.size 80 j0 (.int .u32 0) 1 Tryz.underlying25 hj hy0 hy1 .i64 .i64 _ _ n rfl rfl rfl rfl (by rw [hy2];omega) (by unfold maxLen;omega) (Nat.le_refl _) ?_;intro w2 hown2 hgrow;have hbel:=Below.grown (B:=wr.heap.size) (Below.refl _ wr) hgrow (Nat.le_refl _) (fun k hk=>by cases hk);have hO:=Own.of_owns (made_int hown2);clear hown2 hgrow)
        generalize wr=wO at *;obtain ⟨b,off,rfl,hb,hcell⟩:=hr.resolve_left (by omega);have hW0:Hid (∃ L:List Value,L.length=n∧(∀ j,j < 0→L.getD j undef=U32 (xs.getD (p+1+j) 0))∧Own w2 wO.heap.size L):=⟨_,by simp,fun j hj=>by omega,hO⟩;clear hO hr
        go_loopw [9] (fun i wr=>∃ q:Nat,q≤n∧i=I q∧Hid (∃ L:List Value,L.length=n∧(∀ j,j < q→L.getD j undef=U32 (xs.getD (p+1+j) 0))∧Own wr wO.heap.size L)∧Below wO.heap.size wO wr) (fun i _=>n-(intOf i).toNat)
        case atStart=>exact ⟨0,Nat.zero_le _,rfl,hW0,hbel⟩
        case round=>
          obtain ⟨q,hq,rfl,hL,hbq⟩:=hrel;obtain ⟨Lc,hLl,hLc,hOq⟩:=hL.out;have hbwq:=hbw.trans (hbq.mono hsz)
          by_cases hlt:q < n
          · have e0:=(hbwq.cell (p:=⟨b,off+(p+1+q),none⟩) hb).trans (hcell (p+1+q) (by simp;omega))
            rw [getD_map' _ _ (by omega)] at e0;have e1:=hOq.cell q (by omega);rw [Nat.zero_add] at e1;have f1:=hOq.frozen q
            have hnext:=Lib.hid (show ∃ L:List Value,L.length=n∧(∀ j,j < q+1→L.getD j undef=U32 (xs.getD (p+1+j) 0))∧Own (wr.setCell ⟨wO.heap.size,q,none⟩ (U32 (xs.getD (p+1+q) 0))) wO.heap.size L from
              ⟨Lc.set q (U32 (xs.getD (p+1+q) 0)),by rw [List.length_set];exact hLl,fun j hj=>by
                rw [List.getD_eq_getElem?_getD,List.getElem?_set]
                by_cases hjq:q=j
                · subst hjq;simp [hLl,hlt]
                · rw [if_neg hjq,← List.getD_eq_getElem?_getD];exact hLc j (by omega),hOq.set q _⟩)
            have hbn:=fun x=>hbq.setCell (p:=⟨wO.heap.size,q,none⟩) (Nat.le_refl _) x;have hi0:(0:Int)≤(q:Int):=by omega
            have hi1':(q:Int) < (n:Int):=by omega
            have hj0:(0:Int)≤(p:Int)+1+q:=by omega
            have hj1:(p:Int)+1+q < (xs.length:Int):=by omega
            have hto:((p:Int)+1+(q:Int)).toNat=p+1+q:=by omega
            generalize hy:xs.getD (p+1+q) 0=y at *;clear hy;generalize Lc.getD q undef=z at *;clear hOq hLl hLc hL hcell hbwq;go_wp2;exact ⟨⟨q+1,by omega,by go_num,hnext,hbn _⟩,by simp [intOf];omega⟩
          · have hge:(n:Int)≤(q:Int):=by omega
            have hqn:q=n:=by omega
            have hLw:Lc=((xs.drop (p+1)).take n).map U32:=by
              apply List.ext_getElem
              · simp;omega
              · intro j h1 h2
                have:=hLc j (by omega);rw [List.getD_eq_getElem?_getD,List.getElem?_eq_getElem h1,List.getD_eq_getElem?_getD,List.getElem?_eq_getElem (by omega)] at this;simpa using this
            rw [hLw] at hOq;have hlw:((xs.drop (p+1)).take n).length=n:=by simp;omega
            have hRc2:=HRc.out.below hbq;have hown:=hRc2.2.1;have hbl:u5.ownBlock≠some wO.heap.size:=fun e=>by have:=(HRc.out.2.1.lt _ e).2;omega
            have hu:Hid (Rec wr u5.ownBlock (.slice (some ⟨wO.heap.size,0,none⟩) n n) ((xs.drop (p+1)).take n)):=by
              refine ⟨wO.heap.size,n,by rw [hlw],by omega,by omega,hOq,hbl⟩
            have HRc3:=Lib.hid hRc2;have hszq:=hbwq.size;clear hOq hLl hLc hL hcell hLw hqn hRc2 hbl HRc
            go_wp2_with (first
              | (at_builtin;refine wpList_append_lies _ rfl _ _ 101 rfl w.heap.size 25 i0 (.slice none 0 0) 1 24 Tryz.underlying101 hi hz0 hz1 hz2 rfl (by decide) _ _ us rfl (hown.alloc _) ⟨wr.heap.size,0,none⟩ 1 1 [.slice (some ⟨wO.heap.size,0,none⟩) n n] rfl rfl (news_lit _ _ _) (oneCells_lit rfl) (by omega) (by unfold maxLen;omega) (by omega) (by simp;omega) _ rfl ?_;intro gg cap2 w1 hown' hgrow hat hlt1)
              | (go_at_call 138;rw [show ((p:Int)+n+1)=((p+n+1:Nat):Int) by omega];refine (L.out (p+n+1) _ (hS.below (grown_below (hbwq.alloc hszq _) (hown.alloc _) (Nat.le_refl _) hgrow)) hpn2).mono ?_;rintro e w' ⟨rfl,rfl⟩))
            have hbel2:=grown_below (hbwq.alloc hszq _) (hown.alloc _) (Nat.le_refl _) hgrow;have hR2:=recs_snoc (HRc3.out.below (boxed_below wr _)) (hu.out.below (boxed_below wr _)) hown' rfl hgrow hat;exact ⟨⟨rs++[(xs.drop (p+1)).take n],us++[.slice (some ⟨wO.heap.size,0,none⟩) n n],p+n+1,f,by omega,by simp;omega,eI (by omega),rfl,by omega,HR,⟨hR2,by rw [← HAcc.out];simp,hbel2⟩⟩,by simp [intOf];omega⟩
end
section
open Go.RowKit

theorem info_events:(Tryz.prog.info? 48).map (fun i=>(i.zero,i.size,i.bytes))=some (some (.agg #[.int .i64 0,.int .i64 0,.int .i64 0,.int .i64 0,.int .i64 0,.int .i64 0,.int .i64 0,.int .i64 0,.int .i64 0,.int .i64 0,.int .i64 0,.int .i64 0,.int .i64 0]),13,104):=by kernel_rfl

end
section
open Go Go.RowKit

def decEv (r:List Int):AEvent:=⟨decX r 0,decX r 1,decX r 2,⟨decX r 3,decX r 4,decX r 5,decX r 6,decX r 7,decX r 8,decX r 9⟩,decX r 10,⟨decX r 11,decX r 12⟩⟩
theorem decVal_ev (r:List Int):decVal r=(decEv r).v:=rfl
/-- the records from a place on: code, events -/
def runK:List AEvent→List (List Int)→Int×List AEvent
  | acc,[]=>(0,acc)
  | acc,r::rs=>if decE r=0 then runK (acc++[decEv r]) rs else (decE r,[])
def keptR (xs:List Int):Int×List AEvent:=if tapeE xs=0 then runK [] (recR xs) else (tapeE xs,[])
def keptE (xs:List Int):Int:=(keptR xs).1
def keptL (xs:List Int):List AEvent:=(keptR xs).2
theorem runK_go {acc:List AEvent} {r:List Int} {rs:List (List Int)} (h:decE r=0):runK acc (r::rs)=runK (acc++[decEv r]) rs:=by rw [runK,if_pos h]
theorem runK_bad {acc:List AEvent} {r:List Int} {rs:List (List Int)} (h:decE r≠0):runK acc (r::rs)=(decE r,[]):=by rw [runK,if_neg h]
theorem decX_in {r:List Int} (hr:∀ x∈r,W32 x) (k:Nat):0≤decX r k∧decX r k < 4294967296:=by
  unfold decX
  split
  · by_cases h:k < r.length
    · rw [List.getD_eq_getElem?_getD,List.getElem?_eq_getElem h]
      have:=hr _ (List.getElem_mem h);unfold W32 at this;simp only [Option.getD_some];omega
    · rw [List.getD_eq_getElem?_getD,List.getElem?_eq_none (by omega)]
      decide
  · decide
theorem decEv_meter {r:List Int} (hr:∀ x∈r,W32 x):I64 (decEv r).meter:=by
  have:=decX_in hr 1;show I64 (decX r 1);unfold I64;omega
theorem runK_meter:∀ (rs:List (List Int)) (acc:List AEvent),(∀ r∈rs,∀ x∈r,W32 x)→(∀ v∈acc,I64 v.meter)→∀ v∈(runK acc rs).2,I64 v.meter
  | [],acc,_,ha=>ha
  | r :: rs, acc, hr, ha => by
    by_cases h:decE r=0
    · rw [runK_go h]
      refine runK_meter rs _ (fun q hq=>hr q (List.mem_cons_of_mem _ hq)) (fun v hv=>?_)
      rcases List.mem_append.1 hv with hv | hv
      · exact ha v hv
      · rw [List.mem_singleton.1 hv];exact decEv_meter (hr r (List.mem_cons_self ..))
    · rw [runK_bad h]
      exact fun v hv=>absurd hv (by simp)
theorem recT_w32 {xs : List Int} (hw : ∀ x ∈ xs, W32 x) : ∀ (f p : Nat), ∀ r ∈ recT xs f p, ∀ x ∈ r, W32 x
  | 0,p=>fun r hr=>absurd hr (by simp [recT])
  | f + 1, p => by
    rw [recT]
    split
    · intro r hr
      rcases List.mem_cons.1 hr with hr | hr
      · subst hr
        exact fun x hx=>hw x (List.mem_of_mem_drop (List.mem_of_mem_take hx))
      · exact recT_w32 hw f _ r hr
    · exact fun r hr=>absurd hr (by simp)
theorem keptL_meter {xs:List Int} (hw:∀ x∈xs,W32 x):∀ v∈keptL xs,I64 v.meter:=by
  unfold keptL keptR
  split
  · exact runK_meter _ [] (recT_w32 hw _ _) (fun v hv=>absurd hv (by simp))
  · exact fun v hv=>absurd hv (by simp)
theorem recT_len:∀ (xs:List Int) (f p:Nat),(recT xs f p).length≤f
  | _,0,_=>Nat.le_refl _
  | xs,f+1,p=>by
    rw [recT]
    split
    · rw [List.length_cons];exact Nat.succ_le_succ (recT_len xs f _)
    · exact Nat.zero_le _
theorem recR_len {xs:List Int} (h:tapeE xs=0):(recR xs).length≤2049:=by
  have h1:=recT_len xs (xs.length+1) 0
  have h2:inB xs.length 1 2048=true:=by
    unfold tapeE at h
    split at h
    · assumption
    · cases h
  have:=(inB_true.1 h2).2;unfold recR;omega
theorem runK_len:∀ (rs:List (List Int)) (acc:List AEvent),(runK acc rs).2.length≤acc.length+rs.length
  | [],acc=>Nat.le_refl _
  | r :: rs, acc => by
    by_cases h:decE r=0
    · rw [runK_go h]
      have:=runK_len rs (acc++[decEv r])
      simp at this ⊢
      omega
    · rw [runK_bad h]
      exact Nat.zero_le _
theorem keptL_len (xs:List Int):(keptL xs).length≤2049:=by
  unfold keptL keptR
  split
  · rename_i h
    have:=runK_len (recR xs) [];have:=recR_len h;simp at *;omega
  · exact Nat.zero_le _

/-- what the reference's Kept, and the program's walk, hand back -/
def KeptP (xs:List Int) (w:World) (e:Ending) (w':World):Prop:=
  ∃ v,e=.returned (T2 v (I (keptE xs)))∧Sl w' v 13 (keptL xs).length ((keptL xs).flatMap AEvent.cells)∧Below w.heap.size w w'
theorem KeptP.bad {xs:List Int} {w w':World} {k:Int} (h:keptR xs=(k,[])) (hb:Below w.heap.size w w'):KeptP xs w (.returned (T2 (.slice none 0 0) (I k))) w':=by
  unfold KeptP keptE keptL;rw [h];exact ⟨_,rfl,Sl.nil _ _,hb⟩
theorem KeptP.good {xs:List Int} {w w':World} {v:Value} {l:List AEvent} (h:keptR xs=(0,l)) (hS:Sl w' v 13 l.length (l.flatMap AEvent.cells)) (hb:Below w.heap.size w w'):KeptP xs w (.returned (T2 v (I 0))) w':=by
  unfold KeptP keptE keptL;rw [h];exact ⟨_,rfl,hS,hb⟩
theorem keptR_tape {xs:List Int} (h:tapeE xs≠0):keptR xs=(tapeE xs,[]):=by unfold keptR;rw [if_neg h]
theorem keptR_run {xs:List Int} (h:tapeE xs=0):keptR xs=runK [] (recR xs):=by unfold keptR;rw [if_pos h]

/-- the book that a disk holds -/
def loadE (t:PTerms) (xs:List Int):Int:=if keptE xs=0 then (bookR t (keptL xs)).1 else keptE xs
def loadC (t:PTerms) (xs:List Int):List PCust:=if keptE xs=0 then (bookR t (keptL xs)).2.2 else []
def LoadP (t:PTerms) (xs:List Int) (w:World) (e:Ending) (w':World):Prop:=
  ∃ v ys,e=.returned (T2 (.agg #[v]) (I (loadE t xs)))∧BookAt w' w.heap.size v (loadC t xs) ys∧Below w.heap.size w w'
theorem LoadP.bad {t:PTerms} {xs:List Int} {w w':World} {k:Int} (h:keptE xs=k) (hk:k≠0) (hb:Below w.heap.size w w'):LoadP t xs w (.returned (T2 (.agg #[.slice none 0 0]) (I k))) w':=by
  unfold LoadP loadE loadC;rw [h,if_neg hk,if_neg hk];exact ⟨_,[],rfl,BookAt.nil _ _,hb⟩
theorem LoadP.good {t:PTerms} {xs:List Int} {w w':World} {v:Value} {B:Nat} {ys:List ACust} {k:Int} {cs:List PCust} (h:keptE xs=0) (hk:(bookR t (keptL xs)).1=k) (hc:(bookR t (keptL xs)).2.2=cs) (hB:BookAt w' B v cs ys) (hw:w.heap.size≤B) (hb:Below w.heap.size w w'):
    LoadP t xs w (.returned (T2 (.agg #[v]) (I k))) w':=by
  unfold LoadP loadE loadC;rw [h,if_pos rfl,if_pos rfl,hk,hc];exact ⟨_,ys,rfl,hB.mono hw,hb⟩
theorem loadE_kept {t:PTerms} {xs:List Int} (h:loadE t xs=0):keptE xs=0:=by
  unfold loadE at h
  split at h
  · assumption
  · exact h
theorem loadC_bd (t:PTerms) (xs:List Int):(loadC t xs).length≤120∧∀ c∈loadC t xs,c.sold.length≤120:=by
  unfold loadC
  split
  · exact bookR_bd t _
  · exact ⟨Nat.zero_le _,fun c hc=>absurd hc (by simp)⟩
end
section
open Go Go.RowKit

def DecRel (W:World) (l:List Int) (k:Nat) (wr:World):Prop:=Own wr W.heap.size (mixD l k)∧Own wr (W.heap.size+1) [I 0]∧Below W.heap.size W wr
theorem DecRel.next {W wr:World} {l:List Int} {k:Nat} (h:DecRel W l k wr):DecRel W l (k+1) (wr.setCell ⟨W.heap.size,k,none⟩ (I (l.getD k 0))):=by
  obtain ⟨h1,h2,h3⟩:=h;refine ⟨?_,h2.other (by simp) _,h3.setCell (by simp) _⟩;have:=h1.set k (I (l.getD k 0));rw [mixD_set] at this;exact this
def list13 (l:List Int):Prop:=l=[l.getD 0 0,l.getD 1 0,l.getD 2 0,l.getD 3 0,l.getD 4 0,l.getD 5 0,l.getD 6 0,l.getD 7 0,l.getD 8 0,l.getD 9 0,l.getD 10 0,l.getD 11 0,l.getD 12 0]
theorem mixD_full (l:List Int):mixD l 13=[I (l.getD 0 0),I (l.getD 1 0),I (l.getD 2 0),I (l.getD 3 0),I (l.getD 4 0),I (l.getD 5 0),I (l.getD 6 0),I (l.getD 7 0),I (l.getD 8 0),I (l.getD 9 0),I (l.getD 10 0),I (l.getD 11 0),I (l.getD 12 0)]:=rfl
theorem Decode_no (v:Value) (l:List Int) (w:World) (hlen:l.length=13) (hw:∀ k,k < 13→0≤l.getD k 0∧l.getD k 0 < 4294967296) (hS:Sl w v 1 13 (l.map U32)) (hb:evL l=false):Calls Tryz.prog 39 #[v] w (DecdP l w):=by
  have HE:=Lib.hid (show decE l=5 by unfold decE;rw [if_pos hlen,hb];rfl);have C:=Lib.hid (fun W=>check_any (l.getD 1 0) (l.getD 2 0) (l.getD 3 0) (l.getD 4 0) (l.getD 5 0) (l.getD 6 0) (l.getD 7 0) (l.getD 8 0) (l.getD 9 0) (l.getD 10 0) (l.getD 11 0) (l.getD 12 0) (l.getD 0 0) W);unfold evL at hb;rw [hb] at C;clear hb;have hmf:=hmf_any;have N:=Lib.hid (fun W=>want_yes 1 W);have F:=Lib.hid (fun W=>fields_any w.heap.size W);have HI:=Lib.hid (fun k hk W=>index13 w.heap.size k hk W);obtain ⟨a,cap,rfl,hn,hl,h0,hr⟩:=hS;obtain ⟨b,off,rfl,hbl,hcl⟩:=hr.resolve_left (by decide)
  have HC:Hid (∀ W,Below w.heap.size w W→∀ k,k < 13→W.cell? ⟨b,off+k,none⟩=some (U32 (l.getD k 0))):=Lib.hid fun W hW k hk=>by
    rw [hW.cell (p:=⟨b,off+k,none⟩) hbl,hcl k (by rw [hl];omega)];rw [List.getD_eq_getElem?_getD,List.getElem?_map,List.getD_eq_getElem?_getD];have:k < l.length:=by omega
    rw [List.getElem?_eq_getElem this]
    rfl
  have HW:=Lib.hid hw;have hO:=Own.new (w:=w.alloc (.cells z13.toArray 48)) (g:=w.heap.size+1) (by simp) [I 0] 27;have hV:=(Own.new (w:=w) rfl z13 48).alloc (.cells #[I 0] 27);have kk:Below w.heap.size w ((w.alloc (.cells z13.toArray 48)).alloc (.cells #[I 0] 27)):=(boxed_below w _).alloc (by simp) _;have HO:=Lib.hid hO;have HV:=Lib.hid hV;have KK:=Lib.hid kk;have HBL:=Lib.hid hbl;clear hO hV kk hl h0 hr hcl hw hbl
  go_enter_defers Tryz.func39,Tryz.ntmps39
  go_wp2_with fail
  refine (N.out _).mono ?_;rintro e w1 ⟨rfl,rfl⟩
  go_wp2_with fail
  refine (F.out _).mono ?_;rintro e w2 ⟨rfl,k2⟩;have hD0:Hid (DecRel w l 0 w2):=⟨HV.out.below k2,HO.out.below k2,KK.out.trans (k2.mono KK.out.size)⟩;clear HO HV KK k2 F N;go_wp2
  go_loopw [4,5,12] (fun _ _ i wr=>∃ k:Nat,k≤13∧i=I k∧Hid (DecRel w l k wr)) (fun _ _ i _=>13-(intOf i).toNat)
  case atStart=>exact ⟨0,by decide,rfl,hD0⟩
  case round=>
    obtain ⟨k,hk,rfl,hD⟩:=hrel;obtain ⟨oV,oO,hbw⟩:=hD.out
    by_cases hlt:k < 13
    · have hix:=fun W=>HI.out k hlt W
      have hcell:=HC.out wr hbw k hlt;obtain ⟨x0,x1⟩:=HW.out k hlt;have hnew:=Lib.hid hD.out.next;have gcell:=oV.cell k (by simp [mixD];exact hlt);rw [Nat.zero_add] at gcell;have gfz:=oV.frozen k;generalize (mixD l k).getD k undef=old at *;generalize l.getD k 0=x at *;have hwx:IntKind.i64.wrap x=x:=IntWalk.i64_in _ (by omega);have hsk:(k:Int) < 13:=by omega
      have hsk0:(0:Int)≤(k:Int):=by omega
      clear hD oV oO;go_wp2;exact ⟨⟨k+1,by omega,by go_num,hnew⟩,by simp [intOf];try omega⟩
    · obtain rfl:k=13:=by omega
      rw [mixD_full] at oV;have vO:=oV;have vfA:=vO.f;have v0:=vO.c0;have v1:=vO.c1;have v2:=vO.c2;have v3:=vO.c3;have v4:=vO.c4;have v5:=vO.c5;have v6:=vO.c6;have v7:=vO.c7;have v8:=vO.c8;have v9:=vO.c9;have v10:=vO.c10;have v11:=vO.c11;have v12:=vO.c12;clear vO;clear hD0 hD HC HI HW hlt hk;generalize hy0:l.getD 0 0=y0 at *;have HY0:=Lib.hid hy0;clear hy0;generalize hy1:l.getD 1 0=y1 at *;have HY1:=Lib.hid hy1;clear hy1;generalize hy2:l.getD 2 0=y2 at *;have HY2:=Lib.hid hy2;clear hy2;generalize hy3:l.getD 3 0=y3 at *;have HY3:=Lib.hid hy3;clear hy3;generalize hy4:l.getD 4 0=y4 at *;have HY4:=Lib.hid hy4;clear hy4;generalize hy5:l.getD 5 0=y5 at *;have HY5:=Lib.hid hy5;clear hy5;generalize hy6:l.getD 6 0=y6 at *;have HY6:=Lib.hid hy6;clear hy6;generalize hy7:l.getD 7 0=y7 at *;have HY7:=Lib.hid hy7;clear hy7;generalize hy8:l.getD 8 0=y8 at *;have HY8:=Lib.hid hy8;clear hy8;generalize hy9:l.getD 9 0=y9 at *;have HY9:=Lib.hid hy9;clear hy9;generalize hy10:l.getD 10 0=y10 at *;have HY10:=Lib.hid hy10;clear hy10;generalize hy11:l.getD 11 0=y11 at *;have HY11:=Lib.hid hy11;clear hy11;generalize hy12:l.getD 12 0=y12 at *;have HY12:=Lib.hid hy12;clear hy12;have HV:=Lib.hid oV;have HO:=Lib.hid oO;have HK:=Lib.hid hbw;clear oV oO hbw
      go_wp2_with fail
      refine (C.out _).mono ?_;rintro e w7 ⟨he,k7⟩;simp only [Bool.false_eq_true,if_false] at he;subst he;have hO:=HO.out.below k7;have hV:=HV.out.below k7;have kk:=HK.out.trans (k7.mono HK.out.size);clear HO HV HK k7 C v0 v1 v2 v3 v4 v5 v6 v7 v8 v9 v10 v11 v12 vfA;have hg:=hO.lt;have cO:=hO;have cf0:=cO.f 0;have c0:=cO.c0;clear cO;refine leaves_cons (f:=73) (args:=#[.pointer (some ⟨w.heap.size+1,0,none⟩),.pointer (some ⟨w.heap.size,0,none⟩)]) (by simp) (by simp [go_sem]) ?_;refine (dec_pan (w.heap.size+1) w.heap.size 0 5 _ _ _ _ _ _ _ _ _ _ _ _ _ [] _ (by decide) (by omega) hV hg c0 cf0).mono ?_;rintro e u' w'' ⟨rfl,rfl,w8,k8,rfl⟩;rw [if_neg (by decide)];have hO8:=((hO.below k8).set 0 (I 5));have hV8:=(hV.below k8).other (a:=⟨w.heap.size+1,0,none⟩) (by simp) (I 5);have kf:=zero13_below (gv:=w.heap.size) ((kk.trans (k8.mono kk.size)).setCell (p:=⟨w.heap.size+1,0,none⟩) (by simp) (I 5)) (Nat.le_refl _);have hO9:=zero13_other hO8 (show w.heap.size≠w.heap.size+1 by omega);have hV9:=zero13_own hV8;generalize zero13 (w8.setCell ⟨w.heap.size+1,0,none⟩ (I 5)) w.heap.size=w9 at *;clear hO8 hV8 k8 c0 cf0;have cO:=hO9;have cf0:=cO.f 0;have c0:=cO.c0;clear cO;have vO:=hV9;have vfA:=vO.f;have v0:=vO.c0;have v1:=vO.c1;have v2:=vO.c2;have v3:=vO.c3;have v4:=vO.c4;have v5:=vO.c5;have v6:=vO.c6;have v7:=vO.c7;have v8:=vO.c8;have v9:=vO.c9;have v10:=vO.c10;have v11:=vO.c11;have v12:=vO.c12;clear vO;(try simp only [List.set_cons_zero] at c0);simp [Leaves,settle,results,Tryz.results39,go_sem,c0,v0,v1,v2,v3,v4,v5,v6,v7,v8,v9,v10,v11,v12];exact DecdP.bad HE.out (by decide) kf
theorem Decode_yes (v:Value) (l:List Int) (w:World) (hlen:l.length=13) (hw:∀ k,k < 13→0≤l.getD k 0∧l.getD k 0 < 4294967296) (hS:Sl w v 1 13 (l.map U32)) (hb:evL l=true):Calls Tryz.prog 39 #[v] w (DecdP l w):=by
  have HE:=Lib.hid (show decE l=0 by unfold decE;rw [if_pos hlen,hb];rfl);have C:=Lib.hid (fun W=>check_any (l.getD 1 0) (l.getD 2 0) (l.getD 3 0) (l.getD 4 0) (l.getD 5 0) (l.getD 6 0) (l.getD 7 0) (l.getD 8 0) (l.getD 9 0) (l.getD 10 0) (l.getD 11 0) (l.getD 12 0) (l.getD 0 0) W);unfold evL at hb;rw [hb] at C;clear hb;have hmf:=hmf_any;have N:=Lib.hid (fun W=>want_yes 1 W);have F:=Lib.hid (fun W=>fields_any w.heap.size W);have HI:=Lib.hid (fun k hk W=>index13 w.heap.size k hk W);obtain ⟨a,cap,rfl,hn,hl,h0,hr⟩:=hS;obtain ⟨b,off,rfl,hbl,hcl⟩:=hr.resolve_left (by decide)
  have HC:Hid (∀ W,Below w.heap.size w W→∀ k,k < 13→W.cell? ⟨b,off+k,none⟩=some (U32 (l.getD k 0))):=Lib.hid fun W hW k hk=>by
    rw [hW.cell (p:=⟨b,off+k,none⟩) hbl,hcl k (by rw [hl];omega)];rw [List.getD_eq_getElem?_getD,List.getElem?_map,List.getD_eq_getElem?_getD];have:k < l.length:=by omega
    rw [List.getElem?_eq_getElem this]
    rfl
  have HW:=Lib.hid hw;have hO:=Own.new (w:=w.alloc (.cells z13.toArray 48)) (g:=w.heap.size+1) (by simp) [I 0] 27;have hV:=(Own.new (w:=w) rfl z13 48).alloc (.cells #[I 0] 27);have kk:Below w.heap.size w ((w.alloc (.cells z13.toArray 48)).alloc (.cells #[I 0] 27)):=(boxed_below w _).alloc (by simp) _;have HO:=Lib.hid hO;have HV:=Lib.hid hV;have KK:=Lib.hid kk;have HBL:=Lib.hid hbl;clear hO hV kk hl h0 hr hcl hw hbl
  go_enter_defers Tryz.func39,Tryz.ntmps39
  go_wp2_with fail
  refine (N.out _).mono ?_;rintro e w1 ⟨rfl,rfl⟩
  go_wp2_with fail
  refine (F.out _).mono ?_;rintro e w2 ⟨rfl,k2⟩;have hD0:Hid (DecRel w l 0 w2):=⟨HV.out.below k2,HO.out.below k2,KK.out.trans (k2.mono KK.out.size)⟩;clear HO HV KK k2 F N;go_wp2
  go_loopw [4,5,12] (fun _ _ i wr=>∃ k:Nat,k≤13∧i=I k∧Hid (DecRel w l k wr)) (fun _ _ i _=>13-(intOf i).toNat)
  case atStart=>exact ⟨0,by decide,rfl,hD0⟩
  case round=>
    obtain ⟨k,hk,rfl,hD⟩:=hrel;obtain ⟨oV,oO,hbw⟩:=hD.out
    by_cases hlt:k < 13
    · have hix:=fun W=>HI.out k hlt W
      have hcell:=HC.out wr hbw k hlt;obtain ⟨x0,x1⟩:=HW.out k hlt;have hnew:=Lib.hid hD.out.next;have gcell:=oV.cell k (by simp [mixD];exact hlt);rw [Nat.zero_add] at gcell;have gfz:=oV.frozen k;generalize (mixD l k).getD k undef=old at *;generalize l.getD k 0=x at *;have hwx:IntKind.i64.wrap x=x:=IntWalk.i64_in _ (by omega);have hsk:(k:Int) < 13:=by omega
      have hsk0:(0:Int)≤(k:Int):=by omega
      clear hD oV oO;go_wp2;exact ⟨⟨k+1,by omega,by go_num,hnew⟩,by simp [intOf];try omega⟩
    · obtain rfl:k=13:=by omega
      rw [mixD_full] at oV;have vO:=oV;have vfA:=vO.f;have v0:=vO.c0;have v1:=vO.c1;have v2:=vO.c2;have v3:=vO.c3;have v4:=vO.c4;have v5:=vO.c5;have v6:=vO.c6;have v7:=vO.c7;have v8:=vO.c8;have v9:=vO.c9;have v10:=vO.c10;have v11:=vO.c11;have v12:=vO.c12;clear vO;clear hD0 hD HC HI HW hlt hk;generalize hy0:l.getD 0 0=y0 at *;have HY0:=Lib.hid hy0;clear hy0;generalize hy1:l.getD 1 0=y1 at *;have HY1:=Lib.hid hy1;clear hy1;generalize hy2:l.getD 2 0=y2 at *;have HY2:=Lib.hid hy2;clear hy2;generalize hy3:l.getD 3 0=y3 at *;have HY3:=Lib.hid hy3;clear hy3;generalize hy4:l.getD 4 0=y4 at *;have HY4:=Lib.hid hy4;clear hy4;generalize hy5:l.getD 5 0=y5 at *;have HY5:=Lib.hid hy5;clear hy5;generalize hy6:l.getD 6 0=y6 at *;have HY6:=Lib.hid hy6;clear hy6;generalize hy7:l.getD 7 0=y7 at *;have HY7:=Lib.hid hy7;clear hy7;generalize hy8:l.getD 8 0=y8 at *;have HY8:=Lib.hid hy8;clear hy8;generalize hy9:l.getD 9 0=y9 at *;have HY9:=Lib.hid hy9;clear hy9;generalize hy10:l.getD 10 0=y10 at *;have HY10:=Lib.hid hy10;clear hy10;generalize hy11:l.getD 11 0=y11 at *;have HY11:=Lib.hid hy11;clear hy11;generalize hy12:l.getD 12 0=y12 at *;have HY12:=Lib.hid hy12;clear hy12;have HV:=Lib.hid oV;have HO:=Lib.hid oO;have HK:=Lib.hid hbw;clear oV oO hbw
      go_wp2_with fail
      refine (C.out _).mono ?_;rintro e w7 ⟨he,k7⟩;simp only [if_true] at he;subst he;have hO:=HO.out.below k7;have hV:=HV.out.below k7;have kk:=HK.out.trans (k7.mono HK.out.size);clear HO HV HK k7 C v0 v1 v2 v3 v4 v5 v6 v7 v8 v9 v10 v11 v12 vfA;have vO:=hV;have vfA:=vO.f;have v0:=vO.c0;have v1:=vO.c1;have v2:=vO.c2;have v3:=vO.c3;have v4:=vO.c4;have v5:=vO.c5;have v6:=vO.c6;have v7:=vO.c7;have v8:=vO.c8;have v9:=vO.c9;have v10:=vO.c10;have v11:=vO.c11;have v12:=vO.c12;clear vO;have cO:=hO;have cf0:=cO.f 0;have c0:=cO.c0;clear cO;have HO:=Lib.hid hO;have HV:=Lib.hid hV;have KK:=Lib.hid kk;have r1:=set_same;have r2:=set_off;have r3:=set_blk;clear hO hV kk;go_wp2;refine leaves_cons (f:=73) (args:=#[.pointer (some ⟨w.heap.size+1,0,none⟩),.pointer (some ⟨w.heap.size,0,none⟩)]) (by simp) (by simp [go_sem]) ?_;have oV2:Own ((((((((((((((w7.setCell ⟨w.heap.size,0,none⟩ (I y0)).setCell ⟨w.heap.size,1,none⟩ (I y1)).setCell ⟨w.heap.size,2,none⟩ (I y2)).setCell ⟨w.heap.size,3,none⟩ (I y3)).setCell ⟨w.heap.size,4,none⟩ (I y4)).setCell ⟨w.heap.size,5,none⟩ (I y5)).setCell ⟨w.heap.size,6,none⟩ (I y6)).setCell ⟨w.heap.size,7,none⟩ (I y7)).setCell ⟨w.heap.size,8,none⟩ (I y8)).setCell ⟨w.heap.size,9,none⟩ (I y9)).setCell ⟨w.heap.size,10,none⟩ (I y10)).setCell ⟨w.heap.size,11,none⟩ (I y11)).setCell ⟨w.heap.size,12,none⟩ (I y12)).setCell ⟨w.heap.size+1,0,none⟩ (I 0)) w.heap.size [I y0,I y1,I y2,I y3,I y4,I y5,I y6,I y7,I y8,I y9,I y10,I y11,I y12]:=((((((((((((((HV.out.set 0 (I y0)).set 1 (I y1)).set 2 (I y2)).set 3 (I y3)).set 4 (I y4)).set 5 (I y5)).set 6 (I y6)).set 7 (I y7)).set 8 (I y8)).set 9 (I y9)).set 10 (I y10)).set 11 (I y11)).set 12 (I y12)).other (a:=⟨w.heap.size+1,0,none⟩) (by simp) (I 0));have oO2:Own ((((((((((((((w7.setCell ⟨w.heap.size,0,none⟩ (I y0)).setCell ⟨w.heap.size,1,none⟩ (I y1)).setCell ⟨w.heap.size,2,none⟩ (I y2)).setCell ⟨w.heap.size,3,none⟩ (I y3)).setCell ⟨w.heap.size,4,none⟩ (I y4)).setCell ⟨w.heap.size,5,none⟩ (I y5)).setCell ⟨w.heap.size,6,none⟩ (I y6)).setCell ⟨w.heap.size,7,none⟩ (I y7)).setCell ⟨w.heap.size,8,none⟩ (I y8)).setCell ⟨w.heap.size,9,none⟩ (I y9)).setCell ⟨w.heap.size,10,none⟩ (I y10)).setCell ⟨w.heap.size,11,none⟩ (I y11)).setCell ⟨w.heap.size,12,none⟩ (I y12)).setCell ⟨w.heap.size+1,0,none⟩ (I 0)) (w.heap.size+1) [I 0]:=((((((((((((((HO.out.other (a:=⟨w.heap.size,0,none⟩) (by simp) (I y0)).other (a:=⟨w.heap.size,1,none⟩) (by simp) (I y1)).other (a:=⟨w.heap.size,2,none⟩) (by simp) (I y2)).other (a:=⟨w.heap.size,3,none⟩) (by simp) (I y3)).other (a:=⟨w.heap.size,4,none⟩) (by simp) (I y4)).other (a:=⟨w.heap.size,5,none⟩) (by simp) (I y5)).other (a:=⟨w.heap.size,6,none⟩) (by simp) (I y6)).other (a:=⟨w.heap.size,7,none⟩) (by simp) (I y7)).other (a:=⟨w.heap.size,8,none⟩) (by simp) (I y8)).other (a:=⟨w.heap.size,9,none⟩) (by simp) (I y9)).other (a:=⟨w.heap.size,10,none⟩) (by simp) (I y10)).other (a:=⟨w.heap.size,11,none⟩) (by simp) (I y11)).other (a:=⟨w.heap.size,12,none⟩) (by simp) (I y12)).set 0 (I 0));have kk2:Below w.heap.size w ((((((((((((((w7.setCell ⟨w.heap.size,0,none⟩ (I y0)).setCell ⟨w.heap.size,1,none⟩ (I y1)).setCell ⟨w.heap.size,2,none⟩ (I y2)).setCell ⟨w.heap.size,3,none⟩ (I y3)).setCell ⟨w.heap.size,4,none⟩ (I y4)).setCell ⟨w.heap.size,5,none⟩ (I y5)).setCell ⟨w.heap.size,6,none⟩ (I y6)).setCell ⟨w.heap.size,7,none⟩ (I y7)).setCell ⟨w.heap.size,8,none⟩ (I y8)).setCell ⟨w.heap.size,9,none⟩ (I y9)).setCell ⟨w.heap.size,10,none⟩ (I y10)).setCell ⟨w.heap.size,11,none⟩ (I y11)).setCell ⟨w.heap.size,12,none⟩ (I y12)).setCell ⟨w.heap.size+1,0,none⟩ (I 0)):=((((((((((((((KK.out.setCell (p:=⟨w.heap.size,0,none⟩) (by simp) (I y0)).setCell (p:=⟨w.heap.size,1,none⟩) (by simp) (I y1)).setCell (p:=⟨w.heap.size,2,none⟩) (by simp) (I y2)).setCell (p:=⟨w.heap.size,3,none⟩) (by simp) (I y3)).setCell (p:=⟨w.heap.size,4,none⟩) (by simp) (I y4)).setCell (p:=⟨w.heap.size,5,none⟩) (by simp) (I y5)).setCell (p:=⟨w.heap.size,6,none⟩) (by simp) (I y6)).setCell (p:=⟨w.heap.size,7,none⟩) (by simp) (I y7)).setCell (p:=⟨w.heap.size,8,none⟩) (by simp) (I y8)).setCell (p:=⟨w.heap.size,9,none⟩) (by simp) (I y9)).setCell (p:=⟨w.heap.size,10,none⟩) (by simp) (I y10)).setCell (p:=⟨w.heap.size,11,none⟩) (by simp) (I y11)).setCell (p:=⟨w.heap.size,12,none⟩) (by simp) (I y12)).setCell (p:=⟨w.heap.size+1,0,none⟩) (by simp) (I 0));generalize ((((((((((((((w7.setCell ⟨w.heap.size,0,none⟩ (I y0)).setCell ⟨w.heap.size,1,none⟩ (I y1)).setCell ⟨w.heap.size,2,none⟩ (I y2)).setCell ⟨w.heap.size,3,none⟩ (I y3)).setCell ⟨w.heap.size,4,none⟩ (I y4)).setCell ⟨w.heap.size,5,none⟩ (I y5)).setCell ⟨w.heap.size,6,none⟩ (I y6)).setCell ⟨w.heap.size,7,none⟩ (I y7)).setCell ⟨w.heap.size,8,none⟩ (I y8)).setCell ⟨w.heap.size,9,none⟩ (I y9)).setCell ⟨w.heap.size,10,none⟩ (I y10)).setCell ⟨w.heap.size,11,none⟩ (I y11)).setCell ⟨w.heap.size,12,none⟩ (I y12)).setCell ⟨w.heap.size+1,0,none⟩ (I 0))=w9 at *;clear HO HV KK r1 r2 r3 c0 cf0 v0 v1 v2 v3 v4 v5 v6 v7 v8 v9 v10 v11 v12 vfA;have hg:=oO2.lt;have cO:=oO2;have cf0:=cO.f 0;have c0:=cO.c0;clear cO;refine (dec_idle (w.heap.size+1) w.heap.size _ _ _ _ _ _ _ _ _ _ _ _ _ _ (by omega) oV2 hg c0 cf0).mono ?_;rintro e u' w'' ⟨rfl,rfl,w8,k8,rfl⟩;rw [if_pos rfl];have hO8:=((oO2.below k8).set 0 (I 0));have hV8:=(oV2.below k8).other (a:=⟨w.heap.size+1,0,none⟩) (by simp) (I 0);have kf:=(kk2.trans (k8.mono kk2.size)).setCell (p:=⟨w.heap.size+1,0,none⟩) (by simp) (I 0);generalize w8.setCell ⟨w.heap.size+1,0,none⟩ (I 0)=w10 at *;clear k8 c0 cf0;have cO:=hO8;have cf0:=cO.f 0;have c0:=cO.c0;clear cO;have vO:=hV8;have vfA:=vO.f;have v0:=vO.c0;have v1:=vO.c1;have v2:=vO.c2;have v3:=vO.c3;have v4:=vO.c4;have v5:=vO.c5;have v6:=vO.c6;have v7:=vO.c7;have v8:=vO.c8;have v9:=vO.c9;have v10:=vO.c10;have v11:=vO.c11;have v12:=vO.c12
      clear vO;(try simp only [List.set_cons_zero] at c0);simp [Leaves,settle,results,Tryz.results39,go_sem,c0,v0,v1,v2,v3,v4,v5,v6,v7,v8,v9,v10,v11,v12];have hfin:=DecdP.ok HE.out kf;rw [HY0.out,HY1.out,HY2.out,HY3.out,HY4.out,HY5.out,HY6.out,HY7.out,HY8.out,HY9.out,HY10.out,HY11.out,HY12.out] at hfin;exact hfin
theorem Decode_any (v:Value) (l:List Int) (w:World) (hw:∀ x∈l,W32 x) (hS:Sl w v 1 l.length (l.map U32)):Calls Tryz.prog 39 #[v] w (DecdP l w):=by
  by_cases hlen:l.length=13
  · have hw':∀ k,k < 13→0≤l.getD k 0∧l.getD k 0 < 4294967296:=fun k hk=>by
      have hk':k < l.length:=by omega
      rw [List.getD_eq_getElem?_getD,List.getElem?_eq_getElem hk'];have h:=hw _ (List.getElem_mem hk');unfold W32 at h;simp only [Option.getD_some];omega
    rw [hlen] at hS;cases hb:evL l
    · exact Decode_no v l w hlen hw' hS hb
    · exact Decode_yes v l w hlen hw' hS hb
  · exact Decode_len v l w hS hlen
end
end Go.Proofs.YtdjgcenjonegjaaGreat
