/- receipt.Read: what its walk carries; strconv.Atoi whatever the text -/
import Derived.Test.YtfhmcahfjoliiaaGreatDoorRecBack
import Derived.Test.YtfhmcahfjoliiaaGreatDoorRecReadR
import Derived.Test.YtfhmcahfjoliiaaGreatDoorRecMap
import Derived.Test.YtfhmcahfjoliiaaGreatDoorCentsRead
set_option maxRecDepth 20000
set_option maxHeartbeats 8000000
set_option linter.unusedSimpArgs false
set_option linter.unusedVariables false
namespace Go.Proofs.YtfhmcahfjoliiaaGreatDoor
open Go Go.RowKit
open Go.Maps (Keyed)

/-- what the library's functions want of the world -/
structure EnvR (w:World):Prop where
  m:∃ m,w.cell? ⟨0,0,none⟩=some (.int .i64 m)
  s:∃ ev,w.cell? ⟨1,0,none⟩=some ev∧(ev=.nilIface∨∃ te pe,ev=.iface te pe)
  r:∃ ev,w.cell? ⟨2,0,none⟩=some ev∧(ev=.nilIface∨∃ te pe,ev=.iface te pe)
  p:PowTab w
theorem EnvR.below {w w':World} (h:EnvR w) (k:Below w.heap.size w w'):EnvR w':=by
  obtain ⟨m,hm⟩:=h.m;obtain ⟨e1,h1,q1⟩:=h.s;obtain ⟨e2,h2,q2⟩:=h.r;exact ⟨⟨m,(k.cell (p:=⟨_,0,none⟩) (block_lt_of_cell hm)).trans hm⟩,⟨e1,(k.cell (p:=⟨_,0,none⟩) (block_lt_of_cell h1)).trans h1,q1⟩,⟨e2,(k.cell (p:=⟨_,0,none⟩) (block_lt_of_cell h2)).trans h2,q2⟩,h.p.below k⟩
theorem atoi_all (t:ByteArray) (w:World) (hE:EnvR w) (hs:t.size≤400):
    Calls Tryz.prog 10 #[.string t] w (fun e w'=>∃ er,e=.returned (T2 (I (atV t)) er)∧Below w.heap.size w w'):=by
  cases hA:Go.Lib.atoiAll t.data.toList with
  | ok v=>
    have hv:atV t=v:=by unfold atV;rw [hA]
    refine (Tryz.strconv_Atoi_ok t (by omega) v hA w).mono ?_;rintro e w' ⟨rfl,h⟩;refine ⟨_,by rw [hv],?_⟩;rcases h with rfl | ⟨u,rfl⟩
    · exact Below.refl _ _
    · exact Lib.bytesWorld_below w 5 u
  | range=>
    have hv:atV t=Go.Lib.atoiSat t.data.toList:=by unfold atV;rw [hA]
    obtain ⟨ev,h1,h2⟩:=hE.r;refine (Tryz.strconv_Atoi_range t (by omega) hA ev w h1 h2).mono ?_;rintro e w' ⟨N,rfl,_,_,k⟩;exact ⟨_,by rw [hv],k⟩
  | _=>
    have hv:atV t=0:=by unfold atV;rw [hA]
    obtain ⟨ev,h1,h2⟩:=hE.s;refine (Tryz.strconv_Atoi_syntax t (by omega) hA ev w h1 h2).mono ?_;rintro e w' ⟨N,rfl,_,_,k⟩;exact ⟨_,by rw [hv],k⟩
theorem tlL_size (r:ByteArray):(tlL r).size≤r.size:=by
  have e1:r.data.toList.length=r.size:=Array.length_toList;have e2:(tlL r).size=(Go.Lib.cut r.data.toList (⟨#[32]⟩:ByteArray).data.toList).2.1.length:=by unfold tlL;exact List.size_toArray
  rw [e2,← e1];unfold Go.Lib.cut
  split
  · show (List.drop _ _).length≤_
    rw [List.length_drop];omega
  · show (List.length [])≤_
    simp
theorem hdL_size (r:ByteArray):(hdL r).size≤r.size:=by
  have e1:r.data.toList.length=r.size:=Array.length_toList;have e2:(hdL r).size=(Go.Lib.cut r.data.toList (⟨#[32]⟩:ByteArray).data.toList).1.length:=by unfold hdL;exact List.size_toArray
  rw [e2,← e1];unfold Go.Lib.cut
  split
  · show (List.take _ _).length≤_
    rw [List.length_take];omega
  · exact Nat.le_refl _
theorem splitK_size (n:Nat):∀ (k:Nat) (s:List UInt8),s.length≤n→∀ x∈Go.Lib.splitK [10] 0 k s,x.length≤n
  | 0,s,h,x,hx=>by
    have:x=s:=by simpa [Go.Lib.splitK] using hx
    rw [this];exact h
  | k + 1, s, h, x, hx => by
    unfold Go.Lib.splitK at hx
    split at hx
    · have:x=s:=by simpa using hx
      rw [this];exact h
    · rcases List.mem_cons.1 hx with h1 | h1
      · rw [h1,List.length_take];omega
      · exact splitK_size n k _ (by rw [List.length_drop];omega) x h1
theorem spl_size (s:ByteArray) (j:Nat):((spl s).getD j ⟨#[]⟩).size≤s.size:=by
  by_cases hj:j < (spl s).length
  · have hm:(spl s)[j]∈spl s:=List.getElem_mem hj
    have h2:(spl s)[j].data.toList∈Go.Lib.split s.data.toList [10]:=by rw [← spl_data];exact List.mem_map.2 ⟨_,hm,rfl⟩
    have h3:=splitK_size s.size _ _ (by rw [Array.length_toList];exact Nat.le_refl _) _ h2;rw [Array.length_toList] at h3;rw [List.getD_eq_getElem?_getD,List.getElem?_eq_getElem hj];exact h3
  · rw [List.getD_eq_getElem?_getD,List.getElem?_eq_none (by omega)]
    exact Nat.zero_le _
theorem sdN_size (s:ByteArray) (nm:ByteArray):∀ j,(sdN (spl s) j nm).size≤s.size
  | 0=>Nat.zero_le _
  | j+1=>by
    show (if _ then _ else _:ByteArray).size≤_
    split
    · exact Nat.le_trans (tlL_size _) (spl_size s j)
    · exact sdN_size s nm j
theorem spl_len (s:ByteArray):(spl s).length=Go.Lib.countB s ⟨#[10]⟩+1:=Go.Lib.splitB_all ⟨#[10]⟩ (by decide) 0 _ s rfl
theorem spl_len_le (s:ByteArray):(spl s).length≤s.size+1:=by
  rw [spl_len];have:=Go.Lib.countB_le ⟨#[10]⟩ (by decide) s.size s (Nat.le_refl _);omega

/-! ### blocks that stay -/
theorem ownsMap_below {w w':World} {R:Value→Option (DataW Unit×List MemPlace)} {b n:Nat} {D:DataW Unit} (h:w.ownsMap Tryz.prog 9 R b n D) (k:Below w.heap.size w w'):w'.ownsMap Tryz.prog 9 R b n D:=by
  have hlt:=h.lt;obtain ⟨es,clock,hb,r⟩:=h;exact ⟨es,clock,(k.block b hlt).trans hb,r⟩
theorem ownsMap_set {w:World} {R:Value→Option (DataW Unit×List MemPlace)} {b n:Nat} {D:DataW Unit} (h:w.ownsMap Tryz.prog 9 R b n D) {a:Addr} (ha:a.block≠b) (x:Value):(w.setCell a x).ownsMap Tryz.prog 9 R b n D:=by
  obtain ⟨es,clock,hb,r⟩:=h;exact ⟨es,clock,(Below.heap_setCell w a x b (fun e=>ha e.symm)).trans hb,r⟩
theorem ranges_below {w w':World} {R:Value→Option (DataW Unit×List MemPlace)} {b r n:Nat} {D:DataW Unit} {left:Lit→Bool} {cnt:Nat} (h:w.ranges Tryz.prog 9 R b r n D left cnt) (k:Below w.heap.size w w'):w'.ranges Tryz.prog 9 R b r n D left cnt:=
  h.kept (row:=none) ⟨k.os,k.tape,k.output,k.size,fun i hi _=>k.block i hi⟩ (by simp) (by simp)
theorem ranges_set {w:World} {R:Value→Option (DataW Unit×List MemPlace)} {b r n:Nat} {D:DataW Unit} {left:Lit→Bool} {cnt:Nat} (h:w.ranges Tryz.prog 9 R b r n D left cnt) {a:Addr} (h1:a.block≠b) (h2:a.block≠r) (x:Value):(w.setCell a x).ranges Tryz.prog 9 R b r n D left cnt:=
  h.kept (row:=some a.block) ⟨rfl,rfl,rfl,by simp [World.setCell],fun i hi hne=>Below.heap_setCell w a x i (fun e=>hne (by rw [e]))⟩ (fun e=>h1 (by injection e with e;exact e.symm)) (fun e=>h2 (by injection e with e;exact e.symm))
/-- the loop over the lines -/
structure RpL (w wr:World) (ls:List ByteArray) (j:Nat):Prop where
  r:Own wr w.heap.size zRec
  m:wr.ownsMap Tryz.prog 9 txR (w.heap.size+1) j (sdD ls j)
  l:Own wr (w.heap.size+1+1) (ls.map Value.string)
  b:Below w.heap.size w wr
theorem RpL.step {w wr w':World} {ls:List ByteArray} {j q:Nat} (h:RpL w wr ls j) (hm:w'.ownsMap Tryz.prog 9 txR (w.heap.size+1) (j+1) (sdD ls (j+1))) (hg:(wr.drewN q).grownBy w' (some (w.heap.size+1))):RpL w w' ls (j+1):=
  ⟨(h.r.drewN q).grown hg (fun e=>by injection e with e;omega),hm,(h.l.drewN q).grown hg (fun e=>by injection e with e;omega),(drewN_below h.b q).grown hg h.b.size (fun k hk=>by injection hk with hk;omega)⟩
theorem mapStr_get (ls:List ByteArray) (j:Nat) (hj:j < ls.length):(ls.map Value.string).getD j undef=.string (ls.getD j ⟨#[]⟩):=by
  rw [List.getD_eq_getElem?_getD,List.getD_eq_getElem?_getD,List.getElem?_map,List.getElem?_eq_getElem hj];rfl
/-- the result, what was said, the receipt -/
structure RpW (w wr:World) (ls:List ByteArray) (fb:Nat) (A:List Value):Prop where
  r:Own wr w.heap.size zRec
  m:wr.ownsMap Tryz.prog 9 txR (w.heap.size+1) ls.length (sdD ls ls.length)
  a:Own wr fb A
  b:Below w.heap.size w wr
theorem RpW.below {w wr w':World} {ls:List ByteArray} {fb:Nat} {A:List Value} (h:RpW w wr ls fb A) (k:Below wr.heap.size wr w'):RpW w w' ls fb A:=
  ⟨h.r.below k,ownsMap_below h.m k,h.a.below k,h.b.trans (k.mono h.b.size)⟩
theorem RpW.setA {w wr:World} {ls:List ByteArray} {fb:Nat} {A:List Value} (h:RpW w wr ls fb A) (h1:w.heap.size+1 < fb) (j:Nat) (x:Value):RpW w (wr.setCell ⟨fb,j,none⟩ x) ls fb (A.set j x):=
  ⟨h.r.other (by show fb≠w.heap.size;omega) x,ownsMap_set h.m (by show fb≠w.heap.size+1;omega) x,h.a.set j x,h.b.setCell (by show w.heap.size≤fb;omega) x⟩
theorem RpW.grown {w wr w':World} {ls:List ByteArray} {fb:Nat} {A:List Value} {q:Nat} (h:RpW w wr ls fb A) (hg:wr.grownBy w' (some q)) (hq:fb < q) (h1:w.heap.size+1 < fb):RpW w w' ls fb A:=
  ⟨h.r.grown hg (fun e=>by injection e with e;omega),h.m.kept hg (fun e=>by injection e with e;omega),h.a.grown hg (fun e=>by injection e with e;omega),h.b.grown hg h.b.size (fun k hk=>by injection hk with hk;omega)⟩
theorem RpW.grown0 {w wr w':World} {ls:List ByteArray} {fb:Nat} {A:List Value} (h:RpW w wr ls fb A) (hg:wr.grownBy w' none):RpW w w' ls fb A:=
  ⟨h.r.grown hg (by simp),h.m.kept hg (by simp),h.a.grown hg (by simp),h.b.grown hg h.b.size (fun k hk=>by cases hk)⟩
/-! ### who is left to come -/
def lf (left:Lit→Bool) (nm:ByteArray) (v:Int):Value:=if left (kyS nm)=true then I 0 else I v
theorem lf_hit (left:Lit→Bool) (nm:ByteArray) (v:Int):lf (fun z=>left z&&!z.sameKey (kyS nm)) nm v=I v:=by
  have e:(fun z:Lit=>left z&&!z.sameKey (kyS nm)) (kyS nm)=false:=by
    show (left (kyS nm)&&!(kyS nm).sameKey (kyS nm))=false;rw [WideAt.sameKey_self (kyS_lit nm)];simp
  unfold lf;exact if_neg (by rw [e];decide)
theorem lf_miss (left:Lit→Bool) {nm nm':ByteArray} (h:nm≠nm') (v:Int):lf (fun z=>left z&&!z.sameKey (kyS nm')) nm v=lf left nm v:=by
  have e:(fun z:Lit=>left z&&!z.sameKey (kyS nm')) (kyS nm)=left (kyS nm):=by
    show (left (kyS nm)&&!(kyS nm).sameKey (kyS nm'))=_;rw [Maps.sameKey_ne (fun e=>h (kyS_inj e))];simp
  unfold lf
  by_cases hl:left (kyS nm)=true
  · rw [if_pos (e.trans hl),if_pos hl]
  · rw [if_neg (fun h=>hl (e.symm.trans h)),if_neg hl]
theorem lf_end {left:Lit→Bool} (h:∀ kl,left kl=false) (nm:ByteArray) (v:Int):lf left nm v=I v:=by
  unfold lf;rw [h,if_neg (by decide)]
theorem lf_start {l:List (ByteArray×Nat)} {p:ByteArray×Nat} (h:p∈l) (v:Int):lf (Maps.has (kvD l)) p.1 v=I 0:=by
  unfold lf;rw [kvD_mem l p h,if_pos rfl]
def kv2:List (ByteArray×Nat):=[(kUNITS,7),(kNUMBER,1)]
def kv5:List (ByteArray×Nat):=[(kCHANGE,6),(kPRICE,5),(kFEE,4),(kDEBT,3),(kTENDER,2)]
theorem kv2_nodup:(kv2.map (·.1)).Nodup:=by decide
theorem kv5_nodup:(kv5.map (·.1)).Nodup:=by decide
def A2 (left:Lit→Bool) (me v1 v7:Int) (tk:ByteArray):List Value:=[I me,lf left kNUMBER v1,I 0,I 0,I 0,I 0,I 0,lf left kUNITS v7,.string tk]
def A5 (left:Lit→Bool) (me v1 v2 v3 v4 v5 v6 v7:Int) (tk:ByteArray):List Value:=[I me,I v1,lf left kTENDER v2,lf left kDEBT v3,lf left kFEE v4,lf left kPRICE v5,lf left kCHANGE v6,I v7,.string tk]
theorem A2_step {p:ByteArray×Nat} (hp:p∈kv2) (left:Lit→Bool) (me:Int) (tk:ByteArray) (f:ByteArray→Int):
    (A2 left me (f kNUMBER) (f kUNITS) tk).set p.2 (I (f p.1))=A2 (fun z=>left z&&!z.sameKey (kyS p.1)) me (f kNUMBER) (f kUNITS) tk∧p.2 < 9∧p.1.size≤10:=by
  simp only [kv2,List.mem_cons,List.not_mem_nil,or_false] at hp;rcases hp with rfl | rfl
  · refine ⟨?_,by decide,by decide⟩
    unfold A2;rw [lf_hit,lf_miss left (show kNUMBER≠kUNITS by decide)];rfl
  · refine ⟨?_,by decide,by decide⟩
    unfold A2;rw [lf_hit,lf_miss left (show kUNITS≠kNUMBER by decide)];rfl
theorem A5_step {p:ByteArray×Nat} (hp:p∈kv5) (left:Lit→Bool) (me v1 v7:Int) (tk:ByteArray) (f:ByteArray→Int):
    (A5 left me v1 (f kTENDER) (f kDEBT) (f kFEE) (f kPRICE) (f kCHANGE) v7 tk).set p.2 (I (f p.1))=A5 (fun z=>left z&&!z.sameKey (kyS p.1)) me v1 (f kTENDER) (f kDEBT) (f kFEE) (f kPRICE) (f kCHANGE) v7 tk∧p.2 < 9∧p.1.size≤10:=by
  simp only [kv5,List.mem_cons,List.not_mem_nil,or_false] at hp;rcases hp with rfl | rfl | rfl | rfl | rfl
  · refine ⟨?_,by decide,by decide⟩
    unfold A5;rw [lf_hit,lf_miss left (show kTENDER≠kCHANGE by decide),lf_miss left (show kDEBT≠kCHANGE by decide),lf_miss left (show kFEE≠kCHANGE by decide),lf_miss left (show kPRICE≠kCHANGE by decide)];rfl
  · refine ⟨?_,by decide,by decide⟩
    unfold A5;rw [lf_hit,lf_miss left (show kTENDER≠kPRICE by decide),lf_miss left (show kDEBT≠kPRICE by decide),lf_miss left (show kFEE≠kPRICE by decide),lf_miss left (show kCHANGE≠kPRICE by decide)];rfl
  · refine ⟨?_,by decide,by decide⟩
    unfold A5;rw [lf_hit,lf_miss left (show kTENDER≠kFEE by decide),lf_miss left (show kDEBT≠kFEE by decide),lf_miss left (show kPRICE≠kFEE by decide),lf_miss left (show kCHANGE≠kFEE by decide)];rfl
  · refine ⟨?_,by decide,by decide⟩
    unfold A5;rw [lf_hit,lf_miss left (show kTENDER≠kDEBT by decide),lf_miss left (show kFEE≠kDEBT by decide),lf_miss left (show kPRICE≠kDEBT by decide),lf_miss left (show kCHANGE≠kDEBT by decide)];rfl
  · refine ⟨?_,by decide,by decide⟩
    unfold A5;rw [lf_hit,lf_miss left (show kDEBT≠kTENDER by decide),lf_miss left (show kFEE≠kTENDER by decide),lf_miss left (show kPRICE≠kTENDER by decide),lf_miss left (show kCHANGE≠kTENDER by decide)];rfl
theorem A2_start (me v1 v7:Int) (tk:ByteArray):A2 (Maps.has (kvD kv2)) me v1 v7 tk=[I me,I 0,I 0,I 0,I 0,I 0,I 0,I 0,.string tk]:=by
  unfold A2;rw [lf_start (l:=kv2) (p:=(kNUMBER,1)) (by simp [kv2]),lf_start (l:=kv2) (p:=(kUNITS,7)) (by simp [kv2])]
theorem A5_start (me v1 v2 v3 v4 v5 v6 v7:Int) (tk:ByteArray):A5 (Maps.has (kvD kv5)) me v1 v2 v3 v4 v5 v6 v7 tk=[I me,I v1,I 0,I 0,I 0,I 0,I 0,I v7,.string tk]:=by
  unfold A5;rw [lf_start (l:=kv5) (p:=(kTENDER,2)) (by simp [kv5]),lf_start (l:=kv5) (p:=(kDEBT,3)) (by simp [kv5]),lf_start (l:=kv5) (p:=(kFEE,4)) (by simp [kv5]),lf_start (l:=kv5) (p:=(kPRICE,5)) (by simp [kv5]),lf_start (l:=kv5) (p:=(kCHANGE,6)) (by simp [kv5])]
theorem A2_end {left:Lit→Bool} (h:∀ kl,left kl=false) (me v1 v7:Int) (tk:ByteArray):A2 left me v1 v7 tk=[I me,I v1,I 0,I 0,I 0,I 0,I 0,I v7,.string tk]:=by
  unfold A2;rw [lf_end h,lf_end h]
theorem A5_end {left:Lit→Bool} (h:∀ kl,left kl=false) (me v1 v2 v3 v4 v5 v6 v7:Int) (tk:ByteArray):A5 left me v1 v2 v3 v4 v5 v6 v7 tk=[I me,I v1,I v2,I v3,I v4,I v5,I v6,I v7,.string tk]:=by
  unfold A5;rw [lf_end h,lf_end h,lf_end h,lf_end h,lf_end h]
end Go.Proofs.YtfhmcahfjoliiaaGreatDoor
