/- a strings.Builder that lies in a struct of one field (receipt's paper): copyCheck, WriteByte, WriteString, String; (*paper).line -/
import Derived.Test.YtfhmcahfjoliiaaGreatDoorPk01
import Derived.Shelf.Strings.BuilderK
import Derived.Shelf.RegionOpenPlain
set_option maxRecDepth 20000
set_option maxHeartbeats 8000000
set_option linter.unusedSimpArgs false
set_option linter.unusedVariables false
namespace Go.Proofs.YtfhmcahfjoliiaaGreatDoor
open Go Go.RowKit Go.Shelf

/-- the paper at block b, written s so far -/
def Pap (b:Nat) (s:ByteArray) (w:World):Prop:=Lib.IsBuilder 62 5 b b (Lib.strCells s) w
/-- the same, written on at least once -/
def PapU (b:Nat) (s:ByteArray) (w:World):Prop:=Lib.BuilderAt 62 5 b b (.pointer (some ⟨b,0,none⟩)) (Lib.strCells s) w
theorem PapU.pap {b:Nat} {s:ByteArray} {w:World} (h:PapU b s w):Pap b s w:=.inr h
theorem owns_belowP {w w':World} {b e sz n:Nat} {v:Value} {cs:List Value} (h:w.ownsRow b e sz v n cs) (hb:Below w.heap.size w w'):w'.ownsRow b e sz v n cs:=by
  obtain ⟨h1,h2⟩:=h;refine ⟨h1,?_⟩;rcases h2 with h2 | ⟨g,cap,cur,rfl,hg,hc,r⟩
  · exact .inl h2
  · exact .inr ⟨g,cap,cur,rfl,hg,(hb.block g (Array.getElem?_eq_some_iff.1 hc).1).trans hc,r⟩
theorem papAt_below {b:Nat} {p:Value} {bs:List Value} {w w':World} (h:Lib.BuilderAt 62 5 b b p bs w) (hb:Below w.heap.size w w'):Lib.BuilderAt 62 5 b b p bs w':=by
  have hlt:=h.lt;obtain ⟨h1,v,h2,h3,h4⟩:=h;exact ⟨h1,v,(hb.block b hlt).trans h2,owns_belowP h3 hb,h4⟩
theorem Pap.below {b:Nat} {s:ByteArray} {w w':World} (h:Pap b s w) (hb:Below w.heap.size w w'):Pap b s w':=h.elim (fun h=>.inl (papAt_below h hb)) (fun h=>.inr (papAt_below h hb))
theorem PapU.below {b:Nat} {s:ByteArray} {w w':World} (h:PapU b s w) (hb:Below w.heap.size w w'):PapU b s w':=papAt_below h hb
theorem Pap.lt {b:Nat} {s:ByteArray} {w:World} (h:Pap b s w):b < w.heap.size:=h.elim (fun h=>h.lt) (fun h=>h.lt)
theorem pap_fresh (w:World):Pap w.heap.size ⟨#[]⟩ (w.alloc (.cells #[.pointer none,.slice none 0 0] 62)):=Lib.fresh_isBuilder _ _ w
theorem strCells_cat (s t:ByteArray):Lib.strCells (s++t)=Lib.strCells s++Lib.strCells t:=by simp [Lib.strCells,ByteArray.data_append]

theorem papCheck_any (b:Nat) (s:ByteArray) (w:World) (h:Pap b s w):
    Calls Tryz.prog 75 #[.pointer (some ⟨b,0,none⟩)] w fun e w'=>e=.returned (.tuple #[])∧PapU b s w'∧Below b w w':=by
  obtain ⟨j,hj,hjs⟩:∃ j,Tryz.prog.info? 60=some j∧j.size=2:=Option.map_eq_some_iff.1 (show (Tryz.prog.info? 60).map (·.size)=some 2 by kernel_rfl);have hl:liesAt Tryz.prog Tryz.prog.depth 62 (2 / Tryz.prog.cellsOf 62) 0 60 1=true:=by kernel_rfl
  rcases h with h | h
  · have h0:=h.cell0
    have hsh:=h.shape;have hfz:=h.frozen0;have HR:=Lib.hid (And.intro (h.used (.pointer (some ⟨b,0,none⟩))) ((Below.refl b w).setCell (p:=⟨b,0,none⟩) (Nat.le_refl b) (.pointer (some ⟨b,0,none⟩))));clear h;go_enter Tryz.func75,Tryz.ntmps75;go_wp2;rw [Lib.run_to_unsafe w ⟨b,0,none⟩ Tryz.underlying57 Tryz.underlying136 hj (by rw [hjs];decide) hsh (Nat.zero_lt_succ 1)];simp only [Result.andThen];rw [Oper.upon_value];go_wp2;rw [run_callFunc_extern Tryz.func102 (by kernel_rfl) (by kernel_rfl) (by kernel_rfl) (e:=Extern.AbiNoEscape.same) (by kernel_rfl)];rw [Lib.run_noEscape];simp only [Result.andThen];rw [Oper.upon_value];go_wp2;rw [Lib.run_from_unsafe w ⟨b,0,none⟩ Tryz.underlying136 Tryz.underlying57 hj hsh hl];simp only [Result.andThen];rw [Oper.upon_value];go_wp2
    go_end0
    exact ⟨rfl,HR.out⟩
  · have h0:=h.cell0
    have HR:=Lib.hid h;clear h;go_enter Tryz.func75,Tryz.ntmps75;go_wp2;rw [Lib.run_neq_ptr_same w _ Tryz.underlying57 hj];go_wp2
    go_end0
    exact ⟨rfl,HR.out,Below.refl _ _⟩
theorem papByte_any (b:Nat) (s:ByteArray) (c:UInt8) (w:World) (h:Pap b s w) (hlen:s.size+1≤140737488355328):
    Calls Tryz.prog 58 #[.pointer (some ⟨b,0,none⟩),.int .u8 c.toNat] w fun e w'=>e=.returned .nilIface∧PapU b (s++⟨#[c]⟩) w'∧Below b w w':=by
  obtain ⟨i0,hi,hz0,hz1,hz2⟩:=info_parts (show (Tryz.prog.info? 5).map (fun i=>(i.zero,i.size,i.bytes))=some (some (.int .u8 0),1,1) by kernel_rfl);have hbl:=h.lt;have CC:=Lib.hid (papCheck_any b s w h);have HS:=Lib.hid (show Lib.strCells (s++⟨#[c]⟩)=Lib.strCells s++[.int .u8 c.toNat] from strCells_cat s ⟨#[c]⟩);have hsl:=Lib.strCells_length s;clear h;go_enter Tryz.func58,Tryz.ntmps58
  go_wp2_with fail
  refine CC.out.mono ?_;rintro e w1 ⟨rfl,h1,hb1⟩;have hlt:=Lib.BuilderAt.lt h1;obtain ⟨hB,v,hbk,hown,hne⟩:=h1;generalize (c.toNat:Int)=cc at *;rw [hsl] at hown;generalize Lib.strCells s=bs at *;generalize hss:s.size=n at *;have c0:w1.cell? ⟨b,0,none⟩=some (.pointer (some ⟨b,0,none⟩)):=by rw [Lib.cell_of_heap hbk];rfl
  have c1:w1.cell? ⟨b,1,none⟩=some v:=by rw [Lib.cell_of_heap hbk];rfl
  go_wp2_with (at_builtin;refine wpList_append_own _ rfl _ _ 58 rfl b 5 i0 (.int .u8 0) 1 1 Tryz.underlying58 hi hz0 hz1 hz2 rfl (by decide) _ _ _ rfl (hown.alloc _) ⟨w1.heap.size,0,none⟩ 1 1 [.int .u8 cc] rfl rfl (news_lit _ [.int .u8 cc] _) (oneCells_lit rfl) (by unfold maxLen;omega) (by omega) (by have:=hb1.size;simp;omega) ?_)
  intro v' w2 hown' hgrow _
  have hb2:w2.heap[b]?=some (.cells #[.pointer (some ⟨b,0,none⟩),v] 62 (0,0)):=by
    rw [hgrow.block b (by simp;omega) (fun e=>hne e.symm),Lib.alloc_old w1 _ b hlt];exact hbk
  have d0:w2.cell? ⟨b,0,none⟩=some (.pointer (some ⟨b,0,none⟩)):=by rw [Lib.cell_of_heap hb2];rfl
  have d1:w2.cell? ⟨b,1,none⟩=some v:=by rw [Lib.cell_of_heap hb2];rfl
  have f1:w2.frozen? ⟨b,1,none⟩=false:=Lib.frozen_of_heap hb2 1;have hkk:=(hb1.alloc (by have:=hb1.size;omega) (.cells #[.int .u8 cc] 5)).grown hgrow (by have:=hb1.size;simp;omega) (fun k hk=>(hown.lt k hk).1);have HP:=Lib.hid (Lib.BuilderAt.put (T:=62) (e:=5) (B:=b) (Nat.le_refl b) hb2 (bs':=bs++[.int .u8 cc]) (by rw [List.length_append,hsl];exact hown') (by decide));have HK:=Lib.hid (hkk.setCell (p:=⟨b,1,none⟩) (Nat.le_refl b) v')
  obtain ⟨ao,n',cap,rfl⟩:∃ ao n' cap,v'=.slice ao n' cap:=by
    rcases hown'.2 with ⟨hv,_⟩ | ⟨g,cap,cur,hv,_⟩
    · exact ⟨_,_,_,hv⟩
    · exact ⟨_,_,_,hv⟩
  clear hown hown' hgrow hkk hbk hb2 hb1 c0 c1 hne hB;go_wp2;go_ret;refine ⟨rfl,?_,HK.out⟩;unfold PapU;rw [HS.out];exact HP.out
theorem papString_any (b:Nat) (s t:ByteArray) (w:World) (h:Pap b s w) (hlen:s.size+t.size≤140737488355328):
    Calls Tryz.prog 48 #[.pointer (some ⟨b,0,none⟩),.string t] w fun e w'=>e=.returned (T2 (I t.size) .nilIface)∧PapU b (s++t) w'∧Below b w w':=by
  obtain ⟨i0,hi,hz0,hz1,hz2⟩:=info_parts (show (Tryz.prog.info? 5).map (fun i=>(i.zero,i.size,i.bytes))=some (some (.int .u8 0),1,1) by kernel_rfl);have hbl:=h.lt;have CC:=Lib.hid (papCheck_any b s w h);have HS:=Lib.hid (strCells_cat s t);have hsl:=Lib.strCells_length s;have htl:=Lib.strCells_length t;clear h;go_enter Tryz.func48,Tryz.ntmps48
  go_wp2_with fail
  refine CC.out.mono ?_;rintro e w1 ⟨rfl,h1,hb1⟩;have hlt:=Lib.BuilderAt.lt h1;obtain ⟨hB,v,hbk,hown,hne⟩:=h1;rw [hsl] at hown;generalize Lib.strCells s=bs at *;generalize hss:s.size=n at *;have c0:w1.cell? ⟨b,0,none⟩=some (.pointer (some ⟨b,0,none⟩)):=by rw [Lib.cell_of_heap hbk];rfl
  have c1:w1.cell? ⟨b,1,none⟩=some v:=by rw [Lib.cell_of_heap hbk];rfl
  go_wp2_with (at_builtin;refine Lib.wpList_append_own_string _ rfl _ _ 58 9 rfl b 5 i0 Tryz.underlying58 Tryz.underlying9 hi hz0 hz1 hz2 _ _ _ rfl hown t rfl (by unfold maxLen;omega) (by omega) (by have:=hb1.size;omega) ?_)
  intro v' w2 hown' hgrow _
  have hb2:w2.heap[b]?=some (.cells #[.pointer (some ⟨b,0,none⟩),v] 62 (0,0)):=by
    rw [hgrow.block b hlt (fun e=>hne e.symm)];exact hbk
  have d0:w2.cell? ⟨b,0,none⟩=some (.pointer (some ⟨b,0,none⟩)):=by rw [Lib.cell_of_heap hb2];rfl
  have d1:w2.cell? ⟨b,1,none⟩=some v:=by rw [Lib.cell_of_heap hb2];rfl
  have f1:w2.frozen? ⟨b,1,none⟩=false:=Lib.frozen_of_heap hb2 1;have hkk:=hb1.grown hgrow (by have:=hb1.size;omega) (fun k hk=>(hown.lt k hk).1);have HP:=Lib.hid (Lib.BuilderAt.put (T:=62) (e:=5) (B:=b) (Nat.le_refl b) hb2 (bs':=bs++Lib.strCells t) (by rw [List.length_append,hsl,htl];exact hown') (by decide));have HK:=Lib.hid (hkk.setCell (p:=⟨b,1,none⟩) (Nat.le_refl b) v')
  obtain ⟨ao,n',cap,rfl⟩:∃ ao n' cap,v'=.slice ao n' cap:=by
    rcases hown'.2 with ⟨hv,_⟩ | ⟨g,cap,cur,hv,_⟩
    · exact ⟨_,_,_,hv⟩
    · exact ⟨_,_,_,hv⟩
  clear hown hown' hgrow hkk hbk hb2 hb1 c0 c1 hne hB;go_wp2;go_ret2;refine ⟨rfl,?_,HK.out⟩;unfold PapU;rw [HS.out];exact HP.out
theorem papText_any (b:Nat) (s:ByteArray) (w:World) (h:Pap b s w) (h0:0 < s.size):
    Calls Tryz.prog 33 #[.pointer (some ⟨b,0,none⟩)] w fun e w'=>e=.returned (.string s)∧Below b w w':=by
  obtain ⟨p,hB,v,hbk,hown,hne⟩:∃ p,Lib.BuilderAt 62 5 b b p (Lib.strCells s) w:=by
    rcases h with h | h
    · exact ⟨_,h⟩
    · exact ⟨_,h⟩
  obtain ⟨l,hl⟩:∃ l:List UInt8,l=s.data.toList:=⟨_,rfl⟩;have hsl:(⟨l.toArray⟩:ByteArray)=s:=by rw [hl]
  have hll:l.length=s.size:=by rw [hl,Array.length_toList];rfl
  rw [Lib.strCells_eq,← hl,Lib.byteCells_length] at hown;have HS:=Lib.hid hsl;have hl1:l≠[]:=by intro e;rw [e] at hll;simp at hll;omega
  have hl0:l.length≠0:=by omega
  clear hl hsl hll h h0
  obtain ⟨g,cap,cur,rfl,hbg,hg,hnc,hcm,hcs,htake⟩:∃ g cap cur,v=.slice (some ⟨g,0,none⟩) l.length cap∧b≤g∧w.heap[g]?=some (.cells cur 5 (0,0))∧l.length≤cap∧cap≤maxLen∧cur.size=cap*1∧cur.toList.take (l.length*1)=Lib.byteCells l:=by
    rcases hown.2 with ⟨_,hz⟩ | ⟨g,cap,cur,hv,r⟩
    · exact absurd hz hl0
    · exact ⟨g,cap,cur,hv,r⟩
  have c1:w.drew.cell? ⟨b,1,none⟩=some (.slice (some ⟨g,0,none⟩) l.length cap):=by
    have:w.drew.heap[b]?=some (.cells #[p,.slice (some ⟨g,0,none⟩) l.length cap] 62 (0,0)):=hbk;rw [Lib.cell_of_heap this];rfl
  have hSD:(Builtin.unsafeSliceData_ #[58] 93 #[.slice (some ⟨g,0,none⟩) l.length cap]).run Tryz.prog w.drew=.ok (.pointer (some ⟨g,0,none⟩)) w.drew:=
    Lib.run_unsafeSliceData_row _ _ _ _ _ _ (by omega)
  have hUS:(Builtin.unsafeString_ #[93,3] 9 #[.pointer (some ⟨g,0,none⟩),.int .i64 l.length]).run Tryz.prog w.drew=.ok (.string ⟨l.toArray⟩) (w.drew.freeze ⟨g,0,none⟩ l.length):=by
    refine Lib.run_unsafeString_row w.drew 93 3 9 5 Tryz.underlying93 (by kernel_rfl) g cur.size (by have hg':w.drew.heap[g]?=some (.cells cur 5 (0,0)):=hg;simp [World.shape?,hg']) l hl1 (by omega) (by unfold maxLen at hcm;omega) ?_;intro j x hx;have:=hown.cells (g:=g) rfl j (.int .u8 x.toNat) (by simp [Lib.byteCells,hx]);exact this
  have mixed:Tryz.prog.follows .mixedOrders=true:=by kernel_rfl
  go_enter Tryz.func33,Tryz.ntmps33;go_wp2
  go_region_o
  all_goals (go_wp2;go_ret;exact ⟨by rw [HS.out];rfl,Lib.below_freeze (Below.drew (Below.refl b w)) (p:=⟨g,0,none⟩) hbg _⟩)
/-- what a line adds -/
def lineS (s name text:ByteArray):ByteArray:=s++name++⟨#[32]⟩++text++⟨#[10]⟩
theorem lineS_size (s name text:ByteArray):(lineS s name text).size=s.size+name.size+text.size+2:=by
  unfold lineS;rw [ByteArray.size_append,ByteArray.size_append,ByteArray.size_append,ByteArray.size_append];show s.size+name.size+1+text.size+1=_;omega
def LineP (b:Nat) (s name text:ByteArray) (w:World) (e:Ending) (w':World):Prop:=e=.returned (.tuple #[])∧PapU b (lineS s name text) w'∧Below b w w'
theorem line_any (b:Nat) (s name text:ByteArray) (w:World) (h:Pap b s w) (hlen:s.size+name.size+text.size+2≤140737488355328):
    Calls Tryz.prog 28 #[.pointer (some ⟨b,0,none⟩),.string name,.string text] w (LineP b s name text w):=by
  have A:=Lib.hid (papString_any b s name w h (by omega));have s1:=ByteArray.size_append (a:=s) (b:=name);have s2:(s++name++⟨#[32]⟩).size=s.size+name.size+1:=by rw [ByteArray.size_append,s1];rfl
  have s3:(s++name++⟨#[32]⟩++text).size=s.size+name.size+1+text.size:=by rw [ByteArray.size_append,s2]
  have B:=Lib.hid (fun W hW=>papByte_any b (s++name) 32 W hW (by omega));have C:=Lib.hid (fun W hW=>papString_any b (s++name++⟨#[32]⟩) text W hW (by omega));have D:=Lib.hid (fun W hW=>papByte_any b (s++name++⟨#[32]⟩++text) 10 W hW (by omega));have hbl:=h.lt;clear h s1 s2 s3 hlen;go_enter Tryz.func28,Tryz.ntmps28
  go_wp2_with fail
  refine A.out.mono ?_;rintro e w1 ⟨rfl,h1,k1⟩
  go_wp2_with fail
  refine (B.out _ h1.pap).mono ?_;rintro e w2 ⟨rfl,h2,k2⟩;have kk2:=k1.trans k2
  go_wp2_with fail
  refine (C.out _ h2.pap).mono ?_;rintro e w3 ⟨rfl,h3,k3⟩;have kk3:=kk2.trans k3
  go_wp2_with fail
  refine (D.out _ h3.pap).mono ?_;rintro e w4 ⟨rfl,h4,k4⟩;have kk4:=kk3.trans k4;clear k1 k2 k3 k4 kk2 kk3 h1 h2 h3;go_wp2
  go_end0
  exact ⟨rfl,h4,kk4⟩
end Go.Proofs.YtfhmcahfjoliiaaGreatDoor
