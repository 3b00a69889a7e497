/- sameWrites: are two lists the same? (made by wip/bin/gen_api.py) · are two lists the same? · are two lists the same? · words: new memory for a list (made by wip/bin/gen_api.py) · a receipt held against itself -/
import Derived.Test.YtdjgcenjonegjaaGreatPk01
import Derived.Test.YtdjgcenjonegjaaGreatPk00
import Derived.Test.YtdjgcenjonegjaaGreatPk02
set_option maxRecDepth 20000
set_option maxHeartbeats 8000000
set_option linter.unusedSimpArgs false
set_option linter.unusedVariables false
namespace Go.Proofs.YtdjgcenjonegjaaGreat
section
open Go.RowKit

theorem neqWrite_run (x y:AWrite) (w:World):(binOp .neq 98 (.agg #[I x.at_,U32 x.word]) (.agg #[I y.at_,U32 y.word])).run Tryz.prog w=.ok (.bool (!decide (x=y))) w:=by
  have hpWrite:Tryz.prog.stoodInHeld 98=false:=by kernel_rfl
  have htWrite:Tryz.prog.underlying 98=some (.struct (Tryz.prog.fieldsOf 98)):=by kernel_rfl
  rw [run_neq_struct,run_equalIn_struct w 9999 98 _ _ htWrite hpWrite];simp [go_sem];obtain ⟨x0,x1⟩:=x;obtain ⟨y0,y1⟩:=y;clear hpWrite htWrite;simp only [AWrite.mk.injEq]
  (repeat' split)<;>simp_all

theorem sameWrites_any (v1 v2 : Value) (xs ys : List AWrite) (w : World) (h1 : Sl w v1 2 xs.length (xs.flatMap AWrite.cells)) (h2 : Sl w v2 2 ys.length (ys.flatMap AWrite.cells)) :
    Calls Tryz.prog 15 #[v1,v2] w (Grew (.bool (decide (xs=ys))) w):=by
  obtain ⟨a1,c1,rfl,hn1,_,_,h1⟩:=h1;obtain ⟨a2,c2,rfl,hn2,_,_,h2⟩:=h2
  by_cases hl:xs.length=ys.length
  · have hb:((xs.length:Int) != (ys.length:Int))=false:=by simp [hl]
    have hl1:xs.length≤ys.length:=by omega
    have hl2:ys.length≤xs.length:=by omega
    clear hl;have hm:Tryz.prog.eqGuardType Tryz.prog.depth 98=false:=by kernel_rfl
    have hne:=neqWrite_run;go_enter Tryz.func15,Tryz.ntmps15;go_wp2
    go_loopw [5] (fun i wr=>∃ k:Nat,k≤xs.length∧i=I k∧xs.take k=ys.take k∧Below w.heap.size w wr) (fun i _=>xs.length-(intOf i).toNat)
    case atStart=>exact ⟨0,Nat.zero_le _,rfl,rfl,Below.refl _ _⟩
    case round=>
      obtain ⟨k,hk,rfl,htk,hbw⟩:=hrel;have Htk:=Lib.hid htk;clear htk
      by_cases hlt:k < xs.length
      · obtain ⟨b1,o1,rfl,hb1,hc1⟩:=h1.resolve_left (by omega)
        obtain ⟨b2,o2,rfl,hb2,hc2⟩:=h2.resolve_left (by omega)
        have e1_0:wr.cell? ⟨b1,o1+k*2,none⟩=some (I (xs.getD k default).at_):=by
          have:=(hbw.cell (p:=⟨b1,o1+(k*2+0),none⟩) hb1).trans (hc1 (k*2+0) (by rw [length_flat _ 2 AWrite.cells_len];exact pos_lt (by omega) (by decide)));rw [getD_flat _ 2 AWrite.cells_len _ _ _ (by omega) (by decide)] at this;simpa [← Nat.add_assoc,AWrite.cells] using this
        have e1_1:wr.cell? ⟨b1,o1+k*2+1,none⟩=some (U32 (xs.getD k default).word):=by
          have:=(hbw.cell (p:=⟨b1,o1+(k*2+1),none⟩) hb1).trans (hc1 (k*2+1) (by rw [length_flat _ 2 AWrite.cells_len];exact pos_lt (by omega) (by decide)));rw [getD_flat _ 2 AWrite.cells_len _ _ _ (by omega) (by decide)] at this;simpa [← Nat.add_assoc,AWrite.cells] using this
        have e2_0:wr.cell? ⟨b2,o2+k*2,none⟩=some (I (ys.getD k default).at_):=by
          have:=(hbw.cell (p:=⟨b2,o2+(k*2+0),none⟩) hb2).trans (hc2 (k*2+0) (by rw [length_flat _ 2 AWrite.cells_len];exact pos_lt (by omega) (by decide)));rw [getD_flat _ 2 AWrite.cells_len _ _ _ (by omega) (by decide)] at this;simpa [← Nat.add_assoc,AWrite.cells] using this
        have e2_1:wr.cell? ⟨b2,o2+k*2+1,none⟩=some (U32 (ys.getD k default).word):=by
          have:=(hbw.cell (p:=⟨b2,o2+(k*2+1),none⟩) hb2).trans (hc2 (k*2+1) (by rw [length_flat _ 2 AWrite.cells_len];exact pos_lt (by omega) (by decide)));rw [getD_flat _ 2 AWrite.cells_len _ _ _ (by omega) (by decide)] at this;simpa [← Nat.add_assoc,AWrite.cells] using this
        clear hc1 hc2 h1 h2;have hi0:(0:Int)≤(k:Int):=by omega
        have hi1:(k:Int) < (xs.length:Int):=by omega
        have hi2:(k:Int) < (ys.length:Int):=by omega
        by_cases hv:xs.getD k default=ys.getD k default
        · have hv':decide (xs.getD k default=ys.getD k default)=true:=decide_eq_true hv
          have hs:=Lib.hid (take_succ_of hlt (by omega) Htk.out hv);clear hv;generalize xs.getD k default=x at *;generalize ys.getD k default=y at *;go_wp2
          go_quiet (fail)
          go_wp2;exact ⟨⟨k+1,by omega,by go_num,hs.out,drewN_below hbw _⟩,by simp [intOf];omega⟩
        · have hv':decide (xs.getD k default=ys.getD k default)=false:=decide_eq_false hv
          have hs:=Lib.hid (ne_of_getD' hv);clear hv;generalize xs.getD k default=x at *;generalize ys.getD k default=y at *;go_wp2
          go_quiet (fail)
          go_wp2;go_ret;exact Grew.intro (by rw [decide_eq_false hs.out];rfl) (drewN_below hbw _)
      · have hs:xs=ys:=by have:=Htk.out;rwa [List.take_of_length_le (by omega),List.take_of_length_le (by omega)] at this
        have Hs:=Lib.hid hs;clear hs;go_wp2;go_ret;exact Grew.intro (by rw [decide_eq_true Hs.out];rfl) hbw
  · have hb:((xs.length:Int) != (ys.length:Int))=true:=by simp;omega
    go_enter Tryz.func15,Tryz.ntmps15;go_wp2;go_ret;exact Grew.intro (by rw [decide_eq_false (fun e=>hl (by rw [e]))];rfl) (Below.refl _ _)
end
section
open Go.RowKit

theorem getD_map {f:Int→Value} (xs:List Int) (k:Nat) (h:k < xs.length):(xs.map f).getD k undef=f (xs.getD k 0):=by
  simp [List.getD_eq_getElem?_getD,h]

theorem take_succ_eq {xs ys:List Int} {k:Nat} (hx:k < xs.length) (hy:k < ys.length) (h:xs.take k=ys.take k) (he:xs.getD k 0=ys.getD k 0):xs.take (k+1)=ys.take (k+1):=by
  rw [List.take_add_one,List.take_add_one,h];simp only [List.getD_eq_getElem?_getD,List.getElem?_eq_getElem hx,List.getElem?_eq_getElem hy,Option.getD_some] at he ⊢;rw [he]

theorem ne_of_getD {xs ys:List Int} {k:Nat} (h:xs.getD k 0≠ys.getD k 0):xs≠ys:=fun e=>h (by rw [e])

end
section
open Go.RowKit

theorem sameWords_any (v1 v2 : Value) (xs ys : List Int) (w : World) (h1 : Sl w v1 1 xs.length (xs.map U32)) (h2 : Sl w v2 1 ys.length (ys.map U32)) :
    Calls Tryz.prog 11 #[v1,v2] w (Grew (.bool (decide (xs=ys))) w):=by
  obtain ⟨a1,c1,rfl,hn1,_,_,h1⟩:=h1;obtain ⟨a2,c2,rfl,hn2,_,_,h2⟩:=h2
  by_cases hl:xs.length=ys.length
  · have hb:((xs.length:Int) != (ys.length:Int))=false:=by simp [hl]
    have hl1:xs.length≤ys.length:=by omega
    have hl2:ys.length≤xs.length:=by omega
    clear hl;go_enter Tryz.func11,Tryz.ntmps11;go_wp2
    go_loopw [5] (fun i wr=>∃ k:Nat,k≤xs.length∧i=I k∧xs.take k=ys.take k∧Below w.heap.size w wr) (fun i _=>xs.length-(intOf i).toNat)
    case atStart=>exact ⟨0,Nat.zero_le _,rfl,rfl,Below.refl _ _⟩
    case round=>
      obtain ⟨k,hk,rfl,htk,hbw⟩:=hrel;have Htk:=Lib.hid htk;clear htk
      by_cases hlt:k < xs.length
      · obtain ⟨b1,o1,rfl,hb1,hc1⟩:=h1.resolve_left (by omega)
        obtain ⟨b2,o2,rfl,hb2,hc2⟩:=h2.resolve_left (by omega);have e1:=(hbw.cell (p:=⟨b1,o1+k,none⟩) hb1).trans (hc1 k (by simpa using hlt));have e2:=(hbw.cell (p:=⟨b2,o2+k,none⟩) hb2).trans (hc2 k (by simp;omega));rw [getD_map _ _ hlt] at e1;rw [getD_map _ _ (by omega)] at e2;clear hc1 hc2 h1 h2;have hi0:(0:Int)≤(k:Int):=by omega
        have hi1:(k:Int) < (xs.length:Int):=by omega
        have hi2:(k:Int) < (ys.length:Int):=by omega
        by_cases hv:xs.getD k 0=ys.getD k 0
        · have hv':(xs.getD k 0 != ys.getD k 0)=false:=by rw [bne_eq_false_iff_eq];exact hv
          have hs:=Lib.hid (take_succ_eq hlt (by omega) Htk.out hv);clear hv;generalize xs.getD k 0=x at *;generalize ys.getD k 0=y at *;go_wp2
          go_quiet (fail)
          go_wp2;exact ⟨⟨k+1,by omega,by go_num,hs.out,drewN_below hbw _⟩,by simp [intOf];omega⟩
        · have hv':(xs.getD k 0 != ys.getD k 0)=true:=by rw [bne_iff_ne];exact hv
          have hs:=Lib.hid (ne_of_getD hv);clear hv;generalize xs.getD k 0=x at *;generalize ys.getD k 0=y at *;go_wp2
          go_quiet (fail)
          go_wp2;go_ret;exact Grew.intro (by rw [decide_eq_false hs.out];rfl) (drewN_below hbw _)
      · have hs:xs=ys:=by have:=Htk.out;rwa [List.take_of_length_le (by omega),List.take_of_length_le (by omega)] at this
        have Hs:=Lib.hid hs;clear hs;go_wp2;go_ret;exact Grew.intro (by rw [decide_eq_true Hs.out];rfl) hbw
  · have hb:((xs.length:Int) != (ys.length:Int))=true:=by simp;omega
    go_enter Tryz.func11,Tryz.ntmps11;go_wp2;go_ret;exact Grew.intro (by rw [decide_eq_false (fun e=>hl (by rw [e]))];rfl) (Below.refl _ _)
end
section
open Go.RowKit

theorem info_words:(Tryz.prog.info? 80).map (fun i=>(i.zero,i.size,i.bytes))=some (some (.int .u32 0),1,4):=by kernel_rfl

theorem words_any (v:Value) (xs:List Int) (w:World) (h:Sl w v 1 xs.length (xs.map U32)) (hby:xs.length*4≤140737488355328):
    Calls Tryz.prog 7 #[v] w (GrewSl 1 xs.length (xs.map U32) w):=by
  obtain ⟨i0,hi,hz0,hz1,hz2⟩:=info_parts info_words;have h':=h;obtain ⟨a,cap,rfl,hn,hl,h0,h⟩:=h;cases a with
  | none=>
    obtain ⟨hn0,rfl⟩:=h0 rfl;obtain rfl:xs=[]:=List.length_eq_zero_iff.1 hn0;clear h h' h0 hl;go_enter Tryz.func7,Tryz.ntmps7
    go_wp2_with fail
    go_ret;exact ⟨_,rfl,Sl.nil _ _,Below.refl _ _⟩
  | some ad=>
    have hnews:=Lib.hid h'.news;have hone:oneCells (xs.map U32):=oneCells_map (fun _=>rfl) _;clear h h' h0;have Hl:=Lib.hid hl;clear hl;have c3:0+xs.length≤maxLen:=by unfold maxLen;omega
    have c4:=Lib.hid (show (0+xs.length)*4≤140737488355328 by omega);clear hby;go_enter Tryz.func7,Tryz.ntmps7
    go_wp2_with (at_builtin;refine wpList_append_own _ rfl _ _ 25 rfl w.heap.size 80 i0 (.int .u32 0) 1 4 Tryz.underlying25 hi hz0 hz1 hz2 rfl (by decide) _ 0 [] rfl (World.ownsRow_nil _ _ _ _) ad _ _ (xs.map U32) rfl Hl.out hnews.out hone c3 c4.out (Nat.le_refl _) ?_;intro v' w1 hown' hgrow _)
    have hbel:=Below.grown (B:=w.heap.size) (Below.refl _ w) hgrow (Nat.le_refl _) (fun k hk=>absurd (show (none:Option Nat)=some k from hk) (by simp));rw [Nat.zero_add,List.nil_append] at hown';have hS:=Sl.of_owns hown' hn.1;clear hown' hgrow;go_wp2;go_ret;exact ⟨_,rfl,hS,hbel⟩
end
section
open Go Go.RowKit
theorem selfBill (b1 b2 b3 b4 b5 b6 b7:Int) (w:World):(Op.equalIn 9999 39 (.agg #[I b1,I b2,I b3,I b4,I b5,I b6,I b7]) (.agg #[I b1,I b2,I b3,I b4,I b5,I b6,I b7])).run Tryz.prog w=.ok true w:=by
  have hp:Tryz.prog.stoodInHeld 39=false:=by kernel_rfl
  have ht:Tryz.prog.underlying 39=some (.struct (Tryz.prog.fieldsOf 39)):=by kernel_rfl
  rw [run_equalIn_struct w 9998 39 _ _ ht hp];simp only [Program.fieldsOf,Tryz.underlying39];rw [eqF_int w (by decide) Tryz.underlying3 rfl rfl,eqF_int w (by decide) Tryz.underlying3 rfl rfl,eqF_int w (by decide) Tryz.underlying3 rfl rfl,eqF_int w (by decide) Tryz.underlying3 rfl rfl,eqF_int w (by decide) Tryz.underlying3 rfl rfl,eqF_int w (by decide) Tryz.underlying3 rfl rfl,eqF_int w (by decide) Tryz.underlying3 rfl rfl,eqF_nil];simp
theorem selfReceipt (a b1 b2 b3 b4 b5 b6 b7:Int) (s:ByteArray) (w:World):(binOp .eql 41 (.agg #[I a,I b1,I b2,I b3,I b4,I b5,I b6,I b7,.string s]) (.agg #[I a,I b1,I b2,I b3,I b4,I b5,I b6,I b7,.string s])).run Tryz.prog w=.ok (.bool true) w:=by
  have hp:Tryz.prog.stoodInHeld 41=false:=by kernel_rfl
  have ht:Tryz.prog.underlying 41=some (.struct (Tryz.prog.fieldsOf 41)):=by kernel_rfl
  rw [run_eql_struct,run_equalIn_struct w 9999 41 _ _ ht hp];simp only [Program.fieldsOf,Tryz.underlying41];rw [eqF_int w (by decide) Tryz.underlying3 rfl rfl,eqF_sub w (u:=.agg #[I b1,I b2,I b3,I b4,I b5,I b6,I b7]) (v:=.agg #[I b1,I b2,I b3,I b4,I b5,I b6,I b7]) (r:=true) (by decide) (by kernel_rfl) (by kernel_rfl) (selfBill b1 b2 b3 b4 b5 b6 b7 w),eqF_str w (by decide) Tryz.underlying9 rfl rfl,eqF_nil];have hs:(s==s)=true:=by rw [beq_toListBytes];exact beq_self_eq_true _
  simp [Result.andThen,hs]
end
end Go.Proofs.YtdjgcenjonegjaaGreat
