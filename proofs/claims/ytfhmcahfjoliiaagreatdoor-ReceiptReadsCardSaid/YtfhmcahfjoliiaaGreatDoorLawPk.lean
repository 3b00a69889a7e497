/- receipt.Read answers as the reference does, at every argument. No conditions. -/
import Derived.Test.YtfhmcahfjoliiaaGreatDoorPk00
import Derived.Test.YtfhmcahfjoliiaaGreatDoorPk02
import Derived.Test.YtfhmcahfjoliiaaGreatDoorRecRead
import Derived.Test.YtfhmcahfjoliiaaGreatDoorPk52
import Derived.Test.YtfhmcahfjoliiaaGreatDoorTie
import Derived.Test.YtfhmcahfjoliiaaGreatDoorCards
import Derived.Stop.LaidErr
import Derived.HandedShaped
import Derived.Shelf.Vars
set_option maxRecDepth 20000
set_option maxHeartbeats 8000000
set_option linter.unusedSimpArgs false
set_option linter.unusedVariables false
namespace Go.Proofs.YtfhmcahfjoliiaaGreatDoor.receiptReads
open Go.ChangeShapes Go.WideShapes Go.ChangeAt Go.RowKit
theorem powTab {w:World} (hL:laidMetH Tryz.prog Rows.receiptReadsRow.laid w):PowTab w:=by
  rw [MakeChecks.laidMetH_plain _ _ _ (by kernel_rfl)] at hL; exact Go.Lib.tabIs_of_head (g := 6) (t := 177) (n := 20) (e := 101) (by kernel_rfl) (by kernel_rfl) (by kernel_rfl) (by kernel_rfl) (by kernel_rfl) (by kernel_rfl) (show laidMet Tryz.prog (("internal/strconv.uint64pow10", Go.Lib.tabData .u64 Go.Lib.pow10Tab) :: Rows.receiptReadsRow.laid.drop 3) w from laidMet.tail (laidMet.tail (show laidMet Tryz.prog Rows.receiptReadsRow.laid w from hL)))
theorem star : "*" ++ "errors.errorString" = "*errors.errorString" := by decide
theorem rowE (u : TypeId) (h : Tryz.prog.typeName? 3 u = some "*errors.errorString") : u = 144 :=
  typeName_ptr_named (nm := "errors.errorString") (by rw [star]; kernel_rfl) (by kernel_rfl) (by decide) u (by rw [star]; exact h)
theorem cellsE:Tryz.prog.cellsOf 146=1:=by kernel_rfl
theorem cellsS:Tryz.prog.cellsOf 9=1:=by kernel_rfl
theorem gS : Tryz.prog.globalNamed "strconv.ErrSyntax" = some 1 := by kernel_rfl
theorem gR : Tryz.prog.globalNamed "strconv.ErrRange" = some 2 := by kernel_rfl
theorem tS:(Tryz.prog.globals[1]?).map (·.type)=some 43:=by kernel_rfl
theorem tR:(Tryz.prog.globals[2]?).map (·.type)=some 43:=by kernel_rfl
theorem envR {w:World} (hL0:laidMetH Tryz.prog Rows.receiptReadsRow.laid w) (hsh:w.ShapedOpen Tryz.prog):EnvR w:=by
  have hP := powTab hL0; have hL := hL0; rw [MakeChecks.laidMetH_plain _ _ _ (by kernel_rfl)] at hL; have hL2 : laidMet Tryz.prog Rows.receiptReadsRow.laid w := hL; have h3 : laidMet Tryz.prog (("strconv.ErrRange", Rows.laid_strconv_ErrRange) :: Rows.receiptReadsRow.laid.drop 5) w := laidMet.tail (laidMet.tail (laidMet.tail (laidMet.tail hL2)))
  have h4 : laidMet Tryz.prog (("strconv.ErrSyntax", Rows.laid_strconv_ErrSyntax) :: Rows.receiptReadsRow.laid.drop 6) w := laidMet.tail h3
  obtain ⟨m,hm⟩:=cell_of_shapedOpen_int (P:=Tryz.prog) (g:=0) (t:=3) (zero:=#[.int .i64 0]) hsh (of_decide_eq_true (by kernel_rfl)) (by kernel_rfl) rfl (by kernel_rfl) (by kernel_rfl) Tryz.underlying3;obtain ⟨a0,s0,hv0,_,_,_⟩:=laid_sentinel h3 gR tR Tryz.underlying43 rowE Tryz.underlying144 Tryz.underlying146 rfl rfl Tryz.underlying9 cellsE cellsS;obtain ⟨a1,s1,hv1,_,_,_⟩:=laid_sentinel h4 gS tS Tryz.underlying43 rowE Tryz.underlying144 Tryz.underlying146 rfl rfl Tryz.underlying9 cellsE cellsS;exact ⟨⟨m,hm⟩,⟨_,by simpa using World.var?_cell gS hv1 0,.inr ⟨_,_,rfl⟩⟩,⟨_,by simpa using World.var?_cell gR hv0 0,.inr ⟨_,_,rfl⟩⟩,hP⟩
/-- the one answer -/
theorem recAns_form (x:ARec) (s:ByteArray):∃ (y:ARec) (er:Int),recAns x s=T2 (recV y.me y.id y.te y.de y.fe y.pr y.ch y.un y.tk) (I er):=by
  unfold recAns
  split
  · exact ⟨x,0,rfl⟩
  · exact ⟨⟨0,0,0,0,0,0,0,0,⟨#[]⟩⟩,3,rfl⟩
theorem both (s:ByteArray):∃ (y:ARec) (er:Int),(∀ w,EnvR w→Calls Tryz.prog 4 #[.string s] w (Grew (T2 (recV y.me y.id y.te y.de y.fe y.pr y.ch y.un y.tk) (I er)) w)) ∧
    ∀ w,Calls Tryz.prog 5 #[.string s] w (Grew (T2 (recV y.me y.id y.te y.de y.fe y.pr y.ch y.un y.tk) (I er)) w):=by
  by_cases hs:s.size≤400
  · obtain ⟨y,er,h⟩:=recAns_form (recP2 s) s
    refine ⟨y,er,fun w h1=>?_,fun w=>?_⟩
    · rw [← h];exact PRead_in s w h1 hs
    · rw [← h,rec_same];exact ReceiptRead_in s w hs
  · exact ⟨⟨0,0,0,0,0,0,0,0,⟨#[]⟩⟩,1,fun w _=>PRead_big s w hs,fun w=>RRead_big s w hs⟩
theorem walk (s:ByteArray) (w:World) (_hs:Str s) (hL:laidMetH Tryz.prog Rows.receiptReadsRow.laid w) (hsh:w.ShapedOpen Tryz.prog):Calls Tryz.prog 3 #[.string s] w (Grew (.bool true) w):=by
  obtain ⟨x,er,P0,R0⟩:=both s;have P:=Lib.hid (P0 w (envR hL hsh));have R:=Lib.hid R0;obtain ⟨x0,x1,x2,x3,x4,x5,x6,x7,x8⟩:=x;have EQ:=fun W=>selfReceipt x0 x1 x2 x3 x4 x5 x6 x7 x8 W;clear P0 R0 hL hsh;go_enter Tryz.func3,Tryz.ntmps3
  go_wp2_with fail
  refine P.out.mono ?_;rintro e w1 ⟨rfl,k1⟩;have kz:=boxed_below w1 (.cells #[I x0,I x1,I x2,I x3,I x4,I x5,I x6,I x7,.string x8] 25);have k:=k1.trans (kz.mono k1.size);have oA:=Own.new (w:=w1) rfl [I x0,I x1,I x2,I x3,I x4,I x5,I x6,I x7,.string x8] 25;have hs1:=k1.size;clear k1 kz P
  go_wp2_with fail
  refine (R.out _).mono ?_;rintro e w2 ⟨rfl,k2⟩;have hz:w1.heap.size < w2.heap.size:=by have:=k2.size;simp at this;omega
  have kk:=(k.trans (k2.mono k.size)).alloc (by omega) (.cells #[I x0,I x1,I x2,I x3,I x4,I x5,I x6,I x7,.string x8] 25);have aO:=(oA.below k2).alloc (.cells #[I x0,I x1,I x2,I x3,I x4,I x5,I x6,I x7,.string x8] 25);have aA:=aO.s9;clear aO;have bO:=Own.new (w:=w2) rfl [I x0,I x1,I x2,I x3,I x4,I x5,I x6,I x7,.string x8] 25;have bA:=bO.s9;clear bO;have n1:¬ w1.heap.size=w2.heap.size:=by omega
  have n2:¬ w2.heap.size=w1.heap.size:=by omega
  clear k k2 R oA;go_wp2;go_ret;exact Grew.intro (by simp) kk

set_option maxRecDepth 100000 in
theorem lifted (os:Os) (started:os.Started) (H:Type) (enc:TypeId×Value→H):
    ReturnsInHanded {} Tryz.checked os 3 .any (fun w args=>(Rows.receiptReadsSpec.pre enc Tryz.prog Tryz.f3 Rows.receiptReadsRow.domain false w args∧laidMetH Tryz.prog Rows.receiptReadsRow.laid w)∧sizedMet enc Tryz.prog Tryz.f3 (OpenSpec.ofChange Rows.receiptReadsSpec) false w args)
      (Rows.receiptReadsSpec.post enc Tryz.prog Tryz.f3 false true false false):=by
  refine handed_all (C:=Tryz.checked) (X:=fun w=>laidMetH Tryz.prog Rows.receiptReadsRow.laid w) (fun _ _ hh h=>h.of_heap hh) own started (by kernel_rfl) Tryz.func3
    (ChangeSpec.witness_shaped (enc:=enc) (C:=Tryz.checked) (os:=os) (X:=fun w _=>laidMetH Tryz.prog Rows.receiptReadsRow.laid w) false (World.laidAll Tryz.prog os Rows.receiptReadsRow.laid) #[.string ByteArray.empty] 8 (World.laidAll_os _ _ _)
      (World.shaped_of_ZipB (by kernel_rfl) (by kernel_rfl)) (by kernel_rfl) (by kernel_rfl) (by kernel_rfl)
      (by rw [MakeChecks.laidMetH_plain _ _ _ (by kernel_rfl)];exact laidMet_laidAll _ (by kernel_rfl) (by kernel_rfl))) ?_
  intro W base args ds gs before hval hW hsz hL hsh;have hfin:=fun W'=>post_true (fn:=Tryz.f3) (s:=Rows.receiptReadsSpec) (bt:=4) (W':=W') rfl laidOut (by kernel_rfl) Tryz.underlying4 rfl (fun ds h=>by match ds,h with | [_],_=>rfl) hW;have hsz:(DataW.weightsEach Tryz.prog (Tryz.f3.params.toList++[]) (ds++gs)).all (·≤reachBytes)=true:=hsz;obtain ⟨p,q,hA,hV,rfl,hfz,hnd⟩:=hW;obtain ⟨rfl,rfl⟩:=trodVars_none hV;rw [Tryz.params3] at hA hval hsz;obtain ⟨v0,vs0,d0,ds0,p0,q0,hargs,rfl,rfl,h0,r0⟩:=trodAll_cons hA;obtain ⟨rfl,rfl,rfl⟩:=trodAll_nil r0;obtain rfl:args=#[v0]:=by cases args;simp_all
  simp only [List.append_nil] at hsz;have pl0:=arg_plains (ks:=(shape Tryz.prog 9 9).getD []) (by kernel_rfl) h0 (arg_weights (j:=0) hsz rfl rfl);obtain ⟨s0,rfl,hs0⟩:=arg_string Tryz.underlying9 (hval 0 9 v0 rfl rfl) h0 pl0
  exact (walk s0 W hs0 hL hsh).mono fun e W' h=>by
    obtain ⟨rfl,hb⟩:=h.grew;exact ⟨_,rfl,hfin W' hb⟩

theorem over:Rows.ReceiptReadsSaid:=
  OpenClaim.holds_of_wide 3 Tryz.f3 rfl rfl rfl rfl rfl rfl rfl ⟨rfl,rfl,rfl,rfl,rfl⟩ rfl rfl rfl rfl rfl (by kernel_rfl) Tryz.func3 (by kernel_rfl)
    (of_decide_eq_true (by kernel_rfl)) (by unfold Func.isWrapper;first | (rw [if_pos (by decide +kernel)];kernel_rfl) | (rw [if_neg (by decide +kernel)];exact ⟨rfl,rfl⟩))
    (fun os started H enc _=>lifted os started H enc)

theorem proved : Rows.ReceiptReadsCardSaid :=
  Claim7.holds_tied_plain_at .later [] _ true _ true over (fun _ h=>by cases h) (by kernel_rfl) (fun _ h=>by cases h) receiptReads_row_tie rfl ⟨rfl,rfl⟩ (by kernel_rfl) rfl
    (fun f fn hf hfn=>by
      obtain rfl : f = 3 := Option.some.inj ((show Tryz.prog.funcNamed "vendmeter/vendmeterlaw.ReceiptReads" = some 3 by kernel_rfl).symm.trans hf) |>.symm
      obtain rfl:fn=Tryz.f3:=(Option.some.inj (Tryz.func3.symm.trans hfn)).symm
      exact ⟨by kernel_rfl,fun j t ht=>by
        have hm:t∈Tryz.f3.params.toList:=by simpa using Array.mem_of_getElem? ht
        have hall:(Tryz.f3.params.toList.all fun u=>!Tryz.prog.wantsStandIn u)=true:=by kernel_rfl
        exact (show Tryz.prog.wantsStandIn t=false by simpa using List.all_eq_true.1 hall t hm)⟩)
    (by kernel_rfl)
#print axioms proved
end Go.Proofs.YtfhmcahfjoliiaaGreatDoor.receiptReads
