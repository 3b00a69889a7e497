/- order.Show, an order with a cut (printed by wip/bin/gen_ordshowc.py) -/
import Derived.Test.YtfhmcahfjoliiaaDoorOrdShowN
namespace Go.Proofs.YtfhmcahfjoliiaaDoor
set_option linter.unusedSimpArgs false
set_option linter.unusedVariables false
open Go Go.RowKit
set_option maxRecDepth 20000
abbrev kCut : ByteArray := ⟨#[99, 117, 116]⟩
def strC (sc wd : ByteArray) (l : List Int) : List ByteArray := kCut :: sc :: strV wd l
theorem strC_len (sc wd : ByteArray) (l : List Int) : (strC sc wd l).length = l.length + 3 := by simp [strC, strV]
theorem jn_cut (cn : Nat) (wd : ByteArray) (nv : List Int) (X : ByteArray) (h : jn (strV wd nv) = X) : jn (strC (decS cn) wd nv) = ⟨#[99, 117, 116, 32]⟩ ++ decS cn ++ ⟨#[32]⟩ ++ X := by
  have e : jn (strC (decS cn) wd nv) = kCut ++ (⟨#[32]⟩ ++ (decS cn ++ (⟨#[32]⟩ ++ jn (strV wd nv)))) := by
    unfold strC strV
    rw [jn_cons, jn_cons]
  rw [e, h]
  apply ByteArray.ext
  simp [ByteArray.data_append, kCut]
theorem strC_succ (sc wd : ByteArray) (nv : List Int) (k : Nat) (hk : k < nv.length) : strC sc wd (nv.take (k + 1)) = strC sc wd (nv.take k) ++ [decS (nv.getD k 0).toNat] := by
  unfold strC
  rw [strV_succ _ _ _ hk]; rfl
/-- the loop's state -/
structure ShT (W3 : World) (b2 o2 : Nat) (ps : List Value) (sc wd : ByteArray) (nv : List Int) (k : Nat) (v : Value) (wr : World) : Prop where
  o : wr.ownsRow W3.heap.size 9 1 v (strC sc wd (nv.take k)).length ((strC sc wd (nv.take k)).map Value.string)
  n : ∀ z, v.ownBlock = some z → z ≠ b2
  p : ∀ j, j < ps.length → wr.cell? ⟨b2, o2 + j, none⟩ = some (ps.getD j undef)
  b : Below W3.heap.size W3 wr

theorem ShT.more {W3 : World} {b2 o2 k : Nat} {ps : List Value} {sc wd s : ByteArray} {nv : List Int} {v v' : Value} {wr w6 w7 : World} {ob : Obj} (h : ShT W3 b2 o2 ps sc wd nv k v wr) (hk : k < nv.length) (hs : s = decS (nv.getD k 0).toNat) (h2 : b2 < wr.heap.size) (k6 : Below wr.heap.size wr w6)
    (hown : w7.ownsRow W3.heap.size 9 1 v' ((strC sc wd (nv.take k)).length + 1) ((strC sc wd (nv.take k)).map Value.string ++ [.string s])) (hg : (w6.alloc ob).grownBy w7 v.ownBlock) (hb : v'.ownBlock = v.ownBlock ∨ v'.ownBlock = some (w6.alloc ob).heap.size) :
    ShT W3 b2 o2 ps sc wd nv (k + 1) v' w7 := by
  have hsz := k6.size
  have B6 := h.b.trans (k6.mono h.b.size)
  refine ⟨?_, ?_, ?_, ?_⟩
  · rw [strC_succ _ _ _ _ hk, List.map_append, List.length_append, ← hs]; exact hown
  · intro z hz
    rcases hb with e | e
    · exact h.n z (e ▸ hz)
    · rw [e] at hz
      have : (w6.alloc ob).heap.size = w6.heap.size + 1 := by simp
      injection hz with hz
      omega
  · intro j hj
    have e1 := h.p j hj
    have e2 := (k6.cell (p := ⟨b2, o2 + j, none⟩) h2).trans e1
    have e3 := ((boxed_below w6 ob).cell (p := ⟨b2, o2 + j, none⟩) (by show b2 < _; omega)).trans e2
    have e4 : w7.cell? ⟨b2, o2 + j, none⟩ = (w6.alloc ob).cell? ⟨b2, o2 + j, none⟩ := by
      unfold World.cell?
      rw [hg.block b2 (by simp; omega) (fun e => h.n b2 e.symm rfl)]
    exact e4.trans e3
  · exact grown_below (B6.alloc B6.size ob) ((owns_bel h.o k6).alloc ob) (Nat.le_refl _) hg

/- behind the words: what is bare, a line's end, the line; $1: the words, $2: the world, OWN: the slice of the words -/
set_option maxHeartbeats 4000000 in
theorem ShowC_any (ki me a b c cu : Int) (te : ByteArray) (w : World) (hF : FormT w) (hT : PowTab w) (hs : te.size ≤ 140737488351232) (hcu : 0 ≤ cu) :
    Calls Tryd.prog 10 #[.agg #[I ki, I me, I a, I b, I c, .string te, I cu]] w (AcP ki me a b c te cu w) := by
  obtain ⟨i0, hi, hz0, hz1, hz2⟩ := info_parts infoStrO
  have KB := boxed_below w (.cells #[I ki, I me, I a, I b, I c, .string te, I cu] 23)
  have OX := Own.new (w := w) rfl [I ki, I me, I a, I b, I c, .string te, I cu] 23
  have IX := Lib.hid (fun W h1 h2 h3 => IndexForm_any w.heap.size ki W h1 h2 h3)
  have hmf : ∀ (fn : Fn) (first cap : Array Value) (w : World), (Instr.makeFunc fn first cap).run Tryd.prog w = .ok (.func fn first cap) w := fun _ _ _ _ => rfl
  have HF := Lib.hid (hF.below KB)
  have hsz : w.heap.size < (w.alloc (.cells #[I ki, I me, I a, I b, I c, .string te, I cu] 23)).heap.size := by simp
  have QB := Lib.hid KB
  have QX := Lib.hid OX
  have QT := Lib.hid hT
  have xO := OX
  have xfA := xO.f; have x0 := xO.c0; have x1 := xO.c1; have x2 := xO.c2; have x3 := xO.c3; have x4 := xO.c4; have x5 := xO.c5; have x6 := xO.c6
  clear xO
  clear hF hT KB OX
  go_enter Tryd.func10, Tryd.ntmps10
  go_wp2_with fail
  generalize w.alloc (.cells #[I ki, I me, I a, I b, I c, .string te, I cu] 23) = W0 at *
  refine (IX.out _ HF.out hsz x0).mono ?_
  rintro e w1 ⟨rfl, k1⟩
  have KB1 := QB.out.trans (k1.mono QB.out.size)
  have HF1 := HF.out.below k1
  have OX1 := QX.out.below k1
  have QT1 := Lib.hid (fun W (h : Below w.heap.size w W) => PowTab.below QT.out h)
  have QX1 := Lib.hid OX1
  have hE2 := Lib.hid (fun h => acE_2 (ki := ki) (me := me) (a := a) (b := b) (c := c) (cu := cu) (te := te) h)
  clear x0 x1 x2 x3 x4 x5 x6 xfA IX HF hsz QB QX k1 QT
  have xO := OX1
  have xfA := xO.f; have x0 := xO.c0; have x1 := xO.c1; have x2 := xO.c2; have x3 := xO.c3; have x4 := xO.c4; have x5 := xO.c5; have x6 := xO.c6
  clear xO
  clear OX1
  by_cases hk : 1 ≤ ki ∧ ki ≤ 7
  case neg =>
    have h2 := hE2.out (by unfold acV2; rw [actW_none hk]; simp)
    have hfi : formI ki = -1 := by unfold formI; rw [if_neg hk]
    rw [hfi]
    clear HF1 hk
    go_wp2_with fail
    exact bodyPost_ret (v := T2 (.string ⟨#[]⟩) (I 2)) (by simp [results, Tryd.results10, go_sem, *]; try omega) rfl (AcP.bad h2 (by decide) KB1)
  case pos =>
  obtain ⟨kn, hkn⟩ : ∃ n : Nat, ki = (n : Int) + 1 := ⟨(ki - 1).toNat, by omega⟩
  have hkl : kn < 7 := by omega
  have hfi : formI ki = (kn : Int) := by unfold formI; rw [if_pos hk]; omega
  rw [hfi]
  by_cases hc1 : 4096 < cu
  · have h2 := hE2.out (by unfold acV2; rw [show inB cu (-1) 4096 = false by rw [← Bool.not_eq_true, inB_true]; omega]; simp)
    have j0 : ¬ (kn : Int) < 0 := by omega
    have j00 : ¬ cu < -1 := by omega
    clear HF1 hk hkn hkl hfi
    go_wp2_with fail
    exact bodyPost_ret (v := T2 (.string ⟨#[]⟩) (I 2)) (by simp [results, Tryd.results10, go_sem, *]; try omega) rfl (AcP.bad h2 (by decide) KB1)
  obtain ⟨cn, rfl⟩ := Int.eq_ofNat_of_zero_le hcu
  have hc2 : cn ≤ 4096 := by omega
  obtain ⟨e0, e1, e2, e3, e4⟩ := HF1 kn hkl
  rw [← hkn] at e0 e1 e2 e3 e4
  obtain ⟨wd, hwd⟩ : ∃ x, x = actW ki := ⟨_, rfl⟩
  obtain ⟨A, hA⟩ : ∃ x, x = actA ki := ⟨_, rfl⟩
  obtain ⟨B, hB⟩ : ∃ x, x = actB ki := ⟨_, rfl⟩
  obtain ⟨C, hC⟩ : ∃ x, x = actC ki := ⟨_, rfl⟩
  rw [← hwd] at e1
  rw [← hA] at e2
  rw [← hB] at e3
  rw [← hC] at e4
  have HW := Lib.hid (And.intro hwd (And.intro hA (And.intro hB hC)))
  have HK := Lib.hid (And.intro hk hkn)
  have HF1 := Lib.hid HF1
  clear hwd hA hB hC hk hkn hfi hc1 hcu
  have j0 : ¬ (kn : Int) < 0 := by omega
  have j1 : (0 : Int) ≤ (kn : Int) := by omega
  have j2 : (kn : Int) < 7 := by omega
  have hx1 := QX1.out.lt
  have OF := Own.new (w := w1) rfl [I ki, .string wd, .bool A, .bool B, .bool C] 35
  have OX2 := QX1.out.alloc (.cells #[I ki, .string wd, .bool A, .bool B, .bool C] 35)
  have KB2 := KB1.alloc KB1.size (.cells #[I ki, .string wd, .bool A, .bool B, .bool C] 35)
  have QF := Lib.hid OF
  have QX2 := Lib.hid OX2
  have QB2 := Lib.hid KB2
  clear OF OX2 KB2
  have jc0 : (0 : Int) ≤ (cn : Int) := by omega
  have jc1 : ¬ (4096 : Int) < (cn : Int) := by omega
  have jc2 : ¬ (cn : Int) < -1 := by omega
  go_upto_region 6 with fail
  have hsz3 : w1.heap.size < (w1.alloc (.cells #[I ki, .string wd, .bool A, .bool B, .bool C] 35)).heap.size := by simp
  generalize w1.alloc (.cells #[I ki, .string wd, .bool A, .bool B, .bool C] 35) = W3 at *
  clear x0 x1 x2 x3 x4 x5 x6 xfA e0 e1 e2 e3 e4 HF1 KB1 QX1
  generalize w1.heap.size = gf at *
  have fO := QF.out
  have ffA := fO.f; have f0 := fO.c0; have f1 := fO.c1; have f2 := fO.c2; have f3 := fO.c3; have f4 := fO.c4
  clear fO
  have xO := QX2.out
  have xfA := xO.f; have x0 := xO.c0; have x1 := xO.c1; have x2 := xO.c2; have x3 := xO.c3; have x4 := xO.c4; have x5 := xO.c5; have x6 := xO.c6
  clear xO
  have hl1 := World.ownsRow_nil W3 W3.heap.size 9 1
  have hl2 : (Value.slice none 0 0).ownBlock = none := rfl
  generalize Value.slice none 0 0 = l0 at hl1 hl2 ⊢
  have HL := Lib.hid (And.intro hl1 hl2)
  clear hl1 hl2
  have CI0 := Lib.hid (Itoa_nat cn W3 (by omega) (QT1.out W3 QB2.out))
  have HCN := Lib.hid (show jn (strC (decS cn) wd (numV me a b c (offs A B C 3))) = ⟨#[99, 117, 116, 32]⟩ ++ decS cn ++ ⟨#[32]⟩ ++ acS0 ki me a b c by
    rw [HW.out.1]; exact jn_cut cn _ _ _ (jn_ac ki me a b c A B C HW.out.2.1 HW.out.2.2.1 HW.out.2.2.2))
  have HSC := Lib.hid (decS_20 (n := cn) (by omega))
  have HAC := Lib.hid (show ∀ X : ByteArray, (if (0 : Int) ≤ (cn : Int) then ⟨#[99, 117, 116, 32]⟩ ++ decS (cn : Int).toNat ++ ⟨#[32]⟩ ++ X else X) = ⟨#[99, 117, 116, 32]⟩ ++ decS cn ++ ⟨#[32]⟩ ++ X from fun X => by rw [if_pos jc0]; rfl)
  generalize decS cn = sc at *
  go_upto_region 8 with (first
    | (go_at_call 20; refine CI0.out.mono ?_; rintro e w31 ⟨rfl, k31⟩; have k31z := k31.size)
    | (at_builtin; refine wpList_append_own_at _ rfl _ _ 58 rfl W3.heap.size 9 i0 (.string ByteArray.empty) 1 16 Tryd.underlying58 hi hz0 hz1 hz2 rfl (by decide) l0 0 [] rfl ((owns_bel HL.out.1 k31).alloc _) ⟨w31.heap.size, 0, none⟩ 2 2 [.string kCut, .string sc] rfl rfl (news_lit _ [.string kCut, .string sc] _) (oneCells_lit rfl) (by unfold maxLen; omega) (by omega) (by simp; omega) ?_; intro v1 w32 hown1 hgrow1 _ hblk1; rw [HL.out.2] at hgrow1; have k32 := Below.grown (B := W3.heap.size) (k31.alloc k31.size _) hgrow1 (by simp; omega) (fun k hk => by cases hk)))
  have m0 := (k32.cell (p := ⟨gf, 0, none⟩) hsz3).trans f0
  have m1 := (k32.cell (p := ⟨gf, 1, none⟩) hsz3).trans f1
  have m2 := (k32.cell (p := ⟨gf, 2, none⟩) hsz3).trans f2
  have m3 := (k32.cell (p := ⟨gf, 3, none⟩) hsz3).trans f3
  have m4 := (k32.cell (p := ⟨gf, 4, none⟩) hsz3).trans f4
  have k32z := k32.size
  clear x0 x1 x2 x3 x4 x5 x6 xfA
  go_wp2_with (at_builtin; refine wpList_append_own_at _ rfl _ _ 58 rfl W3.heap.size 9 i0 (.string ByteArray.empty) 1 16 Tryd.underlying58 hi hz0 hz1 hz2 rfl (by decide) _ _ _ rfl (hown1.alloc _) ⟨w32.heap.size, 0, none⟩ 1 1 [.string wd] rfl rfl (news_lit _ [.string wd] _) (oneCells_lit rfl) (by unfold maxLen; omega) (by omega) (by simp; omega) ?_; intro v' w4 hown hgrow _ hblk; have k4 := grown_below (k32.alloc k32.size _) (hown1.alloc _) (Nat.le_refl _) hgrow; have g0 := (k4.cell (p := ⟨gf, 0, none⟩) hsz3).trans f0; have g1 := (k4.cell (p := ⟨gf, 1, none⟩) hsz3).trans f1; have g2 := (k4.cell (p := ⟨gf, 2, none⟩) hsz3).trans f2; have g3 := (k4.cell (p := ⟨gf, 3, none⟩) hsz3).trans f3; have g4 := (k4.cell (p := ⟨gf, 4, none⟩) hsz3).trans f4)
  refine (places_any ki wd A B C w.heap.size w4).mono ?_
  rintro e w5 ⟨pv, rfl, hpo, k5⟩
  have hfar := FarB.of_owns hpo
  obtain ⟨p1, p4⟩ := offs_pos A B C
  obtain ⟨ad, cap, rfl, hn, hl, h0, h⟩ := Sl.of_owns hpo (by omega)
  obtain ⟨b2, o2, rfl, hb2, hc2⟩ := h.resolve_left (by omega)
  have hb0 : w4.heap.size ≤ b2 := hfar _ _ _ rfl
  have BAD := Lib.hid (fun x hx h => num_bad (ki := ki) (me := me) (a := a) (b := b) (c := c) (cu := (cn : Int)) (te := te) HW.out.2.1 HW.out.2.2.1 HW.out.2.2.2 (x := x) hx h)
  have HP := Lib.hid (fun k hk => offs_lt A B C k hk)
  have HG := Lib.hid (fun k hk => offs_ge A B C k hk)
  have S0 := Lib.hid (show ShT W3 b2 o2 (ptrs w.heap.size (offs A B C 3)) sc wd (numV me a b c (offs A B C 3)) 0 v' w5 from
    ⟨owns_bel hown k5, (fun z hz => by have := hown.lt z hz; omega), hc2, k4.trans (k5.mono k4.size)⟩)
  have HV := Lib.hid (numV_len me a b c (offs A B C 3))
  have HVG := Lib.hid (fun k hk => numV_get me a b c (offs A B C 3) k hk)
  have HL2 := Lib.hid (rfl : offs A B C 3 = offs A B C 3)
  clear hfar hpo hn hl h0 h hc2 hown hgrow hblk k4 k5 hb0 hb2 g0 g1 g2 g3 g4 f0 f1 f2 f3 f4 ffA HL m0 m1 m2 m3 m4 k31 k31z k32 k32z hown1 hgrow1 hblk1 CI0
  generalize hol : offs A B C 3 = ol at *
  generalize hnv : numV me a b c ol = nv at *
  have HOL := Lib.hid (And.intro hol hnv)
  clear hol hnv HL2
  go_wp2_with fail
  go_loopw [6, 45] (fun s6 s45 wr => ∃ k : Nat, k ≤ ol.length ∧ s45 = I k ∧ Hid (ShT W3 b2 o2 (ptrs w.heap.size ol) sc wd nv k s6 wr) ∧ b2 < wr.heap.size ∧ Hid (∀ x ∈ nv.take k, inB x 0 1000000000000 = true)) (fun _ i _ => ol.length - (intOf i).toNat)
  case atStart => exact ⟨0, Nat.zero_le _, rfl, S0.out, (by have := block_lt_of_cell (S0.out.p 0 (by unfold ptrs; rw [List.length_map]; omega)); exact this), fun x hx => by simp at hx⟩
  case round =>
    clear S0
    obtain ⟨k, hk, rfl, S, hb2, HR⟩ := hrel
    have KBr := QB2.out.trans (S.out.b.mono QB2.out.size)
    have OXr := QX2.out.below S.out.b
    by_cases hlt : k < ol.length
    · have e0 := S.out.p k (by unfold ptrs; rw [List.length_map]; exact hlt)
      rw [ptrs_get _ _ _ hlt] at e0
      have ho := HP.out k hlt
      have hg := HG.out k hlt
      have x0 := OXr.cell (ol.getD k 0) (by show _ < 7; omega)
      rw [Nat.zero_add, act_cell _ _ _ _ _ _ _ _ hg ho, ← HVG.out k hlt] at x0
      have hkv : k < nv.length := by rw [HV.out]; exact hlt
      have hmem : nv.getD k 0 ∈ nv := by
        rw [List.getD_eq_getElem?_getD, List.getElem?_eq_getElem hkv]; exact List.getElem_mem hkv
      have j0 : (0 : Int) ≤ (k : Int) := by omega
      have j1 : (k : Int) < (ol.length : Int) := by omega
      clear OXr hg ho
      cases hin : inB (nv.getD k 0) 0 1000000000000 with
      | false =>
        have h2 := BAD.out _ hmem hin
        have hout : nv.getD k 0 < 0 ∨ ¬ nv.getD k 0 < 0 ∧ 1000000000000 < nv.getD k 0 := by
          rw [← Bool.not_eq_true, inB_true] at hin; omega
        clear hmem hin HR S
        generalize nv.getD k 0 = x at *
        generalize ol.getD k 0 = o at *
        rcases hout with hx | ⟨hx, hy⟩
        · go_wp2_with fail
          exact bodyPost_ret (v := T2 (.string ⟨#[]⟩) (I 2)) (by simp [results, Tryd.results10, go_sem, *]; try omega) rfl (AcP.bad h2 (by decide) KBr)
        · go_wp2_with fail
          exact bodyPost_ret (v := T2 (.string ⟨#[]⟩) (I 2)) (by simp [results, Tryd.results10, go_sem, *]; try omega) rfl (AcP.bad h2 (by decide) KBr)
      | true =>
        obtain ⟨n0, n1⟩ := inB_true.1 hin
        obtain ⟨m, hm⟩ := Int.eq_ofNat_of_zero_le n0
        have hsm : decS m = decS (nv.getD k 0).toNat := by rw [hm]; rfl
        have HM := Lib.hid hsm
        have HR2 := Lib.hid (show ∀ x ∈ nv.take (k + 1), inB x 0 1000000000000 = true from fun x hx => by
          rw [List.take_add_one, List.getElem?_eq_getElem hkv, List.mem_append] at hx
          rcases hx with hx | hx
          · exact HR.out x hx
          · have : x = nv.getD k 0 := by
              rw [List.getD_eq_getElem?_getD, List.getElem?_eq_getElem hkv]
              simpa using hx
            rw [this]; exact hin)
        have CI := Lib.hid (Itoa_nat m wr (by omega) (QT1.out wr KBr))
        have hsl : (strC sc wd (nv.take k)).length = k + 3 := by
          rw [strC_len, List.length_take]; omega
        have h3r := S.out.b.size
        rw [hm] at x0 n1
        have m0 : (0 : Int) ≤ (m : Int) := by omega
        have m1 : ¬ (m : Int) < 0 := by omega
        have m2 : ¬ 1000000000000 < (m : Int) := by omega
        clear hmem hin HR hsm n0 n1 hm
        generalize decS m = sm at *
        generalize ol.getD k 0 = o at *
        go_wp2_with (first
          | (go_at_call 20; refine CI.out.mono ?_; rintro e w6 ⟨rfl, k6⟩; have hown6 := owns_bel S.out.o k6; have h36 := k6.size)
          | (at_builtin; refine wpList_append_own_at _ rfl _ _ 58 rfl W3.heap.size 9 i0 (.string ByteArray.empty) 1 16 Tryd.underlying58 hi hz0 hz1 hz2 rfl (by decide) _ _ _ rfl (hown6.alloc _) ⟨w6.heap.size, 0, none⟩ 1 1 [.string sm] rfl rfl (news_lit _ [.string sm] _) (oneCells_lit rfl) (by unfold maxLen; omega) (by omega) (by simp; omega) ?_; intro v' w7 hown hgrow _ hblk))
        have SM := S.out.more hkv HM.out hb2 k6 hown hgrow hblk
        exact ⟨⟨k + 1, by omega, by go_num, SM, block_lt_of_cell (SM.p 0 (by unfold ptrs; rw [List.length_map]; omega)), HR2.out⟩, by simp [intOf]; omega⟩
    · obtain rfl : k = ol.length := by omega
      have hnl : nv.take ol.length = nv := List.take_of_length_le (by rw [HV.out]; exact Nat.le_refl _)
      rw [hnl] at HR
      have hown := S.out.o
      rw [hnl] at hown
      have hnb := S.out.n
      have QF3 := QF.out.below S.out.b
      have hsl : (strC sc wd nv).length ≤ 7 := by
        rw [strC_len, HV.out]; omega
      have HO := Lib.hid hown
      have QXr := Lib.hid OXr
      have h3r := S.out.b.size
      have xO := OXr
      have xfA := xO.f; have x0 := xO.c0; have x1 := xO.c1; have x2 := xO.c2; have x3 := xO.c3; have x4 := xO.c4; have x5 := xO.c5; have x6 := xO.c6
      clear xO
      have fO := QF3
      have ffA := fO.f; have f0 := fO.c0; have f1 := fO.c1; have f2 := fO.c2; have f3 := fO.c3; have f4 := fO.c4
      clear fO
      have B7 := Lib.hid S.out.b
      have hg := num_good (A := A) (B := B) (C := C) (by rw [HOL.out.1, HOL.out.2]; exact HR.out)
      have HV2 := Lib.hid (show acV2 ki me (cn : Int) = false by unfold acV2; rw [decide_eq_false (actW_some HK.out.1), hg.1, show inB (cn : Int) (-1) 4096 = true from inB_true.2 ⟨by omega, by omega⟩]; rfl)
      have HV4 := Lib.hid (show acV4 (actA ki) (actB ki) (actC ki) a b c = false by rw [← HW.out.2.1, ← HW.out.2.2.1, ← HW.out.2.2.2]; exact hg.2)
      have HJ := Lib.hid (show jn (strC sc wd nv) = ⟨#[99, 117, 116, 32]⟩ ++ sc ++ ⟨#[32]⟩ ++ acS0 ki me a b c from HCN.out)
      have HJs := Lib.hid (show (⟨#[99, 117, 116, 32]⟩ ++ sc ++ ⟨#[32]⟩ ++ acS0 ki me a b c : ByteArray).size ≤ 300 by
        have hq := HSC.out
        have h8 : (⟨#[99, 117, 116, 32]⟩ : ByteArray).size = 4 := rfl
        have h1 := actW_size ki
        have h2 := hg.1
        rw [inB_true] at h2
        have h3 := decS_20 (n := me.toNat) (by omega)
        have hr := acV4_in HV4.out
        have h4 := numP_size' (b := actA ki) (n := a) hr.1.2
        have h5 := numP_size' (b := actB ki) (n := b) hr.2.1.2
        have h6 := numP_size' (b := actC ki) (n := c) hr.2.2.2
        have h7 : (⟨#[32]⟩ : ByteArray).size = 1 := rfl
        unfold acS0
        simp only [ByteArray.size_append]
        omega)
      clear hnl hown hnb QF3 OXr hlt hk hg S HR BAD HP HG HVG
      by_cases hk6 : ki = 6
      · subst hk6
        have hjs : jn (strC sc wd nv ++ [te]) = (⟨#[99, 117, 116, 32]⟩ ++ sc ++ ⟨#[32]⟩ ++ acS0 6 me a b c) ++ (⟨#[32]⟩ ++ te) := by rw [← HJ.out]; exact jn_snoc kCut te _
        have HLF := Lib.hid (show 1 ≤ (strC sc wd nv ++ [te]).length ∧ (strC sc wd nv ++ [te]).length ≤ 8 ∧ (jn (strC sc wd nv ++ [te])).size ≤ 140737488355000 ∧ acS 6 me a b c te (cn : Int) = jn (strC sc wd nv ++ [te]) from ⟨by simp, by rw [List.length_append]; simp; omega, by
          rw [hjs]
          have := HJs.out
          have h7 : (⟨#[32]⟩ : ByteArray).size = 1 := rfl
          simp only [ByteArray.size_append] at this ⊢
          omega, by rw [hjs]; unfold acS; rw [if_pos rfl, HAC.out, ByteArray.append_assoc]⟩)
        clear hjs
        go_upto_region 18 with (at_builtin; refine wpList_append_own_at _ rfl _ _ 58 rfl W3.heap.size 9 i0 (.string ByteArray.empty) 1 16 Tryd.underlying58 hi hz0 hz1 hz2 rfl (by decide) _ _ _ rfl (HO.out.alloc _) ⟨wr.heap.size, 0, none⟩ 1 1 [.string te] rfl rfl (news_lit _ [.string te] _) (oneCells_lit rfl) (by unfold maxLen; omega) (by omega) (by simp; omega) ?_; intro v' w7 hown hgrow _ hblk; have k37 := grown_below (B7.out.alloc B7.out.size _) (HO.out.alloc _) (Nat.le_refl _) hgrow)
        have KBq := QB2.out.trans (k37.mono QB2.out.size)
        have OWN := Lib.hid (show w7.ownsRow W3.heap.size 9 1 v' (strC sc wd nv ++ [te]).length ((strC sc wd nv ++ [te]).map Value.string) by rw [List.map_append, List.length_append]; exact hown)
        have OX7 := QX2.out.below k37
        have OF7 := QF.out.below k37
        clear x0 x1 x2 x3 x4 x5 x6 xfA f0 f1 f2 f3 f4 ffA hown hgrow hblk HO
        have xO := OX7
        have xfA := xO.f; have x0 := xO.c0; have x1 := xO.c1; have x2 := xO.c2; have x3 := xO.c3; have x4 := xO.c4; have x5 := xO.c5; have x6 := xO.c6
        clear xO
        have fO := OF7
        have ffA := fO.f; have f0 := fO.c0; have f1 := fO.c1; have f2 := fO.c2; have f3 := fO.c3; have f4 := fO.c4
        clear fO
        clear OX7 OF7
        have hbv := bare_v6 (ki := 6) (a := a) (b := b) (c := c) (te := te) (A := A) (B := B) (C := C)
        have hbr := fun W => bare_any 6 wd A B C 6 me a b c (cn : Int) te W
        have hnq := fun W => neqAct_run ⟨0, 0, if A = true then 0 else a, if B = true then 0 else b, if C = true then 0 else c, if (6 : Int) = 6 then ⟨#[]⟩ else te, 0⟩ ⟨0, 0, 0, 0, 0, ⟨#[]⟩, 0⟩ W
        generalize (if A = true then 0 else a) = a' at hbv hbr hnq
        generalize (if B = true then 0 else b) = b' at hbv hbr hnq
        generalize (if C = true then 0 else c) = c' at hbv hbr hnq
        generalize (if (6 : Int) = 6 then (⟨#[]⟩ : ByteArray) else te) = te' at hbv hbr hnq
        generalize decide ((⟨0, 0, a', b', c', te', 0⟩ : AAct) = ⟨0, 0, 0, 0, 0, ⟨#[]⟩, 0⟩) = D at hbv hnq
        have hgd := guardAct
        have BR := Lib.hid hbr
        have CN := Lib.hid (fun W => Tryd.strings_Contains_one te 10 W)
        rw [has_nl] at CN
        have HBV := Lib.hid hbv
        have hgx : w.heap.size < w7.heap.size := block_lt_of_cell x5
        clear hbr hbv
        cases D with
        | false =>
          have h6 : acV6 (actA 6) (actB 6) (actC 6) 6 a b c te = true := by rw [← HW.out.2.1, ← HW.out.2.2.1, ← HW.out.2.2.2, ← HBV.out]; rfl
          have h2 := acE_6 HV2.out HV4.out h6
          clear h6
          go_wp2_with (go_at_call 21; refine (BR.out _).mono ?_; rintro e w8 ⟨rfl, k8⟩; have KB8 := KBq.trans (k8.mono KBq.size))
          exact bodyPost_ret (v := T2 (.string ⟨#[]⟩) (I 3)) (by simp [results, Tryd.results10, go_sem, *]; try omega) rfl (AcP.bad h2 (by decide) KB8)
        | true =>
          have h6 : acV6 (actA 6) (actB 6) (actC 6) 6 a b c te = false := by rw [← HW.out.2.1, ← HW.out.2.2.1, ← HW.out.2.2.2, ← HBV.out]; rfl
          have HV6 := Lib.hid h6
          clear h6
          cases hnl : nlIn te with
          | true =>
            have h2 := acE_n HV2.out HV4.out HV6.out hnl
            rw [hnl] at CN
            clear hnl
            go_wp2_with (first
              | (go_at_call 21; refine (BR.out _).mono ?_; rintro e w8 ⟨rfl, k8⟩; have KB8 := KBq.trans (k8.mono KBq.size); have y5 := (k8.cell (p := ⟨w.heap.size, 5, none⟩) hgx).trans x5)
              | (go_at_call 22; refine (CN.out _).mono ?_; rintro e w9 ⟨rfl, rfl⟩))
            exact bodyPost_ret (v := T2 (.string ⟨#[]⟩) (I 3)) (by simp [results, Tryd.results10, go_sem, *]; try omega) rfl (AcP.bad h2 (by decide) KB8)
          | false =>
            have HNL := Lib.hid hnl
            rw [hnl] at CN
            clear hnl
            go_wp2_with (first
              | (go_at_call 21; refine (BR.out _).mono ?_; rintro e w8 ⟨rfl, k8⟩; have KB8 := KBq.trans (k8.mono KBq.size); have y5 := (k8.cell (p := ⟨w.heap.size, 5, none⟩) hgx).trans x5)
              | (go_at_call 22; refine (CN.out _).mono ?_; rintro e w9 ⟨rfl, rfl⟩))
            obtain ⟨ad, cap3, rfl, hn3, hl3, h03, h3⟩ := Sl.of_owns (owns_bel OWN.out k8) (by have := HLF.out.2.1; omega)
            obtain ⟨b3, o3, rfl, hb3, hc3⟩ := h3.resolve_left (by have := HLF.out.1; omega)
            refine (Tryd.strings_Join b3 o3 cap3 (strC sc wd nv ++ [te]) ⟨#[32]⟩ _ (fun j x hx => by
              have hj := (List.getElem?_eq_some_iff.1 hx).1
              have := hc3 j (by rw [List.length_map]; exact hj)
              rw [this, List.getD_eq_getElem?_getD, List.getElem?_map, hx]; rfl) hb3 (by have := HLF.out.2.1; omega) hn3.2 (by
              have h := HLF.out.2.2.1
              have e : (jn (strC sc wd nv ++ [te])).size = (Go.Lib.join ((strC sc wd nv ++ [te]).map (·.data.toList)) (⟨#[32]⟩ : ByteArray).data.toList).length := by unfold jn; exact List.size_toArray
              omega)).mono ?_
            rintro e w10 ⟨rfl, k10⟩
            have KB10 := KB8.trans (k10.mono KB8.size)
            have hjs := HLF.out.2.2.2
            have hjz := HLF.out.2.2.1
            have hjd : (⟨(Go.Lib.join ((strC sc wd nv ++ [te]).map (·.data.toList)) (⟨#[32]⟩ : ByteArray).data.toList).toArray⟩ : ByteArray) = jn (strC sc wd nv ++ [te]) := rfl
            rw [hjd]
            have HS := Lib.hid hjs
            clear hjd hjs hc3 h3 h03 hl3 hn3 OWN HLF
            generalize jn (strC sc wd nv ++ [te]) = S at *
            by_cases h120 : 120 < S.size
            · have h2 := acE_s HV2.out HV4.out HV6.out HNL.out (by rw [HS.out]; exact h120)
              have hz : (120 : Int) < (S.size : Int) := by omega
              go_wp2_with fail
              exact bodyPost_ret (v := T2 (.string ⟨#[]⟩) (I 1)) (by simp [results, Tryd.results10, go_sem, *]; try omega) rfl (AcP.bad h2 (by decide) KB10)
            · have h2 := acE_0 HV2.out HV4.out HV6.out HNL.out (by rw [HS.out]; exact h120)
              have hz : ¬ (120 : Int) < (S.size : Int) := by omega
              go_wp2_with fail
              exact bodyPost_ret (v := T2 (.string S) (I 0)) (by simp [results, Tryd.results10, go_sem, *]; try omega) rfl (AcP.ok h2 HS.out KB10)
      · have hk6z : (ki == 6) = false := by simp [hk6]
        have OWN := HO
        have HLF := Lib.hid (show 1 ≤ (strC sc wd nv).length ∧ (strC sc wd nv).length ≤ 8 ∧ (jn (strC sc wd nv)).size ≤ 140737488355000 ∧ acS ki me a b c te (cn : Int) = jn (strC sc wd nv) from ⟨by unfold strC; simp, by omega, by rw [HJ.out]; have := HJs.out; omega, by rw [HJ.out]; unfold acS; rw [if_neg hk6, HAC.out]⟩)
        have KBq := KBr
        go_upto_region 18 with fail
        have hbv := bare_v6 (ki := ki) (a := a) (b := b) (c := c) (te := te) (A := A) (B := B) (C := C)
        have hbr := fun W => bare_any ki wd A B C ki me a b c (cn : Int) te W
        have hnq := fun W => neqAct_run ⟨0, 0, if A = true then 0 else a, if B = true then 0 else b, if C = true then 0 else c, if (ki : Int) = 6 then ⟨#[]⟩ else te, 0⟩ ⟨0, 0, 0, 0, 0, ⟨#[]⟩, 0⟩ W
        generalize (if A = true then 0 else a) = a' at hbv hbr hnq
        generalize (if B = true then 0 else b) = b' at hbv hbr hnq
        generalize (if C = true then 0 else c) = c' at hbv hbr hnq
        generalize (if (ki : Int) = 6 then (⟨#[]⟩ : ByteArray) else te) = te' at hbv hbr hnq
        generalize decide ((⟨0, 0, a', b', c', te', 0⟩ : AAct) = ⟨0, 0, 0, 0, 0, ⟨#[]⟩, 0⟩) = D at hbv hnq
        have hgd := guardAct
        have BR := Lib.hid hbr
        have CN := Lib.hid (fun W => Tryd.strings_Contains_one te 10 W)
        rw [has_nl] at CN
        have HBV := Lib.hid hbv
        have hgx : w.heap.size < wr.heap.size := block_lt_of_cell x5
        clear hbr hbv
        cases D with
        | false =>
          have h6 : acV6 (actA ki) (actB ki) (actC ki) ki a b c te = true := by rw [← HW.out.2.1, ← HW.out.2.2.1, ← HW.out.2.2.2, ← HBV.out]; rfl
          have h2 := acE_6 HV2.out HV4.out h6
          clear h6
          go_wp2_with (go_at_call 21; refine (BR.out _).mono ?_; rintro e w8 ⟨rfl, k8⟩; have KB8 := KBq.trans (k8.mono KBq.size))
          exact bodyPost_ret (v := T2 (.string ⟨#[]⟩) (I 3)) (by simp [results, Tryd.results10, go_sem, *]; try omega) rfl (AcP.bad h2 (by decide) KB8)
        | true =>
          have h6 : acV6 (actA ki) (actB ki) (actC ki) ki a b c te = false := by rw [← HW.out.2.1, ← HW.out.2.2.1, ← HW.out.2.2.2, ← HBV.out]; rfl
          have HV6 := Lib.hid h6
          clear h6
          cases hnl : nlIn te with
          | true =>
            have h2 := acE_n HV2.out HV4.out HV6.out hnl
            rw [hnl] at CN
            clear hnl
            go_wp2_with (first
              | (go_at_call 21; refine (BR.out _).mono ?_; rintro e w8 ⟨rfl, k8⟩; have KB8 := KBq.trans (k8.mono KBq.size); have y5 := (k8.cell (p := ⟨w.heap.size, 5, none⟩) hgx).trans x5)
              | (go_at_call 22; refine (CN.out _).mono ?_; rintro e w9 ⟨rfl, rfl⟩))
            exact bodyPost_ret (v := T2 (.string ⟨#[]⟩) (I 3)) (by simp [results, Tryd.results10, go_sem, *]; try omega) rfl (AcP.bad h2 (by decide) KB8)
          | false =>
            have HNL := Lib.hid hnl
            rw [hnl] at CN
            clear hnl
            go_wp2_with (first
              | (go_at_call 21; refine (BR.out _).mono ?_; rintro e w8 ⟨rfl, k8⟩; have KB8 := KBq.trans (k8.mono KBq.size); have y5 := (k8.cell (p := ⟨w.heap.size, 5, none⟩) hgx).trans x5)
              | (go_at_call 22; refine (CN.out _).mono ?_; rintro e w9 ⟨rfl, rfl⟩))
            obtain ⟨ad, cap3, rfl, hn3, hl3, h03, h3⟩ := Sl.of_owns (owns_bel OWN.out k8) (by have := HLF.out.2.1; omega)
            obtain ⟨b3, o3, rfl, hb3, hc3⟩ := h3.resolve_left (by have := HLF.out.1; omega)
            refine (Tryd.strings_Join b3 o3 cap3 (strC sc wd nv) ⟨#[32]⟩ _ (fun j x hx => by
              have hj := (List.getElem?_eq_some_iff.1 hx).1
              have := hc3 j (by rw [List.length_map]; exact hj)
              rw [this, List.getD_eq_getElem?_getD, List.getElem?_map, hx]; rfl) hb3 (by have := HLF.out.2.1; omega) hn3.2 (by
              have h := HLF.out.2.2.1
              have e : (jn (strC sc wd nv)).size = (Go.Lib.join ((strC sc wd nv).map (·.data.toList)) (⟨#[32]⟩ : ByteArray).data.toList).length := by unfold jn; exact List.size_toArray
              omega)).mono ?_
            rintro e w10 ⟨rfl, k10⟩
            have KB10 := KB8.trans (k10.mono KB8.size)
            have hjs := HLF.out.2.2.2
            have hjz := HLF.out.2.2.1
            have hjd : (⟨(Go.Lib.join ((strC sc wd nv).map (·.data.toList)) (⟨#[32]⟩ : ByteArray).data.toList).toArray⟩ : ByteArray) = jn (strC sc wd nv) := rfl
            rw [hjd]
            have HS := Lib.hid hjs
            clear hjd hjs hc3 h3 h03 hl3 hn3 OWN HLF
            generalize jn (strC sc wd nv) = S at *
            by_cases h120 : 120 < S.size
            · have h2 := acE_s HV2.out HV4.out HV6.out HNL.out (by rw [HS.out]; exact h120)
              have hz : (120 : Int) < (S.size : Int) := by omega
              go_wp2_with fail
              exact bodyPost_ret (v := T2 (.string ⟨#[]⟩) (I 1)) (by simp [results, Tryd.results10, go_sem, *]; try omega) rfl (AcP.bad h2 (by decide) KB10)
            · have h2 := acE_0 HV2.out HV4.out HV6.out HNL.out (by rw [HS.out]; exact h120)
              have hz : ¬ (120 : Int) < (S.size : Int) := by omega
              go_wp2_with fail
              exact bodyPost_ret (v := T2 (.string S) (I 0)) (by simp [results, Tryd.results10, go_sem, *]; try omega) rfl (AcP.ok h2 HS.out KB10)
end Go.Proofs.YtfhmcahfjoliiaaDoor
