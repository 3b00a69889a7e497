/- tariff.Bill: the program -/
import Derived.Test.YtcpljkjibhindaaMost
import Derived.Test.YtcpljkjibhindaaTariffBilled
import Derived.RangeFuncBox
import Derived.Maps.AppendAt
namespace Go.Proofs.Ytcpljkjibhindaa
open Go Go.RowKit Go.Shelf
attribute [local go_sem] Oper.semAt_some

theorem piecesL_len {xs : List AStep} : ∀ {a : Int}, (piecesL xs a).length ≤ xs.length := by
  induction xs with
  | nil => intro a; simp [piecesL]
  | cons s r ih =>
    intro a
    rw [piecesL]
    split
    · have := @ih a; simp; omega
    · have := @ih s.upto; simp; omega
theorem lines_done (l : List (Int × Int)) (n p : Int) : (l.map lineOf).flatMap ALine.cells ++ [I n, I p, I (n * p)] = ((l ++ [(n, p)]).map lineOf).flatMap ALine.cells := by simp [ALine.cells, lineOf]
theorem boxed_grown {W W' : World} {row : Option Nat} (hg : W.grownBy W' row) {k : Nat} {t : TypeId} {v : Value} (h : Boxed W k t v) (hne : some k ≠ row) : Boxed W' k t v := (hg.block k h.lt hne).trans h
structure Step3 (W w1 : World) (z U V : Nat) (v v' : Value) (r : Int) (m : Nat) (ys : List Value) : Prop where
  cV : w1.cell? ⟨V, 0, none⟩ = some v
  fV : w1.frozen? ⟨V, 0, none⟩ = false
  cU : (w1.setCell ⟨V, 0, none⟩ v').cell? ⟨U, 0, none⟩ = some (I r)
  fU : (w1.setCell ⟨V, 0, none⟩ v').frozen? ⟨U, 0, none⟩ = false
  bV : ∀ y, Boxed ((w1.setCell ⟨V, 0, none⟩ v').setCell ⟨U, 0, none⟩ y) V 28 v'
  bU : ∀ y, Boxed ((w1.setCell ⟨V, 0, none⟩ v').setCell ⟨U, 0, none⟩ y) U 3 y
  row : ∀ y, ((w1.setCell ⟨V, 0, none⟩ v').setCell ⟨U, 0, none⟩ y).ownsRow z 87 3 v' m ys
  ko : ∀ y, KeepsOthers W ((w1.setCell ⟨V, 0, none⟩ v').setCell ⟨U, 0, none⟩ y)
  kp : ∀ y, KpB U V z W ((w1.setCell ⟨V, 0, none⟩ v').setCell ⟨U, 0, none⟩ y)
  be : ∀ y n, n ≤ U → n ≤ V → Below n W ((w1.setCell ⟨V, 0, none⟩ v').setCell ⟨U, 0, none⟩ y)
theorem step3 {W w1 : World} {z U V : Nat} {v v' : Value} {k m : Nat} {xs ys : List Value} {cs : List Value} {r : Int} (hV : Boxed W V 28 v) (hU : Boxed W U 3 (I r)) (hrow : W.ownsRow z 87 3 v k xs) (hz : z ≤ W.heap.size) (hUz : U < z) (hVz : V < z) (hUV : U ≠ V)
    (hown' : w1.ownsRow z 87 3 v' m ys) (hgrow : (W.alloc (.cells cs.toArray 87)).grownBy w1 v.ownBlock) : Step3 W w1 z U V v v' r m ys := by
  have nz : ∀ k, k < z → some k ≠ v.ownBlock := fun k hk e => by
    have := (hrow.lt k e.symm).1; omega
  have nz' : ∀ k, k < z → v'.ownBlock ≠ some k := fun k hk e => by
    have := (hown'.lt k e).1; omega
  have v1 := boxed_grown hgrow (hV.alloc (.cells cs.toArray 87)) (nz V hVz)
  have u1 := boxed_grown hgrow (hU.alloc (.cells cs.toArray 87)) (nz U hUz)
  have v2 : Boxed (w1.setCell ⟨V, 0, none⟩ v') V 28 v' := v1.set v'
  have u2 : Boxed (w1.setCell ⟨V, 0, none⟩ v') U 3 (I r) := boxed_grown (grownBy_setCell' w1 V v') u1 (fun e => hUV (by cases e; rfl))
  have r1 : (w1.setCell ⟨V, 0, none⟩ v').ownsRow z 87 3 v' m ys := hown'.kept (grownBy_setCell' w1 V v') (.inr (nz' V hVz))
  have ks : KeepsOthers W w1 := (KeepsOthers.alloc W _).trans (KeepsOthers.of_grownBy hgrow fun j o ej hj => by
    rcases (hrow.alloc (.cells cs.toArray 87)).2 with ⟨rfl, _⟩ | ⟨g, cap, cur, rfl, _, hgb, _⟩
    · simp [Value.ownBlock] at ej
    · obtain rfl : g = j := by simpa [Value.ownBlock] using ej
      rw [hgb] at hj; cases hj; rfl)
  have kp1 : ∀ i o, W.heap[i]? = some o → (i < z ∨ ∃ cur fz, o = .cells cur 78 fz) → w1.heap[i]? = some o := fun i o hi ho => by
    have hlt := (Array.getElem?_eq_some_iff.1 hi).1
    have hi' : (W.alloc (.cells cs.toArray 87)).heap[i]? = some o := ((boxed_below W _).block i hlt).trans hi
    rw [hgrow.block i (Array.getElem?_eq_some_iff.1 hi').1 ?_]
    · exact hi'
    · intro e
      rcases ho with h | ⟨cur, fz, rfl⟩
      · exact nz i h e
      · rcases hrow.2 with ⟨rfl, _⟩ | ⟨g, cap, cur2, rfl, _, hgb, _⟩
        · simp [Value.ownBlock] at e
        · obtain rfl : i = g := by simpa [Value.ownBlock] using e
          rw [hgb] at hi
          simp at hi
  refine ⟨v1.cell, v1.frozen, u2.cell, u2.frozen, fun y => boxed_grown (grownBy_setCell' _ U y) v2 (fun e => hUV (by cases e; rfl)), fun y => u2.set y, fun y => r1.kept (grownBy_setCell' _ U y) (.inr (nz' U hUz)), fun y => (ks.trans (KeepsOthers.setCell _ _ _)).trans (KeepsOthers.setCell _ _ _), fun y => ⟨?_, fun i o hi _ hiz h1 h2 => ?_, fun i cur fz hi hiz => ?_⟩, fun y n h1 h2 => ?_⟩
  · exact Nat.le_trans ks.size (Nat.le_trans (grownBy_setCell' w1 V v').size (grownBy_setCell' _ U y).size)
  · have := kp1 i o hi (.inl hiz)
    simp only [World.setCell, Array.getElem?_modify, Ne.symm h1, Ne.symm h2, if_false]
    exact this
  · have := kp1 i _ hi (.inr ⟨_, _, rfl⟩)
    simp only [World.setCell, Array.getElem?_modify, show V ≠ i by omega, show U ≠ i by omega, if_false]
    exact this
  · refine ((((Below.refl n W).alloc (by omega) _).grown hgrow (by simp; omega) fun j ej => ?_).setCell (p := ⟨V, 0, none⟩) h2 v').setCell (p := ⟨U, 0, none⟩) h1 y
    have := (hrow.lt j ej).1; omega

def BillI (xs : List AStep) (a u : Int) (w : World) (U V z : Nat) (pre : List (Int × Int)) (W : World) : Prop := ∃ rest r v done, piecesL xs a = pre ++ rest ∧ billP (piecesL xs a) u = done ++ billP rest r ∧ done.length ≤ pre.length ∧ 0 ≤ r ∧ r ≤ 2097151 ∧
  Boxed W U 3 (I r) ∧ Boxed W V 28 v ∧ W.ownsRow z 87 3 v done.length ((done.map lineOf).flatMap ALine.cells) ∧ Below w.heap.size w W ∧ z ≤ W.heap.size
def BillX (xs : List AStep) (a u : Int) (w : World) (V z : Nat) (W : World) : Prop := ∃ v, Boxed W V 28 v ∧ W.ownsRow z 87 3 v (linesA xs a u).length ((linesA xs a u).flatMap ALine.cells) ∧ Below w.heap.size w W
theorem row_turn {W W' : World} {row : Option Nat} {z e m B Bf : Nat} {v : Value} {cs : List Value} (h : W.ownsRow z e 3 v m cs) (hg : W.grownBy W' row) (hr : ∀ r, row = some r → r = Bf ∨ B ≤ r ∧ ∃ o, W.heap[r]? = some o ∧ o.isCells = false) (h1 : Bf < z) : W'.ownsRow z e 3 v m cs := by
  refine h.kept hg ?_
  rcases h.2 with ⟨rfl, _⟩ | ⟨g, cap, cur, rfl, hb, hgb, _⟩
  · exact .inl rfl
  · refine .inr fun e => ?_
    rcases hr g (by rw [← e]; rfl) with h | ⟨_, o, ho, hc⟩
    · omega
    · rw [hgb] at ho; cases ho; cases hc
theorem BillI_turned (xs : List AStep) (a u : Int) (w : World) (U V : Nat) {B s : Nat} (hs : w.heap.size ≤ s) (hU : U ≤ s) (hV : V ≤ s) (hB : s + 1 < B) : Turned B (s + 1) (fun pre W => BillI xs a u w U V B pre W) := by
  rintro pre W W' row ⟨rest, r, v, done, e1, e2, e3, r0, r1, hU', hV', hrow, kW, hz⟩ hg hr
  exact ⟨rest, r, v, done, e1, e2, e3, r0, r1, boxed_grown hg hU' (not_row hr (by omega) (by omega)), boxed_grown hg hV' (not_row hr (by omega) (by omega)), row_turn hrow hg hr (by omega), below_turn kW hg hr (by omega) (by omega), Nat.le_trans hz hg.size⟩
theorem BillX_turned (xs : List AStep) (a u : Int) (w : World) (V c : Nat) {B s : Nat} (hs : w.heap.size ≤ s) (hV : V ≤ s) (hB : s + 1 < B) : Turned (β := List (Int × Int)) B (s + 1) (fun _ W => c = 0 ∧ BillX xs a u w V B W) := by
  rintro pre W W' row ⟨hc, v, hV', hrow, kW⟩ hg hr
  exact ⟨hc, v, boxed_grown hg hV' (not_row hr (by omega) (by omega)), row_turn hrow hg hr (by omega), below_turn kW hg hr (by omega) (by omega)⟩
theorem box1 (w w1 : World) (u : Int) (k : Below (w.heap.size + 1) (w.alloc (.cells #[I u] 3)) w1) : Boxed w1 w.heap.size 3 (I u) ∧ Below w.heap.size w w1 ∧ w.heap.size < w1.heap.size := by
  refine ⟨(k.block _ (by omega)).trans (Boxed.new w _ _), (boxed_below w _).trans (k.mono (by omega)), by have := k.size; simp at this; omega⟩
theorem billP_len : ∀ {l : List (Int × Int)} {u : Int}, (billP l u).length ≤ l.length
  | [], _ => Nat.le_refl _
  | x :: r, u => by
    rw [billP]
    split
    · simp
    · have := @billP_len r (u - min x.1 u); simp; omega
set_option maxRecDepth 100000 in
set_option maxHeartbeats 4000000 in
theorem Bill_any (v : Value) (xs : List AStep) (a u : Int) (w : World) (h : Sl w v 2 xs.length (xs.flatMap AStep.cells)) :
    Calls Try.prog 19 #[v, I a, I u] w (GrewLi (linesA xs a u) (unitsE xs a u) w) := by
  have T := Lib.hid (fun W hW => asked_any v xs a u W hW)
  by_cases hU : unitsE xs a u = 0
  · rw [hU] at T ⊢
    obtain ⟨hT, a0, a1, u0, u1, -⟩ := unitsE_ok hU
    obtain ⟨l0, l8, hall, -, -⟩ := tariffE_zero hT
    obtain ⟨p, cap, rfl, hn, hl, -, hs⟩ := id h
    obtain ⟨g, off, rfl, hg, hc⟩ := hs.resolve_left (by omega)
    have HC := Lib.hid hc
    have HL := Lib.hid (show linesA xs a u = (billP (piecesL xs a) u).map lineOf by rw [linesA, if_pos hU, bill_law hT a0 u0])
    clear hc hs hl hU
    have k1 := boxed_below w (.cells #[I u] 3)
    refine (callsIn_wide (n := 6)).1 ?_
    refine callsIn_of_wp_marks Try.func19 rfl trivial ?_ rfl
    simp only [Try.ntmps19, List.size_toArray, List.length_cons, List.length_nil, Nat.reduceAdd, Nat.reduceSub, Array.replicate_succ, Array.replicate_zero, List.push_toArray, List.append_toArray, List.nil_append, List.cons_append]
    gi_wp2_with (refine ⟨trivial, ?_⟩; gi_at_call 50; refine (callsIn_wide.2 (T.out _ (h.below k1))).mono ?_; rintro e w1 ⟨rfl, k2⟩; obtain ⟨bU, kB, hz1⟩ := box1 w w1 u (by simpa using k2); clear k1 k2; have c0 := bU.cell; have f0 := bU.frozen)
    gi_wp2_with (refine ⟨trivial, ?_⟩; gi_at_call 51; refine (callsIn_wide.2 (pieces_any _ _ _ _ _)).mono ?_; rintro e w2 ⟨rfl, rfl⟩)
    have hsz := kB.size
    have bV := (((Boxed.new w1 28 (.slice none 0 0)).alloc (.cells #[.slice (some ⟨g, off, none⟩) xs.length cap] 22)).alloc (.cells #[I a] 3))
    have bU' := ((bU.alloc (.cells #[.slice none 0 0] 28)).alloc (.cells #[.slice (some ⟨g, off, none⟩) xs.length cap] 22)).alloc (.cells #[I a] 3)
    have hbt := ((Own.new (w := w1.alloc (.cells #[.slice none 0 0] 28)) (g := w1.heap.size + 1) (by simp) [.slice (some ⟨g, off, none⟩) xs.length cap] 22)).alloc (.cells #[I a] 3)
    have hbf := Own.new (w := (w1.alloc (.cells #[.slice none 0 0] 28)).alloc (.cells #[.slice (some ⟨g, off, none⟩) xs.length cap] 22)) (g := w1.heap.size + 1 + 1) (by simp) [I a] 3
    have hB3 : Below w1.heap.size w1 (((w1.alloc (.cells #[.slice none 0 0] 28)).alloc (.cells #[.slice (some ⟨g, off, none⟩) xs.length cap] 22)).alloc (.cells #[I a] 3)) := ((boxed_below w1 _).alloc (by simp) _).alloc (by simp; omega) _
    have hsz3 : (((w1.alloc (.cells #[.slice none 0 0] 28)).alloc (.cells #[.slice (some ⟨g, off, none⟩) xs.length cap] 22)).alloc (.cells #[I a] 3)).heap.size = w1.heap.size + 1 + 1 + 1 := by simp
    generalize ((w1.alloc (.cells #[.slice none 0 0] 28)).alloc (.cells #[.slice (some ⟨g, off, none⟩) xs.length cap] 22)).alloc (.cells #[I a] 3) = W0 at *
    obtain ⟨i0, hi, hz0', hz1', hz2'⟩ := info_parts infoLine
    refine range_store rfl (by omega) (gf := 78) (lb := #[.pointer (some ⟨w1.heap.size + 1, 0, none⟩), .pointer (some ⟨w1.heap.size + 1 + 1, 0, none⟩)]) rfl trivial (enters_of Try.func78 (by kernel_rfl) rfl) (Bf := w1.heap.size + 1 + 1) (by omega)
      (pieces_store (6 - 1) (by omega) (w1.heap.size + 1) g off cap w.heap.size w1.heap.size (w1.heap.size + 1 + 1 + 1) xs a _ (by omega) (by omega) (by omega) (by omega) (by omega) (by omega) (by omega) (by omega) hT a0
        (hbt.cell 0 (by simp)) (hbf.cell 0 (by simp)) (hbf.frozen 0) (fun j hj => ((kB.trans (hB3.mono hsz)).cell (p := ⟨g, off + j, none⟩) hg).trans (HC.out j hj))) (Kp := KpB w.heap.size w1.heap.size (w1.heap.size + 1 + 1 + 1))
      (fun h k => h.trans k) (fun W l o' _ ho => KpB.put ho) (fun _ => rfl)
      (fun pre W => BillI xs a u w w.heap.size w1.heap.size (w1.heap.size + 1 + 1 + 1) pre W) (fun c _ W => c = 0 ∧ BillX xs a u w w1.heap.size (w1.heap.size + 1 + 1 + 1) W)
      (hsz3 ▸ BillI_turned xs a u w w.heap.size w1.heap.size (s := w1.heap.size + 1) (by omega) (by omega) (by omega) (by omega)) (fun c => hsz3 ▸ BillX_turned xs a u w w1.heap.size c (s := w1.heap.size + 1) (by omega) (by omega) (by omega))
      ⟨_, u, .slice none 0 0, [], rfl, rfl, Nat.le_refl _, u0, u1, bU', bV, World.ownsRow_nil _ _ _ _, kB.trans (hB3.mono hsz), by omega⟩
      (fun x => { tmps := #[.slice (some ⟨g, off, none⟩) xs.length cap, I a, I u, undef, undef, .pointer (some ⟨w.heap.size, 0, none⟩), .slice none 0 0, .int .i64 0, I 0, .pointer (some ⟨w1.heap.size, 0, none⟩), I x.1, I x.2, undef, .slice (some ⟨g, off, none⟩) xs.length cap, I a, I u, I 0, I 0, .bool false, undef, .slice (some ⟨g, off, none⟩) xs.length cap, I a,
        .func (.func 78) #[] #[.pointer (some ⟨w1.heap.size + 1, 0, none⟩), .pointer (some ⟨w1.heap.size + 1 + 1, 0, none⟩)], I x.1, I x.2, undef, undef, undef, undef, undef, undef, undef, undef, undef, undef, undef, undef, undef, undef, undef, undef, undef, undef], defers := [] }) ?assign ?body ?done ?stop
    case assign =>
      intro l x W K hK
      gi_wp2
      exact hK
    case body =>
      rintro l pre x W ⟨rest, r, v, done, e1, e2, e3, r0, r1, hU, hV, hrow, kW, hzW⟩ hpx
      have hpl := Nat.le_trans hpx.length_le piecesL_len
      rw [List.length_append] at hpl
      simp only [List.length_cons, List.length_nil] at hpl
      obtain ⟨rest', hr'⟩ := hpx
      rw [e1, List.append_assoc, List.singleton_append] at hr'
      obtain rfl := (List.append_cancel_left hr').symm
      obtain ⟨x0, x1, y0, y1⟩ := piecesL_ok a0 (List.all_eq_true.1 hall) x (by rw [e1]; simp)
      have cU := hU.cell
      have cV := hV.cell
      have E := Lib.hid (And.intro e1 e2)
      clear e1 e2 hr'
      by_cases hz : r = 0
      · subst hz
        gi_wp2
        obtain ⟨e1, e2⟩ := E.out
        refine ⟨KeepsOthers.refl _, rfl, v, hV, ?_, kW⟩
        rw [HL.out, e2, billP_zero, List.append_nil, List.length_map]
        exact hrow
      · obtain ⟨nn, hn⟩ : ∃ nn, nn = min x.1 r := ⟨_, rfl⟩
        have hm : 0 ≤ nn * x.2 ∧ nn * x.2 ≤ 2097151 * 100000 := ⟨Int.mul_nonneg (by omega) (by omega), Int.mul_le_mul (by omega) (by omega) (by omega) (by omega)⟩
        obtain ⟨hm0, hm1⟩ := hm
        have w5' : IntKind.i64.wrap (nn * x.2) = nn * x.2 := wrap_small _ (by omega) (by omega)
        have w6' : IntKind.i64.wrap (r - nn) = r - nn := wrap_small _ (by omega) (by omega)
        have hstep := Lib.hid (show billP (x :: rest') r = (nn, x.2) :: billP rest' (r - nn) by rw [hn, billP, if_neg hz])
        have hr3 : 0 ≤ r - nn ∧ r - nn ≤ 2097151 := by omega
        have Hr := Lib.hid hr3
        have hlen : done.length ≤ 7 := by omega
        by_cases hlt : r < x.1
        · obtain rfl : nn = r := by omega
          clear hn hr3 hm0 hm1
          gi_wp2_with (gi_at_builtin; refine wpListIn_append_own _ rfl _ _ 28 rfl (w1.heap.size + 1 + 1 + 1) 87 i0 (.agg #[.int .i64 0, .int .i64 0, .int .i64 0]) 3 24 Try.underlying28 hi hz0' hz1' hz2' rfl (by decide) _ _ _ rfl (hrow.alloc _) ⟨W.heap.size, 0, none⟩ 1 1 [I (nn), I x.2, I (nn * x.2)] rfl rfl (news_lit _ _ _) (by simp [Value.oneCell']) (by unfold maxLen; omega) (by omega) (by simp; omega) ?_; intro v' w1' hown' hgrow _; obtain ⟨g', cap', rfl⟩ := ownsRow_succ hown'; have S3 := step3 (cs := [I (nn), I x.2, I (nn * x.2)]) hV hU hrow hzW (by omega) (by omega) (by omega) hown' hgrow; have q1 := S3.cV; have q2 := S3.fV; have q3 := S3.cU; have q4 := S3.fU)
          obtain ⟨e1, e2⟩ := E.out
          rw [Int.sub_self] at hstep
          refine ⟨S3.ko _, S3.kp _, rest', 0, _, done ++ [(nn, x.2)], by rw [e1]; simp, by rw [e2, hstep.out]; simp, by simp; omega, by omega, by omega, S3.bU _, S3.bV _, ?_, kW.trans (S3.be _ _ (by omega) (by omega)), Nat.le_trans hzW (S3.kp _).1⟩
          have := S3.row (I (0))
          rw [lines_done] at this
          simpa using this
        · obtain rfl : nn = x.1 := by omega
          clear hn hr3 hm0 hm1
          gi_wp2_with (gi_at_builtin; refine wpListIn_append_own _ rfl _ _ 28 rfl (w1.heap.size + 1 + 1 + 1) 87 i0 (.agg #[.int .i64 0, .int .i64 0, .int .i64 0]) 3 24 Try.underlying28 hi hz0' hz1' hz2' rfl (by decide) _ _ _ rfl (hrow.alloc _) ⟨W.heap.size, 0, none⟩ 1 1 [I (x.1), I x.2, I (x.1 * x.2)] rfl rfl (news_lit _ _ _) (by simp [Value.oneCell']) (by unfold maxLen; omega) (by omega) (by simp; omega) ?_; intro v' w1' hown' hgrow _; obtain ⟨g', cap', rfl⟩ := ownsRow_succ hown'; have S3 := step3 (cs := [I (x.1), I x.2, I (x.1 * x.2)]) hV hU hrow hzW (by omega) (by omega) (by omega) hown' hgrow; have q1 := S3.cV; have q2 := S3.fV; have q3 := S3.cU; have q4 := S3.fU)
          obtain ⟨e1, e2⟩ := E.out
          skip
          refine ⟨S3.ko _, S3.kp _, rest', r - x.1, _, done ++ [(x.1, x.2)], by rw [e1]; simp, by rw [e2, hstep.out]; simp, by simp; omega, by omega, by omega, S3.bU _, S3.bV _, ?_, kW.trans (S3.be _ _ (by omega) (by omega)), Nat.le_trans hzW (S3.kp _).1⟩
          have := S3.row (I (r - x.1))
          rw [lines_done] at this
          simpa using this
    case done =>
      rintro D ys W hD rfl ⟨rest, r, v, done, e1, e2, e3, r0, r1, hU, hV, hrow, kW, hzW⟩ hK
      obtain rfl : rest = [] := by simpa using e1
      have hrow2 : W.ownsRow (w1.heap.size + 1 + 1 + 1) 87 3 v (linesA xs a u).length ((linesA xs a u).flatMap ALine.cells) := by
        rw [HL.out, e2, show billP [] r = [] from rfl, List.append_nil, List.length_map]
        exact hrow
      have hln : (linesA xs a u).length ≤ 8 := by
        rw [HL.out, e2, show billP [] r = [] from rfl, List.append_nil, List.length_map]
        have := @piecesL_len xs a
        omega
      clear hrow e1 e2 e3
      have cV := hV.cell
      gi_wp2
      refine ⟨by simp, .inl ⟨_, _, rfl, run_takeDeferred hK, ?_⟩⟩
      have hS := Sl.of_owns (ownsRow_putObj hrow2 (Obj.deferred none) hK rfl) (by omega)
      have fin : Below w.heap.size w (W.putObj D (.deferred none)) := kW.trans (belowK_b (w := w) (Nat.le_refl _) _ D _ _ (by omega) hK rfl rfl)
      refine ⟨_, ?_, ⟨v, rfl, hS, fin⟩⟩
      simp [results, Try.results19, go_sem]
    case stop =>
      rintro D c pre W hD hp ⟨rfl, v, hV, hrow2, kW⟩ hK
      have hln : (linesA xs a u).length ≤ 8 := by
        rw [HL.out, List.length_map]
        exact Nat.le_trans billP_len (Nat.le_trans piecesL_len l8)
      have cV := hV.cell
      gi_wp2
      refine ⟨by simp, .inl ⟨_, _, rfl, run_takeDeferred hK, ?_⟩⟩
      have hS := Sl.of_owns (ownsRow_putObj hrow2 (Obj.deferred none) hK rfl) (by omega)
      have fin : Below w.heap.size w (W.putObj D (.deferred none)) := kW.trans (belowK_b (w := w) (Nat.le_refl _) _ D _ _ (by omega) hK rfl rfl)
      refine ⟨_, ?_, ⟨v, rfl, hS, fin⟩⟩
      simp [results, Try.results19, go_sem]
  · have hL : linesA xs a u = [] := by rw [linesA, if_neg hU]
    rw [hL]
    generalize unitsE xs a u = r at *
    have k1 := boxed_below w (.cells #[I u] 3)
    refine (callsIn_wide (n := 6)).1 ?_
    refine callsIn_of_wp_marks Try.func19 rfl trivial ?_ rfl
    simp only [Try.ntmps19, List.size_toArray, List.length_cons, List.length_nil, Nat.reduceAdd, Nat.reduceSub, Array.replicate_succ, Array.replicate_zero, List.push_toArray, List.append_toArray, List.nil_append, List.cons_append]
    gi_wp2_with (refine ⟨trivial, ?_⟩; gi_at_call 50; refine (callsIn_wide.2 (T.out _ (h.below k1))).mono ?_; rintro e w1 ⟨rfl, k2⟩; obtain ⟨bU, kB, hz1⟩ := box1 w w1 u (by simpa using k2); clear k1 k2; have c0 := bU.cell; have f0 := bU.frozen)
    refine ⟨_, ?_, ⟨_, rfl, Sl.nil _ _, kB⟩⟩
    simp [results, Try.results19, go_sem]
end Go.Proofs.Ytcpljkjibhindaa
