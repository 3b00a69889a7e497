/- ref.Billed -/
import Derived.Test.YtcpljkjibhindaaTariffLaw
import Derived.Test.YtcpljkjibhindaaTariffAsk
import Derived.Test.YtcpljkjibhindaaAgeF
import Derived.Deep.AppendLies
import Derived.Deep.RegionHeld3
namespace Go.Proofs.Ytcpljkjibhindaa
open Go.RowKit
set_option maxRecDepth 20000

theorem infoLine : (Try.prog.info? 87).map (fun i => (i.zero, i.size, i.bytes)) = some (some (.agg #[.int .i64 0, .int .i64 0, .int .i64 0]), 3, 24) := by kernel_rfl
def lineOf (x : Int × Int) : ALine := ⟨x.1, x.2, x.1 * x.2⟩
def billN (xs : List AStep) (a b : Int) : Nat → List ALine
  | 0 => []
  | k + 1 => if 0 < lapI (loA xs k) (xs.getD k default).upto a b then billN xs a b k ++ [⟨lapI (loA xs k) (xs.getD k default).upto a b, (xs.getD k default).price, lapI (loA xs k) (xs.getD k default).upto a b * (xs.getD k default).price⟩] else billN xs a b k
theorem billN_len (xs : List AStep) (a b : Int) : ∀ k, (billN xs a b k).length ≤ k
  | 0 => Nat.le_refl _
  | k + 1 => by
    have := billN_len xs a b k
    rw [billN]
    split
    · rw [List.length_append]; simp; omega
    · omega
theorem billN_drop (xs : List AStep) (a b : Int) : ∀ k, k ≤ xs.length → billN xs a b k ++ (billR a b (xs.drop k) (loA xs k)).map lineOf = (billR a b xs 0).map lineOf
  | 0, _ => by rw [List.drop_zero]; rfl
  | k + 1, hk => by
    have ih := billN_drop xs a b k (by omega)
    have hx : xs.drop k = xs.getD k default :: xs.drop (k + 1) := by
      rw [List.getD_eq_getElem?_getD, List.getElem?_eq_getElem (by omega)]
      exact List.drop_eq_getElem_cons (by omega)
    rw [hx, billR] at ih
    rw [← ih, billN]
    show _ ++ (billR a b (xs.drop (k + 1)) (xs.getD k default).upto).map lineOf = _
    split
    · simp [lineOf]
    · rfl
theorem billN_all (xs : List AStep) (a b : Int) : billN xs a b xs.length = (billR a b xs 0).map lineOf := by
  have := billN_drop xs a b xs.length (Nat.le_refl _)
  rw [List.drop_length] at this
  rw [← this]
  simp [billR]
/-- the lines of a bill -/
def linesA (xs : List AStep) (a u : Int) : List ALine := if unitsE xs a u = 0 then (billR a (a + u) xs 0).map lineOf else []
def GrewLi (l : List ALine) (k : Int) (w : World) (e : Ending) (w' : World) : Prop :=
  ∃ v, e = .returned (T2 v (I k)) ∧ Sl w' v 3 l.length (l.flatMap ALine.cells) ∧ Below w.heap.size w w'
theorem cells_appL (l : List ALine) (a b c : Int) : l.flatMap ALine.cells ++ [I a, I b, I c] = (l ++ [(⟨a, b, c⟩ : ALine)]).flatMap ALine.cells := by simp [ALine.cells]
def BRel (w : World) (xs : List AStep) (a b : Int) (k : Nat) (v : Value) (wr : World) : Prop :=
  wr.ownsRow w.heap.size 87 3 v (billN xs a b k).length ((billN xs a b k).flatMap ALine.cells) ∧ Below w.heap.size w wr
set_option maxHeartbeats 2000000 in
theorem Billed_any (v : Value) (xs : List AStep) (a u : Int) (w : World) (h : Sl w v 2 xs.length (xs.flatMap AStep.cells)) :
    Calls Try.prog 20 #[v, I a, I u] w (GrewLi (linesA xs a u) (unitsE xs a u) w) := by
  have T := Lib.hid (fun W hW => UnitsMay_any v xs a u W hW)
  by_cases hU : unitsE xs a u = 0
  · have hL : linesA xs a u = (billR a (a + u) xs 0).map lineOf := by rw [linesA, if_pos hU]
    rw [hL, ← billN_all, hU]
    rw [hU] at T
    obtain ⟨hT, a0, a1, u0, -, s1⟩ := unitsE_ok hU
    obtain ⟨l0, l8, hall, -, -⟩ := tariffE_zero hT
    have HB := Lib.hid (fun k hk => loA_bd hall (k := k) hk)
    have HO := Lib.hid (fun k hk => okStep_true.1 (okStepAt hall (k := k) hk))
    have hw : IntKind.i64.wrap (a + u) = a + u := wrap_small _ (by omega) (by omega)
    obtain ⟨b, hbe⟩ : ∃ b, b = a + u := ⟨_, rfl⟩
    have b0 : 0 ≤ b := by omega
    have b1 : b ≤ 10000000 := by omega
    rw [← hbe] at hw ⊢
    have HL := Lib.hid (fun lo hi w h0 h1 h2 h3 => overlap_any lo hi a b w h0 h1 h2 h3 a0 a1 b0 b1)
    have hbe' := hbe.symm
    clear hbe hT hall hU hL u0 a0 a1 b0 b1 s1
    obtain ⟨i0, hi, hz0, hz1, hz2⟩ := info_parts infoLine
    have h' := h
    obtain ⟨p, cap, rfl, hn, -, -, h1⟩ := h'
    obtain ⟨g, off, rfl, hg, hc⟩ := h1.resolve_left (by omega)
    have HC := Lib.hid hc
    clear h1 hc
    go_enter Try.func20, Try.ntmps20
    go_wp2_with fail
    refine (T.out _ h).mono ?_
    rintro e w1 ⟨rfl, k1⟩
    go_wp2
    go_loopw [9, 10, 11, 12] (fun v l i _ wr => ∃ k : Nat, k ≤ xs.length ∧ l = I (loA xs k) ∧ i = I k ∧ Hid (BRel w xs a b k v wr)) (fun _ _ i _ _ => xs.length - (intOf i).toNat)
    case atStart => exact ⟨0, Nat.zero_le _, rfl, rfl, World.ownsRow_nil _ _ _ _, k1⟩
    case round =>
      obtain ⟨k, hk, rfl, rfl, hD⟩ := hrel
      obtain ⟨hown, hbw⟩ := hD.out
      have hsz := hbw.size
      by_cases hlt : k < xs.length
      · obtain ⟨e0, e1⟩ := elStep hg HC.out hbw k hlt
        have hi0 : (0 : Int) ≤ (k : Int) := by omega
        have hi1 : (k : Int) < (xs.length : Int) := by omega
        obtain ⟨m0, m1⟩ := HB.out k (by omega)
        obtain ⟨u0, u1, p0, p1⟩ := HO.out k hlt
        have hlo : loA xs (k + 1) = (xs.getD k default).upto := rfl
        have hln := billN_len xs a b k
        have hs : billN xs a b (k + 1) = if 0 < lapI (loA xs k) (xs.getD k default).upto a b then billN xs a b k ++ [⟨lapI (loA xs k) (xs.getD k default).upto a b, (xs.getD k default).price, lapI (loA xs k) (xs.getD k default).upto a b * (xs.getD k default).price⟩] else billN xs a b k := rfl
        have hmul := lapcost_bd (l := loA xs k) (u := (xs.getD k default).upto) (a := a) (b := b) (p := (xs.getD k default).price) m0 (by omega) p0 p1
        have L := HL.out (loA xs k) (xs.getD k default).upto
        have HE0 := Lib.hid (fun W (hW : Below w.heap.size w W) => (elStep hg HC.out hW k hlt).1)
        have HE1 := Lib.hid (fun W (hW : Below w.heap.size w W) => (elStep hg HC.out hW k hlt).2)
        generalize loA xs k = l at *
        generalize xs.getD k default = x at *
        have HLO := Lib.hid hlo
        have L := fun W => L W m0 m1 (by omega) (by omega)
        generalize lapI l x.upto a b = t at *
        have w1' : IntKind.i64.wrap (t * x.price) = t * x.price := wrap_small _ (by omega) (by omega)
        by_cases hpos : 0 < t
        · rw [if_pos hpos] at hs
          have HS := Lib.hid hs
          clear hs hlo hmul u0 u1 p0 p1 m0 m1 HL HO HB T k1
          go_wp2_with (go_at_call 53; refine (L _).mono ?_; rintro e w' ⟨rfl, rfl⟩)
          have hgw : g < wr.heap.size := Nat.lt_of_lt_of_le hg hsz
          go_region_held3 (fun W => W.cell? ⟨g, off + k * 2 + 1, none⟩ = some (I x.price)) (first | exact e1 | exact ((boxed_below wr _).cell (p := ⟨g, off + k * 2 + 1, none⟩) hgw).trans e1 | exact (HE1.out _ (by assumption)) | go_keep)
            ((refine step_append_lies _ (by rfl) _ _ _ (by rfl) w.heap.size 87 i0 _ 3 24 Try.underlying28 hi hz0 hz1 hz2 rfl (by omega) u9 _ _ (by rfl) ((hown.alloc _).drew) ⟨wr.heap.size, 0, none⟩ 1 1 [I t, I x.price, I (t * x.price)] (by rfl) (by rfl) (World.news_of_block (cs := #[I t, I x.price, I (t * x.price)]) (t := 87) (fr := (0, 0)) (heap_alloc_new wr _)) (by simp [Value.oneCell']) (by omega) (by unfold maxLen; omega) (by omega) (by simp; omega) (wr.heap.size + 1) (by simp) ?_; intro gg cap2 w1 hown1 hgrow hat hlt1; have hbel := Below.grown (drewN_below (hbw.alloc hsz (.cells #[I t, I x.price, I (t * x.price)] 87)) 1) hgrow (by simp; omega) (fun j hj => (hown.lt j hj).1); have e0 := HE0.out _ hbel; have hD' : Hid (BRel w xs a b (k + 1) (.slice (some ⟨gg, 0, none⟩) ((billN xs a b k).length + 1) cap2) w1) := ⟨by rw [HS.out, List.length_append, ← cells_appL]; exact hown1, hbel⟩; have e1 := HE1.out _ hbel))
          all_goals
            clear hown1 hgrow hat hlt1 hbel hD hown hbw
            go_wp2
            exact ⟨⟨k + 1, by omega, by rw [HLO.out], by go_num, hD'⟩, by simp [intOf]; omega⟩
        · rw [if_neg hpos] at hs
          have HD : Hid (BRel w xs a b (k + 1) _ _) := Lib.hid (by unfold BRel; rw [hs]; exact hD.out)
          clear hs hlo hmul u0 u1 p0 p1 m0 m1 HL HO HB T k1 hown hbw hD
          go_wp2_with (go_at_call 53; refine (L _).mono ?_; rintro e w' ⟨rfl, rfl⟩)
          go_round
          case rel => exact ⟨k + 1, by omega, by rw [HLO.out], by go_num, HD⟩
          case measure => simp [intOf]; omega
      · have hge : (xs.length : Int) ≤ (k : Int) := by omega
        obtain rfl : k = xs.length := by omega
        have hS := Sl.of_owns hD.out.1 (by have := billN_len xs a b xs.length; omega)
        have hb' := hD.out.2
        clear HB HO HL hD hown hbw
        go_wp2
        go_ret2
        exact ⟨_, rfl, hS, hb'⟩
  · have hL : linesA xs a u = [] := by rw [linesA, if_neg hU]
    rw [hL]
    generalize unitsE xs a u = r at *
    go_enter Try.func20, Try.ntmps20
    go_wp2_with fail
    refine (T.out _ h).mono ?_
    rintro e w1 ⟨rfl, k1⟩
    go_wp2
    go_ret2
    exact ⟨_, rfl, Sl.nil _ _, k1⟩
end Go.Proofs.Ytcpljkjibhindaa
