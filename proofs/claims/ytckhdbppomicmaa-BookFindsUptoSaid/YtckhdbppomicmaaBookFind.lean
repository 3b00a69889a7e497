/- book.Find and its reference -/
import Derived.Test.YtckhdbppomicmaaApi
import Derived.Test.YtckhdbppomicmaaOwn
namespace Go.Proofs.Ytckhdbppomicmaa
open Go.RowKit
set_option maxRecDepth 20000

/-- a customer, the two lists as they lie -/
structure ACust where
  meter : Int
  rev : Int
  next : Int
  month : Int
  bought : Int
  free : Int
  da : Option Addr
  dn : Nat
  dc : Nat
  sa : Option Addr
  sn : Nat
  sc : Nat
  deriving Inhabited
def ACust.cells (x : ACust) : List Value := [I x.meter, I x.rev, I x.next, I x.month, I x.bought, I x.free, .slice x.da x.dn x.dc, .slice x.sa x.sn x.sc]
theorem ACust.cells_len (x : ACust) : x.cells.length = 8 := rfl
theorem elCust {w W : World} {b off : Nat} {xs : List ACust} (hb : b < w.heap.size) (hc : ∀ j, j < (xs.flatMap ACust.cells).length → w.cell? ⟨b, off + j, none⟩ = some ((xs.flatMap ACust.cells).getD j undef)) (hbw : Below w.heap.size w W) (k : Nat) (hk : k < xs.length) :
    ∀ i, i < 8 → W.cell? ⟨b, off + k * 8 + i, none⟩ = some ((xs.getD k default).cells.getD i undef) := by
  intro i hi
  have := (hbw.cell (p := ⟨b, off + (k * 8 + i), none⟩) hb).trans (hc (k * 8 + i) (by rw [length_flat _ 8 ACust.cells_len]; exact pos_lt hk hi))
  rw [getD_flat _ 8 ACust.cells_len _ _ _ hk hi] at this
  rw [Nat.add_assoc]; exact this

/-- where a meter is found first -/
def findI (me : Int) : List Int → Nat → Int
  | [], _ => -1
  | x :: xs, k => if x = me then (k : Int) else findI me xs (k + 1)
theorem findI_hit {me : Int} : ∀ (l : List Int) (j k : Nat), k < l.length → (∀ q, q < k → l.getD q 0 ≠ me) → l.getD k 0 = me → findI me l j = ((j + k : Nat) : Int)
  | [], _, k, h, _, _ => by simp at h
  | x :: xs, j, 0, _, _, h => by simp at h; simp [findI, h]
  | x :: xs, j, k + 1, hk, hno, h => by
    have h0 : x ≠ me := by have := hno 0 (by omega); simpa using this
    rw [findI, if_neg h0, findI_hit xs (j + 1) k (by simpa using hk) (fun q hq => by have := hno (q + 1) (by omega); simpa using this) (by simpa using h)]
    congr 1; omega
theorem findI_none {me : Int} : ∀ (l : List Int) (j : Nat), (∀ q, q < l.length → l.getD q 0 ≠ me) → findI me l j = -1
  | [], _, _ => rfl
  | x :: xs, j, hno => by
    have h0 : x ≠ me := by have := hno 0 (by simp); simpa using this
    rw [findI, if_neg h0, findI_none xs (j + 1) (fun q hq => by have := hno (q + 1) (by simpa using hq); simpa using this)]
theorem findI_bd {me : Int} : ∀ (l : List Int) (j : Nat), findI me l j = -1 ∨ (0 ≤ findI me l j ∧ findI me l j < ((j + l.length : Nat) : Int))
  | [], _ => .inl rfl
  | x :: xs, j => by
    simp only [findI, List.length_cons]
    split
    · right; omega
    · rcases findI_bd (me := me) xs (j + 1) with h | h
      · exact .inl h
      · right; omega
def foundAt (xs : List ACust) (me : Int) : Int := findI me (xs.map ACust.meter) 0
theorem meter_at {xs : List ACust} {k : Nat} (hk : k < xs.length) : (xs.map ACust.meter).getD k 0 = (xs.getD k default).meter := by
  rw [List.getD_eq_getElem?_getD, List.getD_eq_getElem?_getD, List.getElem?_map, List.getElem?_eq_getElem hk]; rfl

/-- the closure: is it the meter? -/
theorem find1_any (x : ACust) (g : Nat) (me : Int) (w : World) (hg : g < w.heap.size) (hc : w.cell? ⟨g, 0, none⟩ = some (I me)) :
    Calls Try.prog 60 #[.agg x.cells.toArray, .pointer (some ⟨g, 0, none⟩)] w (Grew (.bool (x.meter == me)) w) := by
  obtain ⟨a, b, c, d, e, f, da, dn, dc, sa, sn, sc⟩ := x
  have hne : ¬ g = w.heap.size := by omega
  have hk := boxed_below w (.cells (ACust.mk a b c d e f da dn dc sa sn sc).cells.toArray 59)
  simp only [ACust.cells] at hk ⊢
  go_enter Try.func60, Try.ntmps60
  go_wp2
  go_ret
  exact Grew.intro rfl hk

set_option maxHeartbeats 1000000 in
theorem IndexCust_any (v : Value) (xs : List ACust) (g : Nat) (me : Int) (w : World) (h : Sl w v 8 xs.length (xs.flatMap ACust.cells)) (hg : g < w.heap.size) (hc : w.cell? ⟨g, 0, none⟩ = some (I me)) :
    Calls Try.prog 59 #[v, .func (.func 60) #[] #[.pointer (some ⟨g, 0, none⟩)]] w (Grew (I (foundAt xs me)) w) := by
  obtain ⟨a, cap, rfl, hn, hl, h0, hr⟩ := h
  clear hl h0
  go_enter Try.func59, Try.ntmps59
  go_wp2
  go_loopw [8] (fun i wr => ∃ k : Nat, k ≤ xs.length ∧ i = I k ∧ Hid (∀ q, q < k → (xs.map ACust.meter).getD q 0 ≠ me) ∧ Below w.heap.size w wr) (fun i _ => xs.length - (intOf i).toNat)
  case atStart => exact ⟨0, Nat.zero_le _, rfl, fun q hq => by omega, Below.refl _ _⟩
  case round =>
    obtain ⟨k, hk, rfl, hno, hb⟩ := hrel
    have hsz := hb.size
    by_cases hlt : k < xs.length
    · obtain ⟨b, off, rfl, hbl, hcell⟩ := hr.resolve_left (by omega)
      have hel := elCust hbl hcell hb k hlt
      have e0 := hel 0 (by decide)
      have e1 := hel 1 (by decide)
      have e2 := hel 2 (by decide)
      have e3 := hel 3 (by decide)
      have e4 := hel 4 (by decide)
      have e5 := hel 5 (by decide)
      have e6 := hel 6 (by decide)
      have e7 := hel 7 (by decide)
      have hit := Lib.hid (fun he => findI_hit (me := me) (xs.map ACust.meter) 0 k (by simpa using hlt) hno.out he)
      have hnx := Lib.hid (show (xs.map ACust.meter).getD k 0 ≠ me → ∀ q, q < k + 1 → (xs.map ACust.meter).getD q 0 ≠ me from fun hne q hq => by
        by_cases hqk : q = k
        · rw [hqk]; exact hne
        · exact hno.out q (by omega))
      rw [meter_at hlt] at hit hnx
      have hi0 : (0 : Int) ≤ (k : Int) := by omega
      have hi1 : (k : Int) < (xs.length : Int) := by omega
      have hcg := (hb.cell (p := ⟨g, 0, none⟩) hg).trans hc
      clear hel hr hcell
      generalize xs.getD k default = x at *
      simp only [ACust.cells, List.getD_cons_zero, List.getD_cons_succ, Nat.add_zero] at e0 e1 e2 e3 e4 e5 e6 e7
      have C := Lib.hid (find1_any x g me wr (by omega) hcg)
      by_cases hm : x.meter = me
      · have hm2 : (x.meter == me) = true := by simp [hm]
        rw [hm2] at C
        have HF := Lib.hid (hit.out hm)
        clear hm hm2 hit hnx
        go_wp2_with (go_at_call 60; refine C.out.mono ?_; rintro e w' ⟨rfl, hb2⟩; have hb := hb.trans (hb2.mono hsz))
        go_ret
        exact Grew.intro (eI (by unfold foundAt; rw [HF.out]; omega)) hb
      · have hm2 : (x.meter == me) = false := by simp [hm]
        rw [hm2] at C
        have HN := Lib.hid (hnx.out hm)
        clear hm hm2 hit hnx
        go_wp2_with (go_at_call 60; refine C.out.mono ?_; rintro e w' ⟨rfl, hb2⟩; have hb := hb.trans (hb2.mono hsz))
        exact ⟨⟨k + 1, by omega, by go_num, HN, hb⟩, by simp [intOf]; omega⟩
    · have hge : (xs.length : Int) ≤ (k : Int) := by omega
      have HF := Lib.hid (show foundAt xs me = -1 from findI_none _ 0 (fun q hq => hno.out q (by simp at hq; omega)))
      clear hno hr
      go_wp2
      go_ret
      exact Grew.intro (eI HF.out.symm) hb

def findA (xs : List ACust) (me : Int) : Int := if foundAt xs me < 0 then 0 else foundAt xs me
def findE (xs : List ACust) (me : Int) : Int := if foundAt xs me < 0 then 18 else 0
set_option maxHeartbeats 1000000 in
theorem Find_any (v : Value) (xs : List ACust) (me : Int) (w : World) (h : Sl w v 8 xs.length (xs.flatMap ACust.cells)) :
    Calls Try.prog 35 #[.agg #[v], I me] w (Grew (T2 (I (findA xs me)) (I (findE xs me))) w) := by
  have h' := h
  obtain ⟨a, cap, rfl, hn, hl, h0, hr⟩ := h
  clear hl h0 hr hn
  have hmf : ∀ (fn : Fn) (first cap : Array Value) (w : World), (Instr.makeFunc fn first cap).run Try.prog w = .ok (.func fn first cap) w := fun _ _ _ _ => rfl
  have k0 := boxed_below w (.cells #[.slice a xs.length cap] 53)
  have k1 := k0.alloc k0.size (.cells #[I me] 3)
  have C := Lib.hid (fun W hW hg hc => IndexCust_any (.slice a xs.length cap) xs (w.heap.size + 1) me W hW hg hc)
  have hS := Lib.hid (h'.below k1)
  clear h'
  rcases Classical.em (foundAt xs me < 0) with hf | hf
  · have e1 : findA xs me = 0 := by simp [findA, hf]
    have e2 : findE xs me = 18 := by simp [findE, hf]
    rw [e1, e2]
    clear e1 e2
    generalize foundAt xs me = f at *
    go_enter Try.func35, Try.ntmps35
    go_wp2_with fail
    refine (C.out _ hS.out (by simp) (by simp)).mono ?_
    rintro e w2 ⟨rfl, k2⟩
    have k := k1.trans (k2.mono k1.size)
    clear hS C k2
    go_wp2
    go_ret2
    exact Grew.intro rfl k
  · have e1 : findA xs me = foundAt xs me := by simp [findA, hf]
    have e2 : findE xs me = 0 := by simp [findE, hf]
    rw [e1, e2]
    clear e1 e2
    generalize foundAt xs me = f at *
    go_enter Try.func35, Try.ntmps35
    go_wp2_with fail
    refine (C.out _ hS.out (by simp) (by simp)).mono ?_
    rintro e w2 ⟨rfl, k2⟩
    have k := k1.trans (k2.mono k1.size)
    clear hS C k2
    go_wp2
    go_ret2
    exact Grew.intro rfl k

set_option maxHeartbeats 1000000 in
theorem Found_any (v : Value) (xs : List ACust) (me : Int) (w : World) (h : Sl w v 8 xs.length (xs.flatMap ACust.cells)) :
    Calls Try.prog 36 #[.agg #[v], I me] w (Grew (I (foundAt xs me)) w) := by
  obtain ⟨a, cap, rfl, hn, hl, h0, hr⟩ := h
  clear hl h0
  have k0 := boxed_below w (.cells #[.slice a xs.length cap] 53)
  go_enter Try.func36, Try.ntmps36
  go_wp2
  go_loop [5] (fun i => ∃ k : Nat, k ≤ xs.length ∧ i = I k ∧ Hid (∀ q, q < k → (xs.map ACust.meter).getD q 0 ≠ me)) (fun i => xs.length - (intOf i).toNat)
  case atStart => exact ⟨0, Nat.zero_le _, rfl, fun q hq => by omega⟩
  case round =>
    obtain ⟨k, hk, rfl, hno⟩ := hrel
    by_cases hlt : k < xs.length
    · obtain ⟨b, off, rfl, hbl, hcell⟩ := hr.resolve_left (by omega)
      have e0 := elCust hbl hcell k0 k hlt 0 (by decide)
      have hit := Lib.hid (fun he => findI_hit (me := me) (xs.map ACust.meter) 0 k (by simpa using hlt) hno.out he)
      have hnx := Lib.hid (show (xs.map ACust.meter).getD k 0 ≠ me → ∀ q, q < k + 1 → (xs.map ACust.meter).getD q 0 ≠ me from fun hne q hq => by
        by_cases hqk : q = k
        · rw [hqk]; exact hne
        · exact hno.out q (by omega))
      rw [meter_at hlt] at hit hnx
      have hi0 : (0 : Int) ≤ (k : Int) := by omega
      have hi1 : (k : Int) < (xs.length : Int) := by omega
      clear hr hcell
      generalize xs.getD k default = x at *
      simp only [ACust.cells, List.getD_cons_zero, Nat.add_zero] at e0
      generalize x.meter = xm at *
      by_cases hm : xm = me
      · have hm2 : (xm == me) = true := by simp [hm]
        have HF := Lib.hid (hit.out hm)
        clear hm hit hnx
        go_wp2
        go_ret
        exact Grew.intro (eI (by unfold foundAt; rw [HF.out]; omega)) k0
      · have hm2 : (xm == me) = false := by simp [hm]
        have HN := Lib.hid (hnx.out hm)
        clear hm hit hnx
        go_wp2
        go_round
        case rel => first | exact ⟨k + 1, by omega, by go_num, HN⟩ | (refine ⟨rfl, ?_⟩; (repeat apply Exists.intro); refine ⟨?_, rfl⟩; exact ⟨k + 1, by omega, by go_num, HN⟩) | (refine ⟨trivial, ?_⟩; (repeat apply Exists.intro); refine ⟨?_, rfl⟩; exact ⟨k + 1, by omega, by go_num, HN⟩) | ((repeat apply Exists.intro); refine ⟨?_, rfl⟩; exact ⟨k + 1, by omega, by go_num, HN⟩)
        case measure => (simp [intOf]; omega)
    · have hge : (xs.length : Int) ≤ (k : Int) := by omega
      have HF := Lib.hid (show foundAt xs me = -1 from findI_none _ 0 (fun q hq => hno.out q (by simp at hq; omega)))
      clear hno hr
      go_wp2
      go_ret
      exact Grew.intro (eI HF.out.symm) k0
end Go.Proofs.Ytckhdbppomicmaa
