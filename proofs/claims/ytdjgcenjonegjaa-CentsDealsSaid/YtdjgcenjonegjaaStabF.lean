/- symMerge at every stretch; the stable sort of at most fifty elements -/
import Derived.Test.YtdjgcenjonegjaaStabE
import Derived.Test.YtdjgcenjonegjaaShelf
namespace Go.Proofs.Ytdjgcenjonegjaa
open Go.RowKit Go.Shelf Go.Lib Go.Sort
set_option maxRecDepth 20000
variable {α : Type} [Inhabited α]

theorem symMerge_any {v : α → Int} {g : Nat} {cb : Array Value} {cf : α → α → Int} {RR E : α → α → Prop} {blk off n : Nat} {d0 : Array α} {w0 : World} (H : Stb v g cb cf RR E blk off n d0 w0) (cap : Nat) : ∀ K, SymP v g cb RR E blk off n w0 cap K
  | 0 => fun a m b d w hs S h1 h2 h3 hk => by omega
  | K + 1 => fun a m b d w hs S h1 h2 h3 hk hL hR hE ai mi bi ea em eb => by
    have IH := symMerge_any H cap K
    by_cases c : b - a < K
    · exact IH a m b d w hs S h1 h2 h3 c hL hR hE ai mi bi ea em eb
    · have e : K = b - a := by omega
      subst e
      by_cases c1 : m = a + 1
      · subst c1
        exact symOne_any H cap a b d w hs S (by omega) (by omega) hR hE ai mi bi ea (by omega) eb
      · by_cases c2 : b = m + 1
        · subst c2
          exact symLast_any H cap a m d w hs S (by omega) (by omega) hL hE ai mi bi ea em (by omega)
        · subst ea em eb
          by_cases c3 : (a + b) / 2 < m
          · exact symHi_any H cap a m b _ d w IH hs S (by omega) (by omega) h3 hL hR hE rfl c3
          · exact symLo_any H cap a m b _ d w IH hs S (by omega) (by omega) h3 hL hR hE rfl (by omega)
theorem symM_int {v : α → Int} {g : Nat} {cb : Array Value} {cf : α → α → Int} {RR E : α → α → Prop} {blk off n : Nat} {d0 : Array α} {w0 : World} (H : Stb v g cb cf RR E blk off n d0 w0) (cap a m b : Nat) (d : Array α) (w : World)
    (hs : d.size = n) (S : SW (fun x => Value.int .i64 (v x)) w0 blk off d w) (h1 : a < m) (h2 : m < b) (h3 : b ≤ n) (hL : Srt RR d a m) (hR : Srt RR d m b) (hE : Crs E d a m b) (ai mi bi : Int) (ea : ai = a) (em : mi = m) (eb : bi = b) :
    Calls Try.prog 15 #[.slice (some ⟨blk, off, none⟩) n cap, .int .i64 ai, .int .i64 mi, .int .i64 bi, .func (.func g) #[] cb] w fun e w' => e = .returned (.tuple #[]) ∧ ∃ d', Mrg RR d d' a b ∧ SW (fun x => Value.int .i64 (v x)) w0 blk off d' w' :=
  symMerge_any H cap (b - a + 1) a m b d w hs S h1 h2 h3 (by omega) hL hR hE ai mi bi ea em eb
theorem ins_int {v : α → Int} {g : Nat} {cb : Array Value} {cf : α → α → Int} {RR E : α → α → Prop} {blk off n : Nat} {d0 : Array α} {w0 : World} (H : Stb v g cb cf RR E blk off n d0 w0) (cap a b : Nat) (d : Array α) (w : World)
    (hs : d.size = n) (S : SW (fun x => Value.int .i64 (v x)) w0 blk off d w) (h1 : a ≤ b) (h3 : b ≤ n) (hA : Asc E d a b) (ai bi : Int) (ea : ai = a) (eb : bi = b) :
    Calls Try.prog 14 #[.slice (some ⟨blk, off, none⟩) n cap, .int .i64 ai, .int .i64 bi, .func (.func g) #[] cb] w fun e w' => e = .returned (.tuple #[]) ∧ ∃ d', Mrg RR d d' a b ∧ SW (fun x => Value.int .i64 (v x)) w0 blk off d' w' := by
  subst ea eb hs
  have h0 := H.sz
  have hc := H.cmp
  rw [← h0] at hc
  refine (Try.insertionSortCmpFunc_s (fun x => Value.int .i64 (v x)) cf g cb blk off cap a b d0 d w0 w H.eg hc H.R h0 S h1 h3 H.big).mono ?_
  rintro e w' ⟨he, hS⟩
  refine ⟨he, _, insertion_mrg H.tr (fun x y hE => ⟨fun h => H.lt x y hE (by unfold ltOf at h; exact of_decide_eq_true h), fun h => H.ge x y hE (by unfold ltOf at h; exact of_decide_eq_false h)⟩) h1 h3 hA, hS⟩

theorem Asc.crs {E : α → α → Prop} {d : Array α} {a b m : Nat} (h : Asc E d a b) : Crs E d a m b := fun i j h1 h2 h3 h4 => h i j h1 (by omega) h4
theorem Asc.part {E : α → α → Prop} {d : Array α} {a b a' b' : Nat} (h : Asc E d a b) (ha : a ≤ a') (hb : b' ≤ b) : Asc E d a' b' := fun i j h1 h2 h3 => h i j (by omega) h2 (by omega)
theorem Asc.out {E : α → α → Prop} {d d1 : Array α} {a b u v : Nat} (h : Asc E d a b) (k : Kpt d d1 u v) (ho : b ≤ u ∨ v ≤ a) : Asc E d1 a b := by
  intro i j h1 h2 h3
  rw [k.out i (by omega), k.out j (by omega)]; exact h i j h1 h2 h3
theorem Crs.part {E : α → α → Prop} {d : Array α} {a m b b' : Nat} (h : Crs E d a m b) (hb : b' ≤ b) : Crs E d a m b' := fun i j h1 h2 h3 h4 => h i j h1 h2 h3 (by omega)

/-- all that the blocks' sorting keeps, q of the elements being in sorted blocks -/
structure Bk1 (RR E : α → α → Prop) (n : Nat) (d dk : Array α) (q : Nat) : Prop where
  k : Kpt d dk 0 n
  a : Asc E dk q n
  c20 : Crs E dk 0 20 n
  c40 : Crs E dk 0 40 n
  s20 : 20 ≤ q → Srt RR dk 0 20
  s40 : 40 ≤ q → Srt RR dk 20 40
theorem Bk1.next {RR E : α → α → Prop} {n : Nat} {d dk d2 : Array α} {q q' : Nat} (h : Bk1 RR E n d dk q) (hq : q = 0 ∨ q = 20 ∨ q = 40) (hq' : q ≤ q') (hn : q' ≤ n) (h20 : q' = q + 20 ∨ q' = n ∧ n ≤ q + 20) (M : Mrg RR dk d2 q q') :
    Bk1 RR E n d d2 q' := by
  refine ⟨h.k.trans (M.k.wide (Nat.zero_le _) hn), (h.a.part hq' (Nat.le_refl _)).out M.k (Or.inr (Nat.le_refl _)), ?_, ?_, ?_, ?_⟩
  · by_cases c : q = 0
    · subst c
      by_cases c2 : q' ≤ 20
      · exact h.c20.kept (M.k.wide (Nat.zero_le _) c2)
      · omega
    · exact h.c20.kept' (M.k.wide (by omega) hn)
  · by_cases c : q = 40
    · subst c; exact h.c40.kept' (M.k.wide (by omega) hn)
    · exact h.c40.kept (M.k.wide (Nat.zero_le _) (by omega))
  · intro h2
    by_cases c : q = 0
    · subst c; exact M.s.part (Nat.le_refl _) h2
    · exact (h.s20 (by omega)).out M.k (Or.inl (by omega))
  · intro h2
    by_cases c : q = 20
    · subst c; exact M.s.part (Nat.le_refl _) h2
    · have : q = 40 := by omega
      exact (h.s40 (by omega)).out M.k (Or.inl (by omega))
/-- .. and the merging's -/
structure Bk2 (RR E : α → α → Prop) (n : Nat) (d dk : Array α) (bs : Nat) : Prop where
  k : Kpt d dk 0 n
  c20 : bs = 20 → Crs E dk 0 20 n
  c40 : bs ≠ 80 → Crs E dk 0 40 n
  l : bs = 20 → Srt RR dk 0 (min 20 n) ∧ Srt RR dk 20 (min 40 n) ∧ Srt RR dk 40 n
  m : bs = 40 → Srt RR dk 0 (min 40 n) ∧ Srt RR dk 40 n
  h : bs = 80 → Srt RR dk 0 n
structure Bk3 (RR E : α → α → Prop) (n : Nat) (d dk : Array α) (q : Nat) : Prop where
  k : Kpt d dk 0 n
  c20 : q = 0 → Crs E dk 0 20 n
  c40 : Crs E dk 0 40 n
  l : q = 0 → Srt RR dk 0 20 ∧ Srt RR dk 20 (min 40 n) ∧ Srt RR dk 40 n
  m : q = 40 → Srt RR dk 0 40 ∧ Srt RR dk 40 n
theorem Bk1.done {RR E : α → α → Prop} {n : Nat} {d dk d2 : Array α} {q : Nat} (h : Bk1 RR E n d dk q) (hq : q = 0 ∨ q = 20 ∨ q = 40) (hqn : q ≤ n) (hn : n < q + 20) (M : Mrg RR dk d2 q n) : Bk2 RR E n d d2 20 := by
  have h2 := h.next hq hqn (Nat.le_refl _) (Or.inr ⟨rfl, by omega⟩) M
  refine ⟨h2.k, fun _ => h2.c20, fun _ => h2.c40, fun _ => ⟨?_, ?_, ?_⟩, fun e => by omega, fun e => by omega⟩
  · by_cases c : 20 ≤ n
    · exact (h2.s20 c).part (Nat.le_refl _) (by omega)
    · have : q = 0 := by omega
      subst this; exact M.s.part (Nat.le_refl _) (by omega)
  · by_cases c : 40 ≤ n
    · exact (h2.s40 c).part (Nat.le_refl _) (by omega)
    · by_cases c2 : q = 20
      · subst c2; exact M.s.part (Nat.le_refl _) (by omega)
      · exact fun i j h1 h2 h3 => by omega
  · by_cases c : q = 40
    · subst c; exact M.s
    · exact fun i j h1 h2 h3 => by omega

set_option maxHeartbeats 8000000 in
theorem stable_any {v : α → Int} {g : Nat} {cb : Array Value} {cf : α → α → Int} {RR E : α → α → Prop} {blk off n : Nat} {d0 : Array α} {w0 : World} (H : Stb v g cb cf RR E blk off n d0 w0) (cap : Nat) (d : Array α) (w : World)
    (hs : d.size = n) (S : SW (fun x => Value.int .i64 (v x)) w0 blk off d w) (hn : n ≤ 50) (hA : Asc E d 0 n) :
    Calls Try.prog 13 #[.slice (some ⟨blk, off, none⟩) n cap, .int .i64 n, .func (.func g) #[] cb] w fun e w' => e = .returned (.tuple #[]) ∧ ∃ d', Kpt d d' 0 n ∧ Srt RR d' 0 n ∧ SW (fun x => Value.int .i64 (v x)) w0 blk off d' w' := by
  have S0 : Aside _ := S
  have B0 := Lib.hid (show Bk1 RR E n d d 0 from ⟨Kpt.refl _ _ _, hA, hA.crs, hA.crs, fun h => by omega, fun h => by omega⟩)
  have HH := Lib.hid H
  clear S hA H
  go_enter Try.func13, Try.ntmps13
  go_wp2
  go_loopg [7, 8] 3 (fun kx s7 s8 wr => ∃ (q : Nat) (dk : Array α), s7 = .int .i64 q ∧ s8 = .int .i64 ((q : Int) + 20) ∧ (q = 0 ∨ q = 20 ∨ q = 40) ∧ q ≤ n ∧ 60 - q ≤ 20 * kx ∧ Hid (Bk1 RR E n d dk q) ∧ Aside (SW (fun x => Value.int .i64 (v x)) w0 blk off dk wr))
  case atStart => exact ⟨0, d, rfl, rfl, Or.inl rfl, Nat.zero_le _, by omega, B0, S0⟩
  case round =>
    clear S0 B0
    obtain ⟨q, dk, rfl, rfl, hq, hqn, hk, B, S1⟩ := hrel
    by_cases hl : q + 20 ≤ n
    · have hlz : (q : Int) + 20 ≤ (n : Int) := by omega
      have C := Lib.hid (ins_int HH.out cap q (q + 20) dk wr (B.out.k.sz.trans hs) S1.out (by omega) hl (B.out.a.part (Nat.le_refl _) hl) q ((q : Int) + 20) rfl (by omega))
      have hgk : (40 - q) / 20 < gk := by omega
      clear S1
      go_wp2_with (go_at_call 14; refine C.out.mono ?_; rintro e w2 ⟨rfl, d2, M, S1⟩; have S1 := Lib.hid S1; have B2 := Lib.hid (B.out.next hq (by omega) hl (Or.inl rfl) M); clear C B)
      go_roundg ((40 - q) / 20)
      case measure => exact hgk
      case rel => exact ⟨q + 20, d2, by go_num, by go_num, by omega, hl, by omega, B2, S1⟩
    · have hlz : ¬ (q : Int) + 20 ≤ (n : Int) := by omega
      have C := Lib.hid (ins_int HH.out cap q n dk wr (B.out.k.sz.trans hs) S1.out hqn (Nat.le_refl _) B.out.a q n rfl rfl)
      have HB := Lib.hid (fun d2 => B.out.done (d2 := d2) hq hqn (by omega))
      clear S1
      go_wp2_with (go_at_call 14; refine C.out.mono ?_; rintro e w2 ⟨rfl, d2, M, S1⟩; have S1 := Lib.hid S1; have B2 := Lib.hid (HB.out d2 M); clear C B HB)
      clear hlz hl hk hq hqn
      go_loopg [6] 60 (fun kx s6 wr => ∃ (bs : Nat) (dk : Array α), s6 = .int .i64 bs ∧ (bs = 20 ∨ bs = 40 ∨ bs = 80) ∧ 80 - bs ≤ kx ∧ Hid (Bk2 RR E n d dk bs) ∧ Aside (SW (fun x => Value.int .i64 (v x)) w0 blk off dk wr))
      case atStart => exact ⟨20, d2, rfl, Or.inl rfl, by omega, B2, S1⟩
      case round =>
        clear S1 B2
        obtain ⟨bs, dk, rfl, hbs, hk, B, S1⟩ := hrel
        have hdk := B.out.k.sz.trans hs
        by_cases hl : bs < n
        · rcases hbs with rfl | rfl | rfl
          · have hlz : (20 : Int) < (n : Int) := by omega
            obtain ⟨l1, l2, l3⟩ := B.out.l rfl
            rw [show min 20 n = 20 by omega] at l1
            have L1 := Lib.hid l1
            have L2 := Lib.hid l2
            have L3 := Lib.hid l3
            clear l1 l2 l3
            go_wp2
            go_loopg [7, 8] 40 (fun kx s7 s8 wr => ∃ (q : Nat) (dk2 : Array α), s7 = .int .i64 q ∧ s8 = .int .i64 ((q : Int) + 40) ∧ (q = 0 ∨ q = 40 ∧ 40 ≤ n) ∧ 40 - q ≤ kx ∧ Hid (Bk3 RR E n d dk2 q) ∧ Aside (SW (fun x => Value.int .i64 (v x)) w0 blk off dk2 wr))
            case atStart => exact ⟨0, dk, rfl, rfl, Or.inl rfl, by omega, ⟨B.out.k, fun _ => B.out.c20 rfl, B.out.c40 (by decide), fun _ => ⟨L1.out, L2.out, L3.out⟩, fun e => by omega⟩, S1⟩
            case round =>
              clear S1 B L1 L2 L3 hdk
              obtain ⟨q, dk2, rfl, rfl, hq, hk2, B, S1⟩ := hrel
              have hdk := B.out.k.sz.trans hs
              by_cases hl2 : q + 40 ≤ n
              · have e : q = 0 := by omega
                subst e
                have hlz2 : (40 : Int) ≤ (n : Int) := by omega
                obtain ⟨l1, l2, l3⟩ := B.out.l rfl
                rw [show min 40 n = 40 by omega] at l2
                have C := Lib.hid (symM_int HH.out cap 0 20 40 dk2 wr hdk S1.out (by omega) (by omega) (by omega) l1 l2 ((B.out.c20 rfl).part (by omega)) 0 20 40 rfl rfl rfl)
                have BN := Lib.hid (fun d3 (M : Mrg RR dk2 d3 0 40) => (⟨B.out.k.trans (M.k.wide (Nat.le_refl _) (by omega)), fun e => absurd e (by omega), B.out.c40.kept M.k, fun e => absurd e (by omega), fun _ => ⟨M.s, l3.out M.k (Or.inr (Nat.le_refl _))⟩⟩ : Bk3 RR E n d d3 40))
                clear S1 l1 l2 l3
                go_wp2_with (go_at_call 15; refine C.out.mono ?_; rintro e w3 ⟨rfl, d3, M, S1⟩; have S1 := Lib.hid S1; have B2 := Lib.hid (BN.out d3 M); clear C B BN M)
                go_roundg 0
                case measure => omega
                case rel => exact ⟨40, d3, rfl, rfl, Or.inr ⟨rfl, by omega⟩, by omega, B2, S1⟩
              · have hlz2 : ¬ (q : Int) + 40 ≤ (n : Int) := by omega
                rcases hq with rfl | ⟨rfl, hq⟩
                · obtain ⟨l1, l2, l3⟩ := B.out.l rfl
                  rw [show min 40 n = n by omega] at l2
                  have C := Lib.hid (symM_int HH.out cap 0 20 n dk2 wr hdk S1.out (by omega) (by omega) (Nat.le_refl _) l1 l2 (B.out.c20 rfl) 0 20 n rfl rfl rfl)
                  have BN := Lib.hid (fun d3 (M : Mrg RR dk2 d3 0 n) => (⟨B.out.k.trans M.k, fun e => absurd e (by omega), fun _ i j h1 h2 h3 h4 => by omega, fun e => absurd e (by omega), fun _ => ⟨M.s.part (Nat.le_refl _) (by omega), fun i j h1 h2 h3 => by omega⟩, fun e => absurd e (by omega)⟩ : Bk2 RR E n d d3 40))
                  clear S1 l1 l2 l3
                  go_wp2_with (go_at_call 15; refine C.out.mono ?_; rintro e w3 ⟨rfl, d3, M, S1⟩; have S1 := Lib.hid S1; have B2 := Lib.hid (BN.out d3 M); clear C B BN M)
                  go_roundg 40
                  case measure => omega
                  case rel => exact ⟨40, d3, rfl, Or.inr (Or.inl rfl), by omega, B2, S1⟩
                · obtain ⟨l1, l2⟩ := B.out.m rfl
                  have B2 := Lib.hid (⟨B.out.k, fun e => absurd e (by omega), fun _ => B.out.c40, fun e => absurd e (by omega), fun _ => ⟨l1.part (Nat.le_refl _) (by omega), l2⟩, fun e => absurd e (by omega)⟩ : Bk2 RR E n d dk2 40)
                  have hlz3 : ¬ (60 : Int) < (n : Int) := by omega
                  clear l1 l2 B
                  go_wp2
                  go_roundg 40
                  case measure => omega
                  case rel => exact ⟨40, dk2, rfl, Or.inr (Or.inl rfl), by omega, B2, S1⟩
          · have hlz : (40 : Int) < (n : Int) := by omega
            obtain ⟨l1, l2⟩ := B.out.m rfl
            rw [show min 40 n = 40 by omega] at l1
            have C := Lib.hid (fun wx (S : SW (fun x => Value.int .i64 (v x)) w0 blk off dk wx) => symM_int HH.out cap 0 40 n dk wx hdk S (by omega) (by omega) (Nat.le_refl _) l1 l2 (B.out.c40 (by decide)) 0 40 n rfl rfl rfl)
            have BN := Lib.hid (fun d3 (M : Mrg RR dk d3 0 n) => (⟨B.out.k.trans M.k, fun e => absurd e (by omega), fun e => absurd rfl e, fun e => absurd e (by omega), fun e => absurd e (by omega), fun _ => M.s⟩ : Bk2 RR E n d d3 80))
            clear l1 l2 B
            go_wp2
            go_loopg [7, 8] 1 (fun kx s7 s8 wr => s7 = .int .i64 0 ∧ s8 = .int .i64 80 ∧ Aside (SW (fun x => Value.int .i64 (v x)) w0 blk off dk wr))
            case atStart => exact ⟨rfl, rfl, S1⟩
            case round =>
              clear S1
              obtain ⟨rfl, rfl, S1⟩ := hrel
              have hlz2 : ¬ (80 : Int) ≤ (n : Int) := by omega
              go_wp2_with (go_at_call 15; refine (C.out _ S1.out).mono ?_; rintro e w3 ⟨rfl, d3, M, S1⟩; have S1 := Lib.hid S1; have B2 := Lib.hid (BN.out d3 M); clear C BN M)
              go_roundg 0
              case measure => omega
              case rel => exact ⟨80, d3, rfl, Or.inr (Or.inr rfl), by omega, B2, S1⟩
          · omega
        · have hlz : ¬ (bs : Int) < (n : Int) := by omega
          go_wp2
          go_end0
          refine ⟨rfl, dk, B.out.k, ?_, S1.out⟩
          rcases hbs with rfl | rfl | rfl
          · have := (B.out.l rfl).1
            rwa [show min 20 n = n by omega] at this
          · have := (B.out.m rfl).1
            rwa [show min 40 n = n by omega] at this
          · exact B.out.h rfl
end Go.Proofs.Ytdjgcenjonegjaa
