/- pocket.Keyed and its reference -/
import Derived.Test.YtmciccnmpoijdaaGreatDoorPk49
namespace Go.Proofs.YtmciccnmpoijdaaGreatDoor
open Go.RowKit
set_option maxRecDepth 20000

theorem kd_body (x : AToken) : I64 (bodyV x) := by
  unfold bodyV
  split
  · rename_i h
    obtain ⟨⟨h1, h2⟩, ⟨h3, h4⟩, -, ⟨h5, h6⟩⟩ := tokFault_zero h
    unfold bodyN I64
    omega
  · unfold I64; omega
set_option maxHeartbeats 4000000 in
theorem Keyed_any (v : Value) (xs : List Int) (u : Value) (ps : List APair) (s : ByteArray) (w : World) (h : Sl w v 1 xs.length (xs.map U32)) (hw : ∀ x ∈ xs, W32 x) (h2 : Sl w u 4 ps.length (ps.flatMap APair.cells)) (hp : ∀ p ∈ ps, p.wf) :
    Calls Tryz.prog 6 #[v, .agg #[u], .string s] w (KdP (kdL xs ps s) (kdN xs ps s) (kdE xs ps s) w) := by
  have B := Lib.hid (fun W hW => Boot_any v xs W hW hw)
  have P := Lib.hid (fun W => Parse_any s W)
  unfold ParP at P
  by_cases hb : bootE xs = 0
  · by_cases hq : parE s = 0
    · have hbits := bootM_bits xs hw
      have hok := kd_boot hb
      have hE : kdE xs ps s = keyE (bootM xs) ps (parT s) := by unfold kdE; rw [if_pos hb, if_pos hq]
      have hO : kdOk xs ps s = mayO ps := by unfold kdOk; rw [decide_eq_true ⟨hb, hq⟩]; rfl
      have hKO : keyOk (bootM xs) ps = mayO ps := by unfold keyOk; rw [hok]; rfl
      skip
      rw [hb] at B
      rw [hq] at P
      cases hm : mayO ps
      · have hl : kdL xs ps s = [] := by unfold kdL; rw [hO, hm]; rfl
        have hn : kdN xs ps s = 0 := by unfold kdN; rw [hO, hm]; rfl
        obtain ⟨e1, e2, e3⟩ := keyOff (t := parT s) (hKO.trans hm)
        rw [hl, hn, hE, e1]
        have K := Lib.hid (fun (u : Value) (W : World) hW => (Key_any (bootM xs).me (bootM xs).rev (bootM xs).cr (bootM xs).h (bootM xs).b (bootM xs).bad (bootM xs).lk u ps (parT s).class_ (parT s).id (parT s).amount (parT s).tag W hW hp hbits (kd_body (parT s))))
        change Hid (∀ (u : Value) (W : World), Sl W u 4 ps.length (ps.flatMap APair.cells) → Calls Tryz.prog 13 #[(bootM xs).v, .agg #[u], tokV (parT s)] W (Grew (T3 (keyM (bootM xs) ps (parT s)).v (I (keyA (bootM xs) ps (parT s))) (I (keyE (bootM xs) ps (parT s)))) W)) at K
        rw [e1, e2, e3] at K
        simp only [MM.v, zM] at K
        clear hE hO hKO hl hn hok hb hq hw
        generalize bootM xs = m at *
        generalize parT s = tk at *
        obtain ⟨m1, m2, m3, m4, m5, m6, m7⟩ := m
        obtain ⟨c, ti, n, tag⟩ := tk
        simp only [MM.v] at B
        obtain ⟨a, cap, rfl, -⟩ := id h
        obtain ⟨a2, cap2, rfl, -⟩ := id h2
        have kb := boxed_below w (.cells #[.slice a2 ps.length cap2] 25)
        have oo := Own.new (w := w) rfl [.slice a2 ps.length cap2] 25
        have hc := h.below kb
        have ho := h2.below kb
        clear h h2
        go_enter Tryz.func6, Tryz.ntmps6
        go_wp2_with fail
        refine (B.out _ hc).mono ?_
        rintro e w1 ⟨rfl, k1⟩
        have hz01 : w.heap.size < w1.heap.size := by have := k1.size; simp at this; omega
        have km := boxed_below w1 (.cells #[I m1, I m2, I m3, I m4, .int .u64 m5, I m6, I m7] 40)
        have om := Own.new (w := w1) rfl [I m1, I m2, I m3, I m4, .int .u64 m5, I m6, I m7] 40
        have oo := (oo.below k1).below km
        have hc := (hc.below k1).below km
        have ho := (ho.below k1).below km
        have kb := kb.trans (k1.mono kb.size)
        have kb := kb.trans (km.mono kb.size)
        clear k1 km B
        go_wp2_with fail
        refine (P.out _).mono ?_
        rintro e w2 ⟨rfl, k2⟩
        have hz12 : w1.heap.size < w2.heap.size := by have := k2.size; simp at this; omega
        have kt := boxed_below w2 (.cells #[I c, I ti, I n, I tag] 44)
        have ot := Own.new (w := w2) rfl [I c, I ti, I n, I tag] 44
        have om := (om.below k2).below kt
        have oo := (oo.below k2).below kt
        have hc := (hc.below k2).below kt
        have ho := (ho.below k2).below kt
        have kb := kb.trans (k2.mono kb.size)
        have kb := kb.trans (kt.mono kb.size)
        clear k2 kt P
        have qO := om
        have q0 := qO.cell 0 (by simp)
        have qf0 := qO.frozen 0
        have q1 := qO.cell 1 (by simp)
        have qf1 := qO.frozen 1
        have q2 := qO.cell 2 (by simp)
        have qf2 := qO.frozen 2
        have q3 := qO.cell 3 (by simp)
        have qf3 := qO.frozen 3
        have q4 := qO.cell 4 (by simp)
        have qf4 := qO.frozen 4
        have q5 := qO.cell 5 (by simp)
        have qf5 := qO.frozen 5
        have q6 := qO.cell 6 (by simp)
        have qf6 := qO.frozen 6
        simp only [Nat.zero_add, List.getD_cons_zero, List.getD_cons_succ] at q0 q1 q2 q3 q4 q5 q6
        clear qO
        have rO := oo
        have r0 := rO.cell 0 (by simp)
        have rf0 := rO.frozen 0
        simp only [Nat.zero_add, List.getD_cons_zero] at r0
        clear rO
        have tO := ot
        have t0 := tO.cell 0 (by simp)
        have tf0 := tO.frozen 0
        have t1 := tO.cell 1 (by simp)
        have tf1 := tO.frozen 1
        have t2 := tO.cell 2 (by simp)
        have tf2 := tO.frozen 2
        have t3 := tO.cell 3 (by simp)
        have tf3 := tO.frozen 3
        simp only [Nat.zero_add, List.getD_cons_zero, List.getD_cons_succ] at t0 t1 t2 t3
        clear tO
        go_wp2_with fail
        refine (K.out _ _ ho).mono ?_
        rintro e w3 ⟨rfl, k3⟩
        have kn := boxed_below w3 (.cells #[I 0, I 0, I 0, I 0, .int .u64 0, I 0, I 0] 40)
        have kb := kb.trans (k3.mono kb.size)
        have kb := kb.trans (kn.mono kb.size)
        clear k3 kn K q0 q1 q2 q3 q4 q5 q6 qf0 qf1 qf2 qf3 qf4 qf5 qf6 r0 rf0 t0 t1 t2 t3 tf0 tf1 tf2 tf3
        go_wp2
        go_ret3
        exact ⟨_, rfl, Sl.nil _ _, kb⟩
      · have hl : kdL xs ps s = movedL xs (bootM xs) (keyM (bootM xs) ps (parT s)) := by unfold kdL; rw [hO, hm]; rfl
        have hn : kdN xs ps s = keyA (bootM xs) ps (parT s) := by unfold kdN; rw [hO, hm]; rfl
        have hne5 := key_ne (t := parT s) (hKO.trans hm)
        have hno := key_ok (t := parT s) (hKO.trans hm) hbits
        rw [hl, hn, hE]
        have V := Lib.hid (fun W hW => moved_any v xs (bootM xs) (keyM (bootM xs) ps (parT s)) W hW hw (key_b hbits))
        have K := Lib.hid (fun (u : Value) (W : World) hW => Key_any (bootM xs).me (bootM xs).rev (bootM xs).cr (bootM xs).h (bootM xs).b (bootM xs).bad (bootM xs).lk u ps (parT s).class_ (parT s).id (parT s).amount (parT s).tag W hW hp hbits (kd_body (parT s)))
        clear hE hO hKO hl hn hok hb hq hw hno hbits
        generalize movedL xs (bootM xs) (keyM (bootM xs) ps (parT s)) = L at *
        generalize bootM xs = m at *
        generalize parT s = tk at *
        obtain ⟨m1, m2, m3, m4, m5, m6, m7⟩ := m
        obtain ⟨c, ti, n, tag⟩ := tk
        simp only [MM.v] at B K V
        generalize keyM ⟨m1, m2, m3, m4, m5, m6, m7⟩ ps ⟨c, ti, n, tag⟩ = y at *
        generalize keyA ⟨m1, m2, m3, m4, m5, m6, m7⟩ ps ⟨c, ti, n, tag⟩ = A at *
        generalize keyE ⟨m1, m2, m3, m4, m5, m6, m7⟩ ps ⟨c, ti, n, tag⟩ = E at *
        obtain ⟨y1, y2, y3, y4, y5, y6, y7⟩ := y
        simp only at K V
        have hE5 : (E == 5) = false := by rw [beq_eq_false_iff_ne]; exact hne5
        obtain ⟨a, cap, rfl, -⟩ := id h
        obtain ⟨a2, cap2, rfl, -⟩ := id h2
        have kb := boxed_below w (.cells #[.slice a2 ps.length cap2] 25)
        have oo := Own.new (w := w) rfl [.slice a2 ps.length cap2] 25
        have hc := h.below kb
        have ho := h2.below kb
        clear h h2
        go_enter Tryz.func6, Tryz.ntmps6
        go_wp2_with fail
        refine (B.out _ hc).mono ?_
        rintro e w1 ⟨rfl, k1⟩
        have hz01 : w.heap.size < w1.heap.size := by have := k1.size; simp at this; omega
        have km := boxed_below w1 (.cells #[I m1, I m2, I m3, I m4, .int .u64 m5, I m6, I m7] 40)
        have om := Own.new (w := w1) rfl [I m1, I m2, I m3, I m4, .int .u64 m5, I m6, I m7] 40
        have oo := (oo.below k1).below km
        have hc := (hc.below k1).below km
        have ho := (ho.below k1).below km
        have kb := kb.trans (k1.mono kb.size)
        have kb := kb.trans (km.mono kb.size)
        clear k1 km B
        go_wp2_with fail
        refine (P.out _).mono ?_
        rintro e w2 ⟨rfl, k2⟩
        have hz12 : w1.heap.size < w2.heap.size := by have := k2.size; simp at this; omega
        have kt := boxed_below w2 (.cells #[I c, I ti, I n, I tag] 44)
        have ot := Own.new (w := w2) rfl [I c, I ti, I n, I tag] 44
        have om := (om.below k2).below kt
        have oo := (oo.below k2).below kt
        have hc := (hc.below k2).below kt
        have ho := (ho.below k2).below kt
        have kb := kb.trans (k2.mono kb.size)
        have kb := kb.trans (kt.mono kb.size)
        clear k2 kt P
        have qO := om
        have q0 := qO.cell 0 (by simp)
        have qf0 := qO.frozen 0
        have q1 := qO.cell 1 (by simp)
        have qf1 := qO.frozen 1
        have q2 := qO.cell 2 (by simp)
        have qf2 := qO.frozen 2
        have q3 := qO.cell 3 (by simp)
        have qf3 := qO.frozen 3
        have q4 := qO.cell 4 (by simp)
        have qf4 := qO.frozen 4
        have q5 := qO.cell 5 (by simp)
        have qf5 := qO.frozen 5
        have q6 := qO.cell 6 (by simp)
        have qf6 := qO.frozen 6
        simp only [Nat.zero_add, List.getD_cons_zero, List.getD_cons_succ] at q0 q1 q2 q3 q4 q5 q6
        clear qO
        have rO := oo
        have r0 := rO.cell 0 (by simp)
        have rf0 := rO.frozen 0
        simp only [Nat.zero_add, List.getD_cons_zero] at r0
        clear rO
        have tO := ot
        have t0 := tO.cell 0 (by simp)
        have tf0 := tO.frozen 0
        have t1 := tO.cell 1 (by simp)
        have tf1 := tO.frozen 1
        have t2 := tO.cell 2 (by simp)
        have tf2 := tO.frozen 2
        have t3 := tO.cell 3 (by simp)
        have tf3 := tO.frozen 3
        simp only [Nat.zero_add, List.getD_cons_zero, List.getD_cons_succ] at t0 t1 t2 t3
        clear tO
        go_wp2_with fail
        refine (K.out _ _ ho).mono ?_
        rintro e w3 ⟨rfl, k3⟩
        have hz23 : w2.heap.size < w3.heap.size := by have := k3.size; (try simp at this); omega
        have kn := boxed_below w3 (.cells #[I y1, I y2, I y3, I y4, .int .u64 y5, I y6, I y7] 40)
        have on := Own.new (w := w3) rfl [I y1, I y2, I y3, I y4, .int .u64 y5, I y6, I y7] 40
        have om := (om.below k3).below kn
        have hc := (hc.below k3).below kn
        have kb := kb.trans (k3.mono kb.size)
        have kb := kb.trans (kn.mono kb.size)
        have hne : ¬ w1.heap.size = w3.heap.size := by omega
        clear k3 kn K q0 q1 q2 q3 q4 q5 q6 qf0 qf1 qf2 qf3 qf4 qf5 qf6 r0 rf0 t0 t1 t2 t3 tf0 tf1 tf2 tf3
        have qO := om
        have q0 := qO.cell 0 (by simp)
        have qf0 := qO.frozen 0
        have q1 := qO.cell 1 (by simp)
        have qf1 := qO.frozen 1
        have q2 := qO.cell 2 (by simp)
        have qf2 := qO.frozen 2
        have q3 := qO.cell 3 (by simp)
        have qf3 := qO.frozen 3
        have q4 := qO.cell 4 (by simp)
        have qf4 := qO.frozen 4
        have q5 := qO.cell 5 (by simp)
        have qf5 := qO.frozen 5
        have q6 := qO.cell 6 (by simp)
        have qf6 := qO.frozen 6
        simp only [Nat.zero_add, List.getD_cons_zero, List.getD_cons_succ] at q0 q1 q2 q3 q4 q5 q6
        clear qO
        have zO := on
        have z0 := zO.cell 0 (by simp)
        have zf0 := zO.frozen 0
        have z1 := zO.cell 1 (by simp)
        have zf1 := zO.frozen 1
        have z2 := zO.cell 2 (by simp)
        have zf2 := zO.frozen 2
        have z3 := zO.cell 3 (by simp)
        have zf3 := zO.frozen 3
        have z4 := zO.cell 4 (by simp)
        have zf4 := zO.frozen 4
        have z5 := zO.cell 5 (by simp)
        have zf5 := zO.frozen 5
        have z6 := zO.cell 6 (by simp)
        have zf6 := zO.frozen 6
        simp only [Nat.zero_add, List.getD_cons_zero, List.getD_cons_succ] at z0 z1 z2 z3 z4 z5 z6
        clear zO
        go_wp2_with fail
        refine (V.out _ hc).mono ?_
        rintro e w4 ⟨l, rfl, hl, k4⟩
        go_wp2
        go_ret3
        exact ⟨_, rfl, hl, kb.trans (k4.mono kb.size)⟩
    · have hE : kdE xs ps s = parE s := by unfold kdE; rw [if_pos hb, if_neg hq]
      have hO : kdOk xs ps s = false := by unfold kdOk; rw [decide_eq_false (fun hh => hq hh.2)]; rfl
      have hl : kdL xs ps s = [] := by unfold kdL; rw [hO]; rfl
      have hn : kdN xs ps s = 0 := by unfold kdN; rw [hO]; rfl
      rw [hl, hn, hE]
      rw [hb] at B
      have hq' : (parE s != 0) = true := by simp [hq]
      clear hE hO hl hn hb hw
      generalize bootM xs = m at *
      generalize parT s = tk at *
      generalize parE s = E at *
      obtain ⟨m1, m2, m3, m4, m5, m6, m7⟩ := m
      obtain ⟨c, ti, n, tag⟩ := tk
      simp only [MM.v] at B
      obtain ⟨a, cap, rfl, -⟩ := id h
      obtain ⟨a2, cap2, rfl, -⟩ := id h2
      have kb := boxed_below w (.cells #[.slice a2 ps.length cap2] 25)
      have oo := Own.new (w := w) rfl [.slice a2 ps.length cap2] 25
      have hc := h.below kb
      have ho := h2.below kb
      clear h h2
      go_enter Tryz.func6, Tryz.ntmps6
      go_wp2_with fail
      refine (B.out _ hc).mono ?_
      rintro e w1 ⟨rfl, k1⟩
      have hz01 : w.heap.size < w1.heap.size := by have := k1.size; simp at this; omega
      have km := boxed_below w1 (.cells #[I m1, I m2, I m3, I m4, .int .u64 m5, I m6, I m7] 40)
      have om := Own.new (w := w1) rfl [I m1, I m2, I m3, I m4, .int .u64 m5, I m6, I m7] 40
      have oo := (oo.below k1).below km
      have hc := (hc.below k1).below km
      have ho := (ho.below k1).below km
      have kb := kb.trans (k1.mono kb.size)
      have kb := kb.trans (km.mono kb.size)
      clear k1 km B
      go_wp2_with fail
      refine (P.out _).mono ?_
      rintro e w2 ⟨rfl, k2⟩
      have hz12 : w1.heap.size < w2.heap.size := by have := k2.size; simp at this; omega
      have kt := boxed_below w2 (.cells #[I c, I ti, I n, I tag] 44)
      have ot := Own.new (w := w2) rfl [I c, I ti, I n, I tag] 44
      have om := (om.below k2).below kt
      have oo := (oo.below k2).below kt
      have hc := (hc.below k2).below kt
      have ho := (ho.below k2).below kt
      have kb := kb.trans (k2.mono kb.size)
      have kb := kb.trans (kt.mono kb.size)
      clear k2 kt P
      go_wp2
      go_ret3
      exact ⟨_, rfl, Sl.nil _ _, kb⟩
  · have hE : kdE xs ps s = bootE xs := by unfold kdE; rw [if_neg hb]
    have hO : kdOk xs ps s = false := by unfold kdOk; rw [decide_eq_false (fun hh => hb hh.1)]; rfl
    have hl : kdL xs ps s = [] := by unfold kdL; rw [hO]; rfl
    have hn : kdN xs ps s = 0 := by unfold kdN; rw [hO]; rfl
    rw [hl, hn, hE]
    have hb' : (bootE xs != 0) = true := by simp [hb]
    clear hE hO hl hn P hw
    generalize bootM xs = m at *
    generalize bootE xs = E at *
    obtain ⟨m1, m2, m3, m4, m5, m6, m7⟩ := m
    simp only [MM.v] at B
    obtain ⟨a, cap, rfl, -⟩ := id h
    obtain ⟨a2, cap2, rfl, -⟩ := id h2
    have kb := boxed_below w (.cells #[.slice a2 ps.length cap2] 25)
    have oo := Own.new (w := w) rfl [.slice a2 ps.length cap2] 25
    have hc := h.below kb
    have ho := h2.below kb
    clear h h2
    go_enter Tryz.func6, Tryz.ntmps6
    go_wp2_with fail
    refine (B.out _ hc).mono ?_
    rintro e w1 ⟨rfl, k1⟩
    have hz01 : w.heap.size < w1.heap.size := by have := k1.size; simp at this; omega
    have km := boxed_below w1 (.cells #[I m1, I m2, I m3, I m4, .int .u64 m5, I m6, I m7] 40)
    have om := Own.new (w := w1) rfl [I m1, I m2, I m3, I m4, .int .u64 m5, I m6, I m7] 40
    have oo := (oo.below k1).below km
    have hc := (hc.below k1).below km
    have ho := (ho.below k1).below km
    have kb := kb.trans (k1.mono kb.size)
    have kb := kb.trans (km.mono kb.size)
    clear k1 km B
    go_wp2
    go_ret3
    exact ⟨_, rfl, Sl.nil _ _, kb⟩
set_option maxHeartbeats 4000000 in
theorem PKeyed_any (v : Value) (xs : List Int) (u : Value) (ps : List APair) (s : ByteArray) (w : World) (h : Sl w v 1 xs.length (xs.map U32)) (hw : ∀ x ∈ xs, W32 x) (h2 : Sl w u 4 ps.length (ps.flatMap APair.cells)) :
    Calls Tryz.prog 7 #[v, .agg #[u], .string s] w (KdP (kdL xs ps s) (kdN xs ps s) (kdE xs ps s) w) := by
  have B := Lib.hid (fun W hW => Booted_any v xs W hW hw)
  have P := Lib.hid (fun W => Parsed_any s W)
  unfold ParP at P
  by_cases hb : bootE xs = 0
  · by_cases hq : parE s = 0
    · have hbits := bootM_bits xs hw
      have hok := kd_boot hb
      have hE : kdE xs ps s = keyE (bootM xs) ps (parT s) := by unfold kdE; rw [if_pos hb, if_pos hq]
      have hO : kdOk xs ps s = mayO ps := by unfold kdOk; rw [decide_eq_true ⟨hb, hq⟩]; rfl
      have hKO : keyOk (bootM xs) ps = mayO ps := by unfold keyOk; rw [hok]; rfl
      skip
      rw [hb] at B
      rw [hq] at P
      cases hm : mayO ps
      · have hl : kdL xs ps s = [] := by unfold kdL; rw [hO, hm]; rfl
        have hn : kdN xs ps s = 0 := by unfold kdN; rw [hO, hm]; rfl
        obtain ⟨e1, e2, e3⟩ := keyOff (t := parT s) (hKO.trans hm)
        rw [hl, hn, hE, e1]
        have O := Lib.hid (fun (u : Value) (W : World) hW => OracleMay_any u ps W hW)
        rw [hm] at O
        clear hE hO hKO hl hn hok hb hq hw
        generalize bootM xs = m at *
        generalize parT s = tk at *
        obtain ⟨m1, m2, m3, m4, m5, m6, m7⟩ := m
        obtain ⟨c, ti, n, tag⟩ := tk
        simp only [MM.v] at B
        obtain ⟨a, cap, rfl, -⟩ := id h
        obtain ⟨a2, cap2, rfl, -⟩ := id h2
        have kb := boxed_below w (.cells #[.slice a2 ps.length cap2] 25)
        have oo := Own.new (w := w) rfl [.slice a2 ps.length cap2] 25
        have hc := h.below kb
        have ho := h2.below kb
        clear h h2
        go_enter Tryz.func7, Tryz.ntmps7
        go_wp2_with fail
        refine (B.out _ hc).mono ?_
        rintro e w1 ⟨rfl, k1⟩
        have hz01 : w.heap.size < w1.heap.size := by have := k1.size; simp at this; omega
        have km := boxed_below w1 (.cells #[I m1, I m2, I m3, I m4, .int .u64 m5, I m6, I m7] 40)
        have om := Own.new (w := w1) rfl [I m1, I m2, I m3, I m4, .int .u64 m5, I m6, I m7] 40
        have oo := (oo.below k1).below km
        have hc := (hc.below k1).below km
        have ho := (ho.below k1).below km
        have kb := kb.trans (k1.mono kb.size)
        have kb := kb.trans (km.mono kb.size)
        clear k1 km B
        go_wp2_with fail
        refine (P.out _).mono ?_
        rintro e w2 ⟨rfl, k2⟩
        have hz12 : w1.heap.size < w2.heap.size := by have := k2.size; simp at this; omega
        have kt := boxed_below w2 (.cells #[I c, I ti, I n, I tag] 44)
        have ot := Own.new (w := w2) rfl [I c, I ti, I n, I tag] 44
        have om := (om.below k2).below kt
        have oo := (oo.below k2).below kt
        have hc := (hc.below k2).below kt
        have ho := (ho.below k2).below kt
        have kb := kb.trans (k2.mono kb.size)
        have kb := kb.trans (kt.mono kb.size)
        clear k2 kt P
        have jO := oo
        have j0 := jO.cell 0 (by simp)
        have jf0 := jO.frozen 0
        simp only [Nat.zero_add, List.getD_cons_zero] at j0
        clear jO
        go_wp2_with fail
        refine (O.out _ _ ho).mono ?_
        rintro e wo ⟨rfl, ko⟩
        have hzo : w2.heap.size < wo.heap.size := by have := ko.size; simp at this; omega
        have om := om.below ko
        have oo := oo.below ko
        have ot := ot.below ko
        have hc := hc.below ko
        have ho := ho.below ko
        have kb := kb.trans (ko.mono kb.size)
        clear ko O j0 jf0
        go_wp2
        go_ret3
        exact ⟨_, rfl, Sl.nil _ _, kb⟩
      · have hl : kdL xs ps s = movedL xs (bootM xs) (keyM (bootM xs) ps (parT s)) := by unfold kdL; rw [hO, hm]; rfl
        have hn : kdN xs ps s = keyA (bootM xs) ps (parT s) := by unfold kdN; rw [hO, hm]; rfl
        have hne5 := key_ne (t := parT s) (hKO.trans hm)
        have hno := key_ok (t := parT s) (hKO.trans hm) hbits
        rw [hl, hn, hE]
        have O := Lib.hid (fun (u : Value) (W : World) hW => OracleMay_any u ps W hW)
        rw [hm] at O
        have V := Lib.hid (fun W hW => stored_any v xs (bootM xs) (keyM (bootM xs) ps (parT s)) W hW hw hbits (key_b hbits))
        rw [← moved_law hok hno] at V
        have K := Lib.hid (fun (u : Value) (W : World) hW => MeterKeyed_any (bootM xs).me (bootM xs).rev (bootM xs).cr (bootM xs).h (bootM xs).b (bootM xs).bad (bootM xs).lk u ps (parT s).class_ (parT s).id (parT s).amount (parT s).tag W hW hbits)
        clear hE hO hKO hl hn hok hb hq hw hno hbits
        generalize movedL xs (bootM xs) (keyM (bootM xs) ps (parT s)) = L at *
        generalize bootM xs = m at *
        generalize parT s = tk at *
        obtain ⟨m1, m2, m3, m4, m5, m6, m7⟩ := m
        obtain ⟨c, ti, n, tag⟩ := tk
        simp only [MM.v] at B K V
        generalize keyM ⟨m1, m2, m3, m4, m5, m6, m7⟩ ps ⟨c, ti, n, tag⟩ = y at *
        generalize keyA ⟨m1, m2, m3, m4, m5, m6, m7⟩ ps ⟨c, ti, n, tag⟩ = A at *
        generalize keyE ⟨m1, m2, m3, m4, m5, m6, m7⟩ ps ⟨c, ti, n, tag⟩ = E at *
        obtain ⟨y1, y2, y3, y4, y5, y6, y7⟩ := y
        simp only at K V
        obtain ⟨a, cap, rfl, -⟩ := id h
        obtain ⟨a2, cap2, rfl, -⟩ := id h2
        have kb := boxed_below w (.cells #[.slice a2 ps.length cap2] 25)
        have oo := Own.new (w := w) rfl [.slice a2 ps.length cap2] 25
        have hc := h.below kb
        have ho := h2.below kb
        clear h h2
        go_enter Tryz.func7, Tryz.ntmps7
        go_wp2_with fail
        refine (B.out _ hc).mono ?_
        rintro e w1 ⟨rfl, k1⟩
        have hz01 : w.heap.size < w1.heap.size := by have := k1.size; simp at this; omega
        have km := boxed_below w1 (.cells #[I m1, I m2, I m3, I m4, .int .u64 m5, I m6, I m7] 40)
        have om := Own.new (w := w1) rfl [I m1, I m2, I m3, I m4, .int .u64 m5, I m6, I m7] 40
        have oo := (oo.below k1).below km
        have hc := (hc.below k1).below km
        have ho := (ho.below k1).below km
        have kb := kb.trans (k1.mono kb.size)
        have kb := kb.trans (km.mono kb.size)
        clear k1 km B
        go_wp2_with fail
        refine (P.out _).mono ?_
        rintro e w2 ⟨rfl, k2⟩
        have hz12 : w1.heap.size < w2.heap.size := by have := k2.size; simp at this; omega
        have kt := boxed_below w2 (.cells #[I c, I ti, I n, I tag] 44)
        have ot := Own.new (w := w2) rfl [I c, I ti, I n, I tag] 44
        have om := (om.below k2).below kt
        have oo := (oo.below k2).below kt
        have hc := (hc.below k2).below kt
        have ho := (ho.below k2).below kt
        have kb := kb.trans (k2.mono kb.size)
        have kb := kb.trans (kt.mono kb.size)
        clear k2 kt P
        have jO := oo
        have j0 := jO.cell 0 (by simp)
        have jf0 := jO.frozen 0
        simp only [Nat.zero_add, List.getD_cons_zero] at j0
        clear jO
        go_wp2_with fail
        refine (O.out _ _ ho).mono ?_
        rintro e wo ⟨rfl, ko⟩
        have hzo : w2.heap.size < wo.heap.size := by have := ko.size; simp at this; omega
        have om := om.below ko
        have oo := oo.below ko
        have ot := ot.below ko
        have hc := hc.below ko
        have ho := ho.below ko
        have kb := kb.trans (ko.mono kb.size)
        clear ko O j0 jf0
        have qO := om
        have q0 := qO.cell 0 (by simp)
        have qf0 := qO.frozen 0
        have q1 := qO.cell 1 (by simp)
        have qf1 := qO.frozen 1
        have q2 := qO.cell 2 (by simp)
        have qf2 := qO.frozen 2
        have q3 := qO.cell 3 (by simp)
        have qf3 := qO.frozen 3
        have q4 := qO.cell 4 (by simp)
        have qf4 := qO.frozen 4
        have q5 := qO.cell 5 (by simp)
        have qf5 := qO.frozen 5
        have q6 := qO.cell 6 (by simp)
        have qf6 := qO.frozen 6
        simp only [Nat.zero_add, List.getD_cons_zero, List.getD_cons_succ] at q0 q1 q2 q3 q4 q5 q6
        clear qO
        have rO := oo
        have r0 := rO.cell 0 (by simp)
        have rf0 := rO.frozen 0
        simp only [Nat.zero_add, List.getD_cons_zero] at r0
        clear rO
        have tO := ot
        have t0 := tO.cell 0 (by simp)
        have tf0 := tO.frozen 0
        have t1 := tO.cell 1 (by simp)
        have tf1 := tO.frozen 1
        have t2 := tO.cell 2 (by simp)
        have tf2 := tO.frozen 2
        have t3 := tO.cell 3 (by simp)
        have tf3 := tO.frozen 3
        simp only [Nat.zero_add, List.getD_cons_zero, List.getD_cons_succ] at t0 t1 t2 t3
        clear tO
        go_wp2_with fail
        refine (K.out _ _ ho).mono ?_
        rintro e w3 ⟨rfl, k3⟩
        have hz23 : w2.heap.size < w3.heap.size := by have := k3.size; (try simp at this); omega
        have kn := boxed_below w3 (.cells #[I y1, I y2, I y3, I y4, .int .u64 y5, I y6, I y7] 40)
        have on := Own.new (w := w3) rfl [I y1, I y2, I y3, I y4, .int .u64 y5, I y6, I y7] 40
        have om := (om.below k3).below kn
        have hc := (hc.below k3).below kn
        have kb := kb.trans (k3.mono kb.size)
        have kb := kb.trans (kn.mono kb.size)
        have hne : ¬ w1.heap.size = w3.heap.size := by omega
        clear k3 kn K q0 q1 q2 q3 q4 q5 q6 qf0 qf1 qf2 qf3 qf4 qf5 qf6 r0 rf0 t0 t1 t2 t3 tf0 tf1 tf2 tf3
        have qO := om
        have q0 := qO.cell 0 (by simp)
        have qf0 := qO.frozen 0
        have q1 := qO.cell 1 (by simp)
        have qf1 := qO.frozen 1
        have q2 := qO.cell 2 (by simp)
        have qf2 := qO.frozen 2
        have q3 := qO.cell 3 (by simp)
        have qf3 := qO.frozen 3
        have q4 := qO.cell 4 (by simp)
        have qf4 := qO.frozen 4
        have q5 := qO.cell 5 (by simp)
        have qf5 := qO.frozen 5
        have q6 := qO.cell 6 (by simp)
        have qf6 := qO.frozen 6
        simp only [Nat.zero_add, List.getD_cons_zero, List.getD_cons_succ] at q0 q1 q2 q3 q4 q5 q6
        clear qO
        have zO := on
        have z0 := zO.cell 0 (by simp)
        have zf0 := zO.frozen 0
        have z1 := zO.cell 1 (by simp)
        have zf1 := zO.frozen 1
        have z2 := zO.cell 2 (by simp)
        have zf2 := zO.frozen 2
        have z3 := zO.cell 3 (by simp)
        have zf3 := zO.frozen 3
        have z4 := zO.cell 4 (by simp)
        have zf4 := zO.frozen 4
        have z5 := zO.cell 5 (by simp)
        have zf5 := zO.frozen 5
        have z6 := zO.cell 6 (by simp)
        have zf6 := zO.frozen 6
        simp only [Nat.zero_add, List.getD_cons_zero, List.getD_cons_succ] at z0 z1 z2 z3 z4 z5 z6
        clear zO
        go_wp2_with fail
        refine (V.out _ hc).mono ?_
        rintro e w4 ⟨l, rfl, hl, k4⟩
        go_wp2
        go_ret3
        exact ⟨_, rfl, hl, kb.trans (k4.mono kb.size)⟩
    · have hE : kdE xs ps s = parE s := by unfold kdE; rw [if_pos hb, if_neg hq]
      have hO : kdOk xs ps s = false := by unfold kdOk; rw [decide_eq_false (fun hh => hq hh.2)]; rfl
      have hl : kdL xs ps s = [] := by unfold kdL; rw [hO]; rfl
      have hn : kdN xs ps s = 0 := by unfold kdN; rw [hO]; rfl
      rw [hl, hn, hE]
      rw [hb] at B
      have hq' : (parE s != 0) = true := by simp [hq]
      clear hE hO hl hn hb hw
      generalize bootM xs = m at *
      generalize parT s = tk at *
      generalize parE s = E at *
      obtain ⟨m1, m2, m3, m4, m5, m6, m7⟩ := m
      obtain ⟨c, ti, n, tag⟩ := tk
      simp only [MM.v] at B
      obtain ⟨a, cap, rfl, -⟩ := id h
      obtain ⟨a2, cap2, rfl, -⟩ := id h2
      have kb := boxed_below w (.cells #[.slice a2 ps.length cap2] 25)
      have oo := Own.new (w := w) rfl [.slice a2 ps.length cap2] 25
      have hc := h.below kb
      have ho := h2.below kb
      clear h h2
      go_enter Tryz.func7, Tryz.ntmps7
      go_wp2_with fail
      refine (B.out _ hc).mono ?_
      rintro e w1 ⟨rfl, k1⟩
      have hz01 : w.heap.size < w1.heap.size := by have := k1.size; simp at this; omega
      have km := boxed_below w1 (.cells #[I m1, I m2, I m3, I m4, .int .u64 m5, I m6, I m7] 40)
      have om := Own.new (w := w1) rfl [I m1, I m2, I m3, I m4, .int .u64 m5, I m6, I m7] 40
      have oo := (oo.below k1).below km
      have hc := (hc.below k1).below km
      have ho := (ho.below k1).below km
      have kb := kb.trans (k1.mono kb.size)
      have kb := kb.trans (km.mono kb.size)
      clear k1 km B
      go_wp2_with fail
      refine (P.out _).mono ?_
      rintro e w2 ⟨rfl, k2⟩
      have hz12 : w1.heap.size < w2.heap.size := by have := k2.size; simp at this; omega
      have kt := boxed_below w2 (.cells #[I c, I ti, I n, I tag] 44)
      have ot := Own.new (w := w2) rfl [I c, I ti, I n, I tag] 44
      have om := (om.below k2).below kt
      have oo := (oo.below k2).below kt
      have hc := (hc.below k2).below kt
      have ho := (ho.below k2).below kt
      have kb := kb.trans (k2.mono kb.size)
      have kb := kb.trans (kt.mono kb.size)
      clear k2 kt P
      go_wp2
      go_ret3
      exact ⟨_, rfl, Sl.nil _ _, kb⟩
  · have hE : kdE xs ps s = bootE xs := by unfold kdE; rw [if_neg hb]
    have hO : kdOk xs ps s = false := by unfold kdOk; rw [decide_eq_false (fun hh => hb hh.1)]; rfl
    have hl : kdL xs ps s = [] := by unfold kdL; rw [hO]; rfl
    have hn : kdN xs ps s = 0 := by unfold kdN; rw [hO]; rfl
    rw [hl, hn, hE]
    have hb' : (bootE xs != 0) = true := by simp [hb]
    clear hE hO hl hn P hw
    generalize bootM xs = m at *
    generalize bootE xs = E at *
    obtain ⟨m1, m2, m3, m4, m5, m6, m7⟩ := m
    simp only [MM.v] at B
    obtain ⟨a, cap, rfl, -⟩ := id h
    obtain ⟨a2, cap2, rfl, -⟩ := id h2
    have kb := boxed_below w (.cells #[.slice a2 ps.length cap2] 25)
    have oo := Own.new (w := w) rfl [.slice a2 ps.length cap2] 25
    have hc := h.below kb
    have ho := h2.below kb
    clear h h2
    go_enter Tryz.func7, Tryz.ntmps7
    go_wp2_with fail
    refine (B.out _ hc).mono ?_
    rintro e w1 ⟨rfl, k1⟩
    have hz01 : w.heap.size < w1.heap.size := by have := k1.size; simp at this; omega
    have km := boxed_below w1 (.cells #[I m1, I m2, I m3, I m4, .int .u64 m5, I m6, I m7] 40)
    have om := Own.new (w := w1) rfl [I m1, I m2, I m3, I m4, .int .u64 m5, I m6, I m7] 40
    have oo := (oo.below k1).below km
    have hc := (hc.below k1).below km
    have ho := (ho.below k1).below km
    have kb := kb.trans (k1.mono kb.size)
    have kb := kb.trans (km.mono kb.size)
    clear k1 km B
    go_wp2
    go_ret3
    exact ⟨_, rfl, Sl.nil _ _, kb⟩
end Go.Proofs.YtmciccnmpoijdaaGreatDoor
