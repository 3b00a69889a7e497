/- both readers at every line; they answer alike -/
import Derived.Test.YtfhmcahfjoliiaaDoorOrdReadM
namespace Go.Proofs.YtfhmcahfjoliiaaDoor
set_option linter.unusedSimpArgs false
set_option linter.unusedVariables false
open Go Go.RowKit
set_option maxRecDepth 20000

theorem ActRead_in (s : ByteArray) (w : World) (hs : s.size ≤ 120) : Calls Tryd.prog 5 #[.string s] w (Grew (rdO (candR s) s) w) := by
  by_cases hc : hasC s
  · by_cases hn : nxP s (nxP s 0) < 0
    · rw [candR_bad hc hn]
      exact ActRead_bad s w hs hc hn
    · rw [candR_yes hc hn]
      exact ActRead_any s w hs _ _ true (fun _ => ⟨hc, hn, rfl, rfl⟩) (fun e => absurd e (by decide))
  · rw [candR_no hc]
    exact ActRead_any s w hs (-1) 0 false (fun e => absurd e (by decide)) (fun _ => ⟨hc, rfl, rfl⟩)
abbrev bigA : Value := T2 (.agg #[I 0, I 0, I 0, I 0, I 0, .string ⟨#[]⟩, I 0]) (I 1)
theorem ActRead_big (s : ByteArray) (w : World) (hs : ¬ s.size ≤ 120) : Calls Tryd.prog 5 #[.string s] w (Grew bigA w) := by
  have j120 : (120 : Int) < (s.size : Int) := by omega
  have OR := Own.new (w := w) (g := w.heap.size) (by rfl) [I 0, I 0, I 0, I 0, I 0, .string ⟨#[]⟩, I 0] 23
  have KB := boxed_below w (.cells #[I 0, I 0, I 0, I 0, I 0, .string ⟨#[]⟩, I 0] 23)
  have rO := OR
  have rfA := rO.f; have r0 := rO.c0; have r1 := rO.c1; have r2 := rO.c2; have r3 := rO.c3; have r4 := rO.c4; have r5 := rO.c5; have r6 := rO.c6
  clear rO
  go_enter Tryd.func5, Tryd.ntmps5
  go_wp2_with fail
  exact bodyPost_ret (v := bigA) (by simp [results, Tryd.results5, go_sem, *]; try omega) rfl (⟨rfl, below_autor⟩)
theorem Read_big (s : ByteArray) (w : World) (hs : ¬ s.size ≤ 120) : Calls Tryd.prog 4 #[.string s] w (Grew bigA w) := by
  have j120 : (120 : Int) < (s.size : Int) := by omega
  have OR := Own.new (w := w) (g := w.heap.size) (by rfl) [I 0, I 0, I 0, I 0, I 0, .string ⟨#[]⟩, I 0] 23
  have KB := boxed_below w (.cells #[I 0, I 0, I 0, I 0, I 0, .string ⟨#[]⟩, I 0] 23)
  have rO := OR
  have rfA := rO.f; have r0 := rO.c0; have r1 := rO.c1; have r2 := rO.c2; have r3 := rO.c3; have r4 := rO.c4; have r5 := rO.c5; have r6 := rO.c6
  clear rO
  go_enter Tryd.func4, Tryd.ntmps4
  go_wp2_with fail
  exact bodyPost_ret (v := bigA) (by simp [results, Tryd.results4, go_sem, *]; try omega) rfl (⟨rfl, below_autor⟩)
/-- what a reader says that has read nothing legal -/
theorem rd_same (s : ByteArray) : rdV (candP s) s = rdO (candR s) s := by
  by_cases h : acE (candP s).kind (candP s).meter (candP s).a (candP s).b (candP s).c (candP s).text (candP s).cut = 0 ∧ acS (candP s).kind (candP s).meter (candP s).a (candP s).b (candP s).c (candP s).text (candP s).cut = s
  · have e := candR_line (candP s) h.1
    rw [h.2] at e
    rw [e]; rfl
  · have hp : rdV (candP s) s = T2 (.agg #[I 0, I 0, I 0, I 0, I 0, .string ⟨#[]⟩, I 0]) (I 3) := if_neg h
    rw [hp]
    cases hr : candR s with
    | none => rfl
    | some y =>
      have hy : ¬ (acE y.kind y.meter y.a y.b y.c y.text y.cut = 0 ∧ acS y.kind y.meter y.a y.b y.c y.text y.cut = s) := fun hy => h (by
        have e := candP_line y hy.1
        rw [hy.2] at e
        rw [e]
        exact hy)
      exact (if_neg hy).symm
/-- the one answer -/
theorem rdV_form (x : AAct) (s : ByteArray) : ∃ (y : AAct) (er : Int), rdV x s = T2 (.agg #[I y.kind, I y.meter, I y.a, I y.b, I y.c, .string y.text, I y.cut]) (I er) := by
  unfold rdV
  split
  · exact ⟨x, 0, rfl⟩
  · exact ⟨⟨0, 0, 0, 0, 0, ⟨#[]⟩, 0⟩, 3, rfl⟩
theorem Reads_both (s : ByteArray) : ∃ (y : AAct) (er : Int), (∀ w, FormT w → PowTab w → EnvN w → Calls Tryd.prog 4 #[.string s] w (Grew (T2 (.agg #[I y.kind, I y.meter, I y.a, I y.b, I y.c, .string y.text, I y.cut]) (I er)) w)) ∧
    ∀ w, Calls Tryd.prog 5 #[.string s] w (Grew (T2 (.agg #[I y.kind, I y.meter, I y.a, I y.b, I y.c, .string y.text, I y.cut]) (I er)) w) := by
  by_cases hs : s.size ≤ 120
  · obtain ⟨y, er, h⟩ := rdV_form (candP s) s
    refine ⟨y, er, fun w h1 h2 h3 => ?_, fun w => ?_⟩
    · rw [← h]; exact Read_any s w h1 h2 h3 hs
    · rw [← h, rd_same]; exact ActRead_in s w hs
  · exact ⟨⟨0, 0, 0, 0, 0, ⟨#[]⟩, 0⟩, 1, fun w _ _ _ => Read_big s w hs, fun w => ActRead_big s w hs⟩
end Go.Proofs.YtfhmcahfjoliiaaDoor
