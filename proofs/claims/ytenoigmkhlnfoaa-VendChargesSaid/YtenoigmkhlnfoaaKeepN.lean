/- (*book.keeper).keep: a meter comes in -/
import Derived.Test.YtenoigmkhlnfoaaPk33
import Derived.Test.YtenoigmkhlnfoaaPk12
import Derived.Deep.RegionLaw
import Derived.Deep.AppendLies
namespace Go.Proofs.Ytenoigmkhlnfoaa
set_option linter.unusedSimpArgs false
set_option linter.unusedVariables false
open Go Go.RowKit
set_option maxRecDepth 20000
theorem BookAt.lowH {W W' : World} {B z0 : Nat} {v : Value} {cs : List PCust} {xs : List ACust} (h : BookAt W B v cs xs) (hz : z0 < B) (hs : W'.heap.size = W.heap.size) (hh : ∀ z, z ≠ z0 → W'.heap[z]? = W.heap[z]?) : BookAt W' B v cs xs := by
  obtain ⟨h1, h2, h3, h4⟩ := h
  refine ⟨h1, owns_heap h2 fun z hz2 => hh z ?_, fun k hk => (h3 k hk).heap (by omega) (fun q hq => hh q ?_) (fun q hq => hh q ?_), h4⟩
  · have := (h2.lt z hz2).1; omega
  · have := ((h4 k (by omega) q).1 hq).1; omega
  · have := ((h3 k hk).sblk hq).1; omega
set_option maxHeartbeats 8000000 in
theorem keep_new (t : PTerms) (tv : Value) (va : Option Addr) (vc A B kb mb : Nat) (cs : List PCust) (ys : List ACust) (me mo id te de fe pr ch un ta ow bp : Int) (w : World) (hm : evMay 1 me mo id te de fe pr ch un ta ow bp = true) (hme : I64 me)
    (oK : Own w kb [.slice va cs.length vc, tv, I t.f, I t.b, I t.d, I t.al, .map (some mb)]) (oM : OwnIdx w mb (cs.map fun c => c.acc.meter)) (hB : BookAt w B (.slice va cs.length vc) cs ys) (ha : ¬ 0 ≤ idxOf cs me)
    (hBw : B ≤ w.heap.size) (hkb : kb < B) (hmb : mb < B) (hne : mb ≠ kb) (hA1 : A ≤ kb) (hA2 : A ≤ mb) (hlen : cs.length ≤ 200) :
    Calls Try.prog 30 #[.pointer (some ⟨kb, 0, none⟩), evV 1 me mo id te de fe pr ch un ta ow bp] w (KeepP A B kb mb t tv cs ⟨1, me, mo, ⟨id, te, de, fe, pr, ch, un⟩, ta, ⟨ow, bp⟩⟩ w) := by
  have h5 := Lib.hid (evE_reg (t := t) (cs := cs) (v := ⟨1, me, mo, ⟨id, te, de, fe, pr, ch, un⟩, ta, ⟨ow, bp⟩⟩) hm rfl ha)
  have h6 := Lib.hid (evC_reg (t := t) (cs := cs) (v := ⟨1, me, mo, ⟨id, te, de, fe, pr, ch, un⟩, ta, ⟨ow, bp⟩⟩) rfl)
  have C := Lib.hid (fun W => check_any me mo id te de fe pr ch un ta ow bp 1 W)
  rw [hm] at C
  obtain ⟨q0, q1⟩ := may_meter0 (v := ⟨1, me, mo, ⟨id, te, de, fe, pr, ch, un⟩, ta, ⟨ow, bp⟩⟩) hm
  have hin : inB me 0 49 = true := inB_true.2 ⟨q0, q1⟩
  have Op := Lib.hid (fun W => Open_any me W)
  rw [show openE me = 0 by unfold openE; rw [if_pos hin]] at Op
  have hX : (openX me).meter = me := by unfold openX; rw [if_pos hin]
  simp only at h6
  have HX := Lib.hid hX
  generalize openX me = X at *
  obtain ⟨X1, X2, X3, X4, X5, X6⟩ := X
  have HA : Hid (¬ 0 ≤ findI me (cs.map fun c => c.acc.meter) 0) := ha
  generalize hv : (.slice va cs.length vc : Value) = v at *
  clear hm ha hin hX q0 q1
  have HB := Lib.hid hB
  have oV := Own.new (w := w) (g := w.heap.size) (by rfl) [I 1, I me, I mo, I id, I te, I de, I fe, I pr, I ch, I un, I ta, I ow, I bp] 72
  have kB := boxed_below w (.cells #[I 1, I me, I mo, I id, I te, I de, I fe, I pr, I ch, I un, I ta, I ow, I bp] 72)
  have HK := Lib.hid oK
  have HM := Lib.hid oM
  clear hB oK oM
  go_enter Try.func30, Try.ntmps30
  go_wp2_with fail
  refine (C.out _).mono ?_
  rintro e w1 ⟨he, k1⟩
  simp only [if_true] at he
  subst he
  have kw1 := kB.trans (k1.mono kB.size)
  have oV1 := oV.below k1
  have oK1 := HK.out.below kw1
  have oM1 := HM.out.below kw1
  have hsz1 : w.heap.size + 1 ≤ w1.heap.size := by have := k1.size; simp at this; omega
  clear oV kB k1 C
  go_upto_region 2 with fail
  go_cut [4, 5] (fun s4 s5 wx => s4 = I (idxA (cs.map fun c => c.acc.meter) me) ∧ s5 = .bool (decide (0 ≤ findI me (cs.map fun c => c.acc.meter) 0)) ∧ Own wx kb [v, tv, I t.f, I t.b, I t.d, I t.al, .map (some mb)] ∧ Own wx w.heap.size [I 1, I me, I mo, I id, I te, I de, I fe, I pr, I ch, I un, I ta, I ow, I bp] ∧ OwnIdx wx mb (cs.map fun c => c.acc.meter) ∧ Below w.heap.size w wx ∧ w.heap.size + 1 ≤ wx.heap.size)
  case first =>
    have L := run_lookI (w := w1.drew) oM1 hme
    have HK1 := Lib.hid oK1
    have HV1 := Lib.hid oV1
    have HM1 := Lib.hid oM1
    have KW1 := Lib.hid kw1
    have kO := oK1
    have kfA := kO.f; have k0 := kO.c0; have k1 := kO.c1; have k2 := kO.c2; have k3 := kO.c3; have k4 := kO.c4; have k5 := kO.c5; have k6 := kO.c6
    clear kO
    have vO := oV1
    have vfA := vO.f; have v0 := vO.c0; have v1 := vO.c1; have v2 := vO.c2; have v3 := vO.c3; have v4 := vO.c4; have v5 := vO.c5; have v6 := vO.c6; have v7 := vO.c7; have v8 := vO.c8; have v9 := vO.c9; have v10 := vO.c10; have v11 := vO.c11; have v12 := vO.c12
    clear vO
    clear oK1 oV1 oM1 kw1
    go_region
    all_goals
      go_wp2_with fail
      go_meet
      exact ⟨rfl, rfl, HK1.out, HV1.out, HM1.out, Below.drew KW1.out, hsz1⟩
  case rest =>
    obtain ⟨rfl, rfl, oK2, oV2, oM2, kw2, hsz2⟩ := hcut
    clear oK1 oV1 oM1 kw1 hsz1
    subst hv
    have HNI : Hid (findI me (cs.map fun c => c.acc.meter) 0 < 0) := HA.out
    have HD : decide (0 ≤ findI me (cs.map fun c => c.acc.meter) 0) = false := decide_eq_false (Int.not_le.2 HA.out)
    rw [HD]
    clear HD
    generalize idxA (cs.map fun c => c.acc.meter) me = ai
    have hB2 := HB.out.below kw2
    have vO := oV2
    have vfA := vO.f; have v0 := vO.c0; have v1 := vO.c1; have v2 := vO.c2; have v3 := vO.c3; have v4 := vO.c4; have v5 := vO.c5; have v6 := vO.c6; have v7 := vO.c7; have v8 := vO.c8; have v9 := vO.c9; have v10 := vO.c10; have v11 := vO.c11; have v12 := vO.c12
    clear vO
    go_wp2_with fail
    refine (want_yes _ _).mono ?_
    rintro e w' ⟨rfl, rfl⟩
    go_wp2_with fail
    refine (Op.out _).mono ?_
    rintro e w4 ⟨u, rfl, hu, k4⟩
    obtain ⟨ua, uc, rfl, -⟩ := _root_.id hu
    have kw4 := kw2.trans (k4.mono kw2.size)
    have hsz4 : w.heap.size + 1 ≤ w4.heap.size := by have := k4.size; omega
    have kA := (boxed_below w4 (.cells #[I X1, I X2, I X3, I X4, I X5, I X6, .slice ua 0 uc] 79)).drew
    have oA : Own (World.drew (w4.alloc (.cells #[I X1, I X2, I X3, I X4, I X5, I X6, .slice ua 0 uc] 79))) w4.heap.size [I X1, I X2, I X3, I X4, I X5, I X6, .slice ua 0 uc] := Own.new rfl _ _
    have oK4 := oK2.below k4
    have oV4 := oV2.below k4
    have oM4 := (oM2.below k4).below kA
    have hB4 := (hB2.below k4).below kA
    have hu4 := hu.below kA
    have HKA := Lib.hid (oK4.below kA)
    have HVA := Lib.hid (oV4.below kA)
    have HOA := Lib.hid oA
    have HB4 := Lib.hid hB4
    have HU4 := Lib.hid hu4
    have KA := Lib.hid (kw4.trans (kA.mono kw4.size))
    have ra : ∀ (o : Obj) (g j : Nat), g < w4.heap.size → (w4.alloc o).cell? ⟨g, j, none⟩ = w4.cell? ⟨g, j, none⟩ := fun o g j h => (boxed_below w4 o).cell (p := ⟨g, j, none⟩) h
    have hk4 : kb < w4.heap.size := by omega
    have hw4 : w.heap.size < w4.heap.size := by omega
    clear v0 v1 v2 v3 v4 v5 v6 v7 v8 v9 v10 v11 v12 vfA
    have vO := oV4
    have vfA := vO.f; have v0 := vO.c0; have v1 := vO.c1; have v2 := vO.c2; have v3 := vO.c3; have v4 := vO.c4; have v5 := vO.c5; have v6 := vO.c6; have v7 := vO.c7; have v8 := vO.c8; have v9 := vO.c9; have v10 := vO.c10; have v11 := vO.c11; have v12 := vO.c12
    clear vO
    have kO := oK4
    have kfA := kO.f; have k0 := kO.c0; have k1 := kO.c1; have k2 := kO.c2; have k3 := kO.c3; have k4 := kO.c4; have k5 := kO.c5; have k6 := kO.c6
    clear kO
    obtain ⟨w', hput, hM', ho, hsz', hos, htape, hout, hdr⟩ := run_putI oM4 hme (Int.not_le.2 HNI.out)
    rw [List.length_map] at hput
    have HPUT := Lib.hid hput
    clear hput
    have HM' := Lib.hid hM'
    have HO := Lib.hid ho
    have HPW := Lib.hid (And.intro hsz' (And.intro hos (And.intro htape hout)))
    clear oK2 oV2 oM2 kw2 hB2 hu k4 kw4 kA oA oK4 oV4 oM4 hB4 hu4 hM' ho hsz' hos htape hout hdr Op
    go_upto_region 6 with fail
    go_cut [] (fun wx => wx = w')
    case first =>
      have HSS : (fun W => Own W kb [.slice va cs.length vc, tv, I t.f, I t.b, I t.d, I t.al, .map (some mb)] ∧ Own W w.heap.size [I 1, I me, I mo, I id, I te, I de, I fe, I pr, I ch, I un, I ta, I ow, I bp]) (World.drew (w4.alloc (.cells #[I X1, I X2, I X3, I X4, I X5, I X6, .slice ua 0 uc] 79))) := ⟨HKA.out, HVA.out⟩
      refine AnyC.begin 12 (fun W => Own W kb [.slice va cs.length vc, tv, I t.f, I t.b, I t.d, I t.al, .map (some mb)] ∧ Own W w.heap.size [I 1, I me, I mo, I id, I te, I de, I fe, I pr, I ch, I un, I ta, I ow, I bp]) (by kernel_rfl) ?_
      refine AnyC.take (i := 0) (v := ?_) rfl (by kernel_rfl) (by kernel_rfl) (by kernel_rfl) (by kernel_rfl) (fun _ _ _ h => h) (Or.inl ⟨by rfl, ?_⟩) HSS ?_
      rotate_left
      · intro W hSw
        obtain ⟨s1, s2⟩ := hSw
        have kO := s1
        have kfA := kO.f; have k0 := kO.c0; have k1 := kO.c1; have k2 := kO.c2; have k3 := kO.c3; have k4 := kO.c4; have k5 := kO.c5; have k6 := kO.c6
        clear kO
        have vO := s2
        have vfA := vO.f; have v0 := vO.c0; have v1 := vO.c1; have v2 := vO.c2; have v3 := vO.c3; have v4 := vO.c4; have v5 := vO.c5; have v6 := vO.c6; have v7 := vO.c7; have v8 := vO.c8; have v9 := vO.c9; have v10 := vO.c10; have v11 := vO.c11; have v12 := vO.c12
        clear vO
        first | (go_simp; done) | (go_simp; with_reducible rfl)
      (try simp only [Act.put])
      (try simp only [List.setIfInBounds_toArray])
      refine AnyC.take (i := 1) (v := ?_) rfl (by kernel_rfl) (by kernel_rfl) (by kernel_rfl) (by kernel_rfl) (fun _ _ _ h => h) (Or.inl ⟨by rfl, ?_⟩) HSS ?_
      rotate_left
      · intro W hSw
        obtain ⟨s1, s2⟩ := hSw
        have kO := s1
        have kfA := kO.f; have k0 := kO.c0; have k1 := kO.c1; have k2 := kO.c2; have k3 := kO.c3; have k4 := kO.c4; have k5 := kO.c5; have k6 := kO.c6
        clear kO
        have vO := s2
        have vfA := vO.f; have v0 := vO.c0; have v1 := vO.c1; have v2 := vO.c2; have v3 := vO.c3; have v4 := vO.c4; have v5 := vO.c5; have v6 := vO.c6; have v7 := vO.c7; have v8 := vO.c8; have v9 := vO.c9; have v10 := vO.c10; have v11 := vO.c11; have v12 := vO.c12
        clear vO
        first | (go_simp; done) | (go_simp; with_reducible rfl)
      (try simp only [Act.put])
      refine AnyC.take (i := 2) (v := ?_) rfl (by kernel_rfl) (by kernel_rfl) (by kernel_rfl) (by kernel_rfl) (fun _ _ _ h => h) (Or.inl ⟨by rfl, ?_⟩) HSS ?_
      rotate_left
      · intro W hSw
        obtain ⟨s1, s2⟩ := hSw
        have kO := s1
        have kfA := kO.f; have k0 := kO.c0; have k1 := kO.c1; have k2 := kO.c2; have k3 := kO.c3; have k4 := kO.c4; have k5 := kO.c5; have k6 := kO.c6
        clear kO
        have vO := s2
        have vfA := vO.f; have v0 := vO.c0; have v1 := vO.c1; have v2 := vO.c2; have v3 := vO.c3; have v4 := vO.c4; have v5 := vO.c5; have v6 := vO.c6; have v7 := vO.c7; have v8 := vO.c8; have v9 := vO.c9; have v10 := vO.c10; have v11 := vO.c11; have v12 := vO.c12
        clear vO
        first | (go_simp; done) | (go_simp; with_reducible rfl)
      (try simp only [Act.put])
      refine AnyC.take (i := 3) (v := ?_) rfl (by kernel_rfl) (by kernel_rfl) (by kernel_rfl) (by kernel_rfl) (fun _ _ _ h => h) (Or.inl ⟨by rfl, ?_⟩) HSS ?_
      rotate_left
      · intro W hSw
        obtain ⟨s1, s2⟩ := hSw
        have kO := s1
        have kfA := kO.f; have k0 := kO.c0; have k1 := kO.c1; have k2 := kO.c2; have k3 := kO.c3; have k4 := kO.c4; have k5 := kO.c5; have k6 := kO.c6
        clear kO
        have vO := s2
        have vfA := vO.f; have v0 := vO.c0; have v1 := vO.c1; have v2 := vO.c2; have v3 := vO.c3; have v4 := vO.c4; have v5 := vO.c5; have v6 := vO.c6; have v7 := vO.c7; have v8 := vO.c8; have v9 := vO.c9; have v10 := vO.c10; have v11 := vO.c11; have v12 := vO.c12
        clear vO
        first | (go_simp; done) | (go_simp; with_reducible rfl)
      (try simp only [Act.put])
      refine AnyC.take (i := 4) (v := ?_) rfl (by kernel_rfl) (by kernel_rfl) (by kernel_rfl) (by kernel_rfl) (fun _ _ _ h => h) (Or.inl ⟨by rfl, ?_⟩) HSS ?_
      rotate_left
      · intro W hSw
        obtain ⟨s1, s2⟩ := hSw
        have kO := s1
        have kfA := kO.f; have k0 := kO.c0; have k1 := kO.c1; have k2 := kO.c2; have k3 := kO.c3; have k4 := kO.c4; have k5 := kO.c5; have k6 := kO.c6
        clear kO
        have vO := s2
        have vfA := vO.f; have v0 := vO.c0; have v1 := vO.c1; have v2 := vO.c2; have v3 := vO.c3; have v4 := vO.c4; have v5 := vO.c5; have v6 := vO.c6; have v7 := vO.c7; have v8 := vO.c8; have v9 := vO.c9; have v10 := vO.c10; have v11 := vO.c11; have v12 := vO.c12
        clear vO
        first | (go_simp; done) | (go_simp; with_reducible rfl)
      (try simp only [Act.put])
      refine AnyC.take (i := 5) (v := ?_) rfl (by kernel_rfl) (by kernel_rfl) (by kernel_rfl) (by kernel_rfl) (fun _ _ _ h => h) (Or.inl ⟨by rfl, ?_⟩) HSS ?_
      rotate_left
      · intro W hSw
        obtain ⟨s1, s2⟩ := hSw
        have kO := s1
        have kfA := kO.f; have k0 := kO.c0; have k1 := kO.c1; have k2 := kO.c2; have k3 := kO.c3; have k4 := kO.c4; have k5 := kO.c5; have k6 := kO.c6
        clear kO
        have vO := s2
        have vfA := vO.f; have v0 := vO.c0; have v1 := vO.c1; have v2 := vO.c2; have v3 := vO.c3; have v4 := vO.c4; have v5 := vO.c5; have v6 := vO.c6; have v7 := vO.c7; have v8 := vO.c8; have v9 := vO.c9; have v10 := vO.c10; have v11 := vO.c11; have v12 := vO.c12
        clear vO
        first | (go_simp; done) | (go_simp; with_reducible rfl)
      (try simp only [Act.put])
      refine AnyC.take (i := 6) (v := ?_) rfl (by kernel_rfl) (by kernel_rfl) (by kernel_rfl) (by kernel_rfl) (fun _ _ _ h => h) (Or.inl ⟨by rfl, ?_⟩) HSS ?_
      rotate_left
      · intro W hSw
        obtain ⟨s1, s2⟩ := hSw
        have kO := s1
        have kfA := kO.f; have k0 := kO.c0; have k1 := kO.c1; have k2 := kO.c2; have k3 := kO.c3; have k4 := kO.c4; have k5 := kO.c5; have k6 := kO.c6
        clear kO
        have vO := s2
        have vfA := vO.f; have v0 := vO.c0; have v1 := vO.c1; have v2 := vO.c2; have v3 := vO.c3; have v4 := vO.c4; have v5 := vO.c5; have v6 := vO.c6; have v7 := vO.c7; have v8 := vO.c8; have v9 := vO.c9; have v10 := vO.c10; have v11 := vO.c11; have v12 := vO.c12
        clear vO
        first | (go_simp; done) | (go_simp; with_reducible rfl)
      (try simp only [Act.put])
      refine AnyC.take (i := 7) (v := ?_) rfl (by kernel_rfl) (by kernel_rfl) (by kernel_rfl) (by kernel_rfl) (fun _ _ _ h => h) (Or.inl ⟨by rfl, ?_⟩) HSS ?_
      rotate_left
      · intro W hSw
        obtain ⟨s1, s2⟩ := hSw
        have kO := s1
        have kfA := kO.f; have k0 := kO.c0; have k1 := kO.c1; have k2 := kO.c2; have k3 := kO.c3; have k4 := kO.c4; have k5 := kO.c5; have k6 := kO.c6
        clear kO
        have vO := s2
        have vfA := vO.f; have v0 := vO.c0; have v1 := vO.c1; have v2 := vO.c2; have v3 := vO.c3; have v4 := vO.c4; have v5 := vO.c5; have v6 := vO.c6; have v7 := vO.c7; have v8 := vO.c8; have v9 := vO.c9; have v10 := vO.c10; have v11 := vO.c11; have v12 := vO.c12
        clear vO
        first | (go_simp; done) | (go_simp; with_reducible rfl)
      (try simp only [Act.put])
      refine AnyC.take (i := 8) (v := ?_) rfl (by kernel_rfl) (by kernel_rfl) (by kernel_rfl) (by kernel_rfl) (fun _ _ _ h => h) (Or.inl ⟨by rfl, ?_⟩) HSS ?_
      rotate_left
      · intro W hSw
        obtain ⟨s1, s2⟩ := hSw
        have kO := s1
        have kfA := kO.f; have k0 := kO.c0; have k1 := kO.c1; have k2 := kO.c2; have k3 := kO.c3; have k4 := kO.c4; have k5 := kO.c5; have k6 := kO.c6
        clear kO
        have vO := s2
        have vfA := vO.f; have v0 := vO.c0; have v1 := vO.c1; have v2 := vO.c2; have v3 := vO.c3; have v4 := vO.c4; have v5 := vO.c5; have v6 := vO.c6; have v7 := vO.c7; have v8 := vO.c8; have v9 := vO.c9; have v10 := vO.c10; have v11 := vO.c11; have v12 := vO.c12
        clear vO
        first | (go_simp; done) | (go_simp; with_reducible rfl)
      (try simp only [Act.put])
      refine AnyC.take (i := 9) (v := ?_) rfl (by kernel_rfl) (by kernel_rfl) (by kernel_rfl) (by kernel_rfl) (fun _ _ _ h => h) (Or.inl ⟨by rfl, ?_⟩) HSS ?_
      rotate_left
      · intro W hSw
        obtain ⟨s1, s2⟩ := hSw
        have kO := s1
        have kfA := kO.f; have k0 := kO.c0; have k1 := kO.c1; have k2 := kO.c2; have k3 := kO.c3; have k4 := kO.c4; have k5 := kO.c5; have k6 := kO.c6
        clear kO
        have vO := s2
        have vfA := vO.f; have v0 := vO.c0; have v1 := vO.c1; have v2 := vO.c2; have v3 := vO.c3; have v4 := vO.c4; have v5 := vO.c5; have v6 := vO.c6; have v7 := vO.c7; have v8 := vO.c8; have v9 := vO.c9; have v10 := vO.c10; have v11 := vO.c11; have v12 := vO.c12
        clear vO
        first | (go_simp; done) | (go_simp; with_reducible rfl)
      (try simp only [Act.put])
      refine AnyC.take (i := 10) (v := ?_) rfl (by kernel_rfl) (by kernel_rfl) (by kernel_rfl) (by kernel_rfl) (fun _ _ _ h => h) (Or.inl ⟨by rfl, ?_⟩) HSS ?_
      rotate_left
      · intro W hSw
        obtain ⟨s1, s2⟩ := hSw
        have kO := s1
        have kfA := kO.f; have k0 := kO.c0; have k1 := kO.c1; have k2 := kO.c2; have k3 := kO.c3; have k4 := kO.c4; have k5 := kO.c5; have k6 := kO.c6
        clear kO
        have vO := s2
        have vfA := vO.f; have v0 := vO.c0; have v1 := vO.c1; have v2 := vO.c2; have v3 := vO.c3; have v4 := vO.c4; have v5 := vO.c5; have v6 := vO.c6; have v7 := vO.c7; have v8 := vO.c8; have v9 := vO.c9; have v10 := vO.c10; have v11 := vO.c11; have v12 := vO.c12
        clear vO
        first | (go_simp; done) | (go_simp; with_reducible rfl)
      (try simp only [Act.put])
      refine AnyC.take (i := 11) (v := ?_) rfl (by kernel_rfl) (by kernel_rfl) (by kernel_rfl) (by kernel_rfl) (fun _ _ _ h => h) (Or.inl ⟨by rfl, ?_⟩) HSS ?_
      rotate_left
      · intro W hSw
        obtain ⟨s1, s2⟩ := hSw
        have kO := s1
        have kfA := kO.f; have k0 := kO.c0; have k1 := kO.c1; have k2 := kO.c2; have k3 := kO.c3; have k4 := kO.c4; have k5 := kO.c5; have k6 := kO.c6
        clear kO
        have vO := s2
        have vfA := vO.f; have v0 := vO.c0; have v1 := vO.c1; have v2 := vO.c2; have v3 := vO.c3; have v4 := vO.c4; have v5 := vO.c5; have v6 := vO.c6; have v7 := vO.c7; have v8 := vO.c8; have v9 := vO.c9; have v10 := vO.c10; have v11 := vO.c11; have v12 := vO.c12
        clear vO
        first | (go_simp; done) | (go_simp; with_reducible rfl)
      (try simp only [Act.put])
      refine AnyC.one (i := 12) (by kernel_rfl) (by rfl) (fun K hK => ?_)
      have hp := HPUT.out
      go_simp
      refine hK.out _ _ (fun h => absurd rfl h) ?_
      clear hK K HSS hp
      (try simp only [Act.put])
      refine AnyC.done (by kernel_rfl) ?_ _
      go_wp2_with fail
      go_meet
      rfl
    case rest =>
      subst hcut
      obtain ⟨hszP, hosP, htapeP, houtP⟩ := HPW.out
      obtain ⟨i0, hi, hz0, hz1, hz2⟩ := info_parts info_custs
      have oK6 : Own wc kb [.slice va cs.length vc, tv, I t.f, I t.b, I t.d, I t.al, .map (some mb)] := by
        obtain ⟨cur, e, h1, h2⟩ := HKA.out
        exact ⟨cur, e, (HO.out kb (fun e => hne e.symm)).trans h1, h2⟩
      have oA6 : Own wc w4.heap.size [I X1, I X2, I X3, I X4, I X5, I X6, .slice ua 0 uc] := by
        obtain ⟨cur, e, h1, h2⟩ := HOA.out
        exact ⟨cur, e, (HO.out w4.heap.size (by omega)).trans h1, h2⟩
      have HB6 := Lib.hid (HB4.out.lowH hmb hszP HO.out)
      have HU6 := Lib.hid (sl_heap HU4.out (W' := wc) (Nat.le_of_eq hszP.symm) fun _ _ _ _ hp => absurd hp (by simp))
      have KW6 : Hid (Below A w wc) := ⟨hosP.trans KA.out.os, htapeP.trans KA.out.tape, houtP.trans KA.out.output, by rw [hszP]; exact KA.out.size, fun z hz => (HO.out z (by omega)).trans (KA.out.block z (by omega))⟩
      have hs6 : w4.heap.size + 1 ≤ wc.heap.size := by rw [hszP]; simp
      have hk6 : kb < wc.heap.size := by omega
      have ra6 : ∀ (o : Obj) (g j : Nat), g < wc.heap.size → (wc.alloc o).cell? ⟨g, j, none⟩ = wc.cell? ⟨g, j, none⟩ := fun o g j h => (boxed_below wc o).cell (p := ⟨g, j, none⟩) h
      have ha6 : w4.heap.size < wc.heap.size := by omega
      have HK6 := Lib.hid oK6
      have hge := Lib.hid HB6.out.ge
      clear hszP hosP htapeP houtP ra
      have kO := oK6
      have kfA := kO.f; have k0 := kO.c0; have k1 := kO.c1; have k2 := kO.c2; have k3 := kO.c3; have k4 := kO.c4; have k5 := kO.c5; have k6 := kO.c6
      clear kO
      have aO := oA6
      have afA := aO.f; have a0 := aO.c0; have a1 := aO.c1; have a2 := aO.c2; have a3 := aO.c3; have a4 := aO.c4; have a5 := aO.c5; have a6 := aO.c6
      clear aO
      clear oK6 oA6
      go_upto_region 7 with fail
      go_region_law
        (first
          | (
             refine step_append_lies _ (by rfl) _ _ _ (by rfl) B 84 i0 (.agg #[.int .i64 0, .int .i64 0, .int .i64 0, .int .i64 0, .int .i64 0, .int .i64 0, .slice none 0 0, .slice none 0 0]) 8 96 Try.underlying27 hi hz0 hz1 hz2 rfl (by decide) (.slice va cs.length vc) cs.length (ys.flatMap ACust.cells) (by rfl) (owns_below HB6.out.2.1 below_autor) ⟨wc.heap.size, 0, none⟩ 1 1 [I X1, I X2, I X3, I X4, I X5, I X6, .slice ua 0 uc, .slice none 0 0] (by rfl) (by rfl) (news_lit _ _ _) (oneCells_lit rfl) (by omega) (by unfold maxLen; omega) (by omega) (by first | omega | (simp; done) | (simp; omega)) _ rfl ?_
             intro g cap w6 hown' hgrow hat hlt1
             have hG := grown_pre (W := wc) hgrow below_autor
             obtain ⟨zs, hB7⟩ := book_new (X := ⟨X1, X2, X3, X4, X5, X6⟩) HB6.out HU6.out below_autor hown' hgrow hat
             have oK7 := HK6.out.grown hG (fun e => by have := (hge.out _ e.symm).1; omega)
             have hM7 := HM'.out.heap (w' := w6) (hG.block mb HM'.out.lt (fun e => by have := (hge.out _ e.symm).1; omega))
             have hKS : Hid (KState (w6.setCell ⟨kb, 0, none⟩ (.slice (some ⟨g, 0, none⟩) (cs.length + 1) cap)) B kb mb t tv (evC t cs ⟨1, me, mo, ⟨id, te, de, fe, pr, ch, un⟩, ta, ⟨ow, bp⟩⟩)) := by
               unfold Hid KState
               rw [h6.out]
               refine ⟨_, zs, oK7.set 0 _, ?_, hB7.low hkb 0 _⟩
               rw [List.map_append]
               have e1 : ([(⟨⟨X1, X2, X3, X4, X5, X6⟩, [], []⟩ : PCust)].map fun c => c.acc.meter) = [me] := by
                 have := HX.out
                 (try simp only at this)
                 simp [this]
               rw [e1]
               exact hM7.heap (by simp [World.setCell, Array.getElem?_modify, show ¬ kb = mb by omega])
             have hBl : Hid (Below A w (w6.setCell ⟨kb, 0, none⟩ (.slice (some ⟨g, 0, none⟩) (cs.length + 1) cap))) := by
               have h1 := Below.grown (B := A) KW6.out hG (by have := KW6.out.size; omega) (fun z hz => by have := (hge.out _ hz).1; omega)
               exact h1.setCell (p := ⟨kb, 0, none⟩) hA1 _
             have bO := oK7
             have bfA := bO.f; have b0 := bO.c0; have b1 := bO.c1; have b2 := bO.c2; have b3 := bO.c3; have b4 := bO.c4; have b5 := bO.c5; have b6 := bO.c6
             clear bO
             clear hown' hgrow hat hG hB7 oK7 hM7)
          | fail)
      all_goals
        go_wp2
        exact bodyPost_ret (results_none rfl _ _ _) rfl (KeepP.yes h5.out hKS.out hBl.out)
end Go.Proofs.Ytenoigmkhlnfoaa
