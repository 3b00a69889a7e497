/- the clerk's roll -/
import Derived.Test.YtenoigmkhlnfoaaPk11
namespace Go.Proofs.Ytenoigmkhlnfoaa
set_option linter.unusedSimpArgs false
set_option linter.unusedVariables false
open Go.RowKit
set_option maxRecDepth 20000

def rollE (x : AAcc) (m : Int) : Int := if inB m 0 2399 then (if m < x.month then 23 else 0) else 2
def rollX (x : AAcc) (m : Int) : AAcc := ⟨x.meter, x.rev, x.next, m, if m = x.month then x.bought else 0, x.free⟩
def rollL (x : AAcc) (xs : List ADebt) (m : Int) : List ADebt := if m = x.month then xs else ageL xs (m - x.month)
theorem rollE_zero {x : AAcc} {m : Int} (h : rollE x m = 0) : 0 ≤ m ∧ m ≤ 2399 ∧ x.month ≤ m := by
  unfold rollE at h
  split at h
  · rename_i h1
    rw [inB_true] at h1
    split at h
    · omega
    · omega
  · omega
theorem accMay_debt {x : AAcc} {xs : List ADebt} (h : accMay x xs = true) : debtE xs = 0 := by
  simp only [accMay, Bool.and_eq_true] at h
  first | exact h.1.1.1.1.1.1 | (simp_all)
def GrewRoll (g : Nat) (x : AAcc) (xs : List ADebt) (m : Int) (u tv : Value) (f b d al : Int) (w : World) (e : Ending) (w' : World) : Prop :=
  ∃ v, e = .returned (I 0) ∧ Own w' g (clerkC (rollX x m) v tv f b d al) ∧ Sl w' v 2 (rollL x xs m).length ((rollL x xs m).flatMap ADebt.cells) ∧ Far g v ∧ (∀ B, B ≤ w.heap.size → FarB B u → FarB B v) ∧ Chg g w w'
set_option maxHeartbeats 2000000 in
theorem roll_bad (g : Nat) (x : AAcc) (v tv : Value) (f b d al m : Int) (w : World) (hO : Own w g (clerkC x v tv f b d al)) (hE : rollE x m ≠ 0) :
    Calls Try.prog 108 #[.pointer (some ⟨g, 0, none⟩), I m] w (Grew (I (rollE x m)) w) := by
  have HEE := Lib.hid (show rollE x m = if inB m 0 2399 then (if m < x.month then 23 else 0) else 2 from rfl)
  generalize rollE x m = E at *
  obtain ⟨x1, x2, x3, x4, x5, x6⟩ := x
  have hO' : Own w g [I x1, I x2, I x3, I x4, I x5, I x6, v, tv, I f, I b, I d, I al] := hO
  clear hO
  have cO := hO'
  obtain ⟨⟨c0, cf0⟩, ⟨c1, cf1⟩, ⟨c2, cf2⟩, ⟨c3, cf3⟩, ⟨c4, cf4⟩, ⟨c5, cf5⟩, ⟨c6, cf6⟩, ⟨c7, cf7⟩, ⟨c8, cf8⟩, ⟨c9, cf9⟩, ⟨c10, cf10⟩, ⟨c11, cf11⟩, -⟩ := cO.a12
  simp only [Nat.zero_add, List.getD_cons_zero, List.getD_cons_succ] at c0 c1 c2 c3 c4 c5 c6 c7 c8 c9 c10 c11
  clear cO
  simp only at HEE
  cases hi : inB m 0 2399
  · have hr := HEE.out
    simp only [hi, Bool.false_eq_true, if_false] at hr
    subst hr
    clear HEE hE hO'
    go_enter Try.func108, Try.ntmps108
    go_wp2_with (go_at_call 58; refine (awithin_any _ _ _ _).mono ?_; rintro e w' ⟨rfl, rfl⟩)
    go_ret
    exact Grew.intro rfl (by repeat first | exact Below.refl _ _ | assumption | refine drewN_below ?_ _ | refine Below.alloc ?_ (by first | exact Nat.le_refl _ | exact Below.size (by assumption) | (simp; done) | (simp; omega) | omega) _ | refine Below.setCell ?_ (by first | exact Nat.le_refl _ | (simp; done) | (simp; omega) | omega) _)
  · have hr := HEE.out
    simp only [hi, if_true] at hr
    have hlt : m < x4 := by
      refine Decidable.byContradiction fun h => hE ?_
      rw [hr, if_neg h]
    rw [if_pos hlt] at hr
    subst hr
    clear HEE hE hO'
    go_enter Try.func108, Try.ntmps108
    go_wp2_with (go_at_call 58; refine (awithin_any _ _ _ _).mono ?_; rintro e w' ⟨rfl, rfl⟩)
    go_ret
    exact Grew.intro rfl (by repeat first | exact Below.refl _ _ | assumption | refine drewN_below ?_ _ | refine Below.alloc ?_ (by first | exact Nat.le_refl _ | exact Below.size (by assumption) | (simp; done) | (simp; omega) | omega) _ | refine Below.setCell ?_ (by first | exact Nat.le_refl _ | (simp; done) | (simp; omega) | omega) _)
set_option maxHeartbeats 4000000 in
theorem roll_good (g : Nat) (x : AAcc) (v tv : Value) (xs : List ADebt) (f b d al m : Int) (w : World) (hO : Own w g (clerkC x v tv f b d al)) (hS : Sl w v 2 xs.length (xs.flatMap ADebt.cells)) (hF : Far g v) (hmay : accMay x xs = true) (hE : rollE x m = 0) :
    Calls Try.prog 108 #[.pointer (some ⟨g, 0, none⟩), I m] w (GrewRoll g x xs m v tv f b d al w) := by
  obtain ⟨m0, m1, m2⟩ := rollE_zero hE
  have hdebt := accMay_debt hmay
  obtain ⟨-, -, -, -, -, -, b7, b8, -⟩ := accMay_bd hmay
  have hi : inB m 0 2399 = true := inB_true.2 ⟨m0, m1⟩
  clear hE hmay
  obtain ⟨x1, x2, x3, x4, x5, x6⟩ := x
  simp only at m2 b7 b8
  have hO' : Own w g [I x1, I x2, I x3, I x4, I x5, I x6, v, tv, I f, I b, I d, I al] := hO
  by_cases hmm : m = x4
  · subst hmm
    have e1 : rollX ⟨x1, x2, x3, m, x5, x6⟩ m = ⟨x1, x2, x3, m, x5, x6⟩ := by simp [rollX]
    have e2 : rollL ⟨x1, x2, x3, m, x5, x6⟩ xs m = xs := by simp [rollL]
    have hfin : Hid (∀ q, GrewRoll g ⟨x1, x2, x3, m, x5, x6⟩ xs m v tv f b d al w (.returned (I 0)) (w.drewN q)) := fun q => by
      unfold GrewRoll
      rw [e1, e2]
      exact ⟨v, rfl, hO.drewN q, hS, hF, fun _ _ h => h, (Chg.refl g w).drewN q⟩
    have cO := hO'
    obtain ⟨⟨c0, cf0⟩, ⟨c1, cf1⟩, ⟨c2, cf2⟩, ⟨c3, cf3⟩, ⟨c4, cf4⟩, ⟨c5, cf5⟩, ⟨c6, cf6⟩, ⟨c7, cf7⟩, ⟨c8, cf8⟩, ⟨c9, cf9⟩, ⟨c10, cf10⟩, ⟨c11, cf11⟩, -⟩ := cO.a12
    simp only [Nat.zero_add, List.getD_cons_zero, List.getD_cons_succ] at c0 c1 c2 c3 c4 c5 c6 c7 c8 c9 c10 c11
    clear cO
    clear e1 e2 hO hO' hS hF
    have hge : ¬ m < m := by omega
    go_enter Try.func108, Try.ntmps108
    go_wp2_with (go_at_call 58; refine (awithin_any _ _ _ _).mono ?_; rintro e w' ⟨rfl, rfl⟩)
    go_ret
    exact hfin.out 0
  · have hlt : x4 < m := by omega
    have hge : ¬ m < x4 := by omega
    have hA0 : ageE xs (m - x4) = 0 := by
      unfold ageE
      rw [if_pos hdebt, if_pos (inB_true.2 ⟨by omega, by omega⟩)]
    have e1 : rollX ⟨x1, x2, x3, x4, x5, x6⟩ m = ⟨x1, x2, x3, m, 0, x6⟩ := by simp [rollX, hmm]
    have e2 : rollL ⟨x1, x2, x3, x4, x5, x6⟩ xs m = ageL xs (m - x4) := by simp [rollL, hmm]
    have hgl := hO'.lt
    have A := Lib.hid (fun W hW => AgeF_any v xs (m - x4) W hW)
    rw [hA0] at A
    have hwr : IntKind.i64.wrap (m - x4) = m - x4 := wrap_small _ (by omega) (by omega)
    have HS := Lib.hid hS
    have HE12 := Lib.hid (And.intro e1 e2)
    generalize ageL xs (m - x4) = ys at *
    obtain ⟨a, cap, rfl, -⟩ := hS
    have cO := hO'
    obtain ⟨⟨c0, cf0⟩, ⟨c1, cf1⟩, ⟨c2, cf2⟩, ⟨c3, cf3⟩, ⟨c4, cf4⟩, ⟨c5, cf5⟩, ⟨c6, cf6⟩, ⟨c7, cf7⟩, ⟨c8, cf8⟩, ⟨c9, cf9⟩, ⟨c10, cf10⟩, ⟨c11, cf11⟩, -⟩ := cO.a12
    simp only [Nat.zero_add, List.getD_cons_zero, List.getD_cons_succ] at c0 c1 c2 c3 c4 c5 c6 c7 c8 c9 c10 c11
    clear cO
    have HO := Lib.hid hO'
    clear hA0 hO hO' hF hdebt e1 e2 c0 c1 c2 c4 c5 c7 c8 c9 c10 c11 cf0 cf1 cf2 cf3 cf4 cf5 cf6 cf7 cf8 cf9 cf10 cf11
    go_enter Try.func108, Try.ntmps108
    go_wp2_with (go_at_call 58; refine (awithin_any _ _ _ _).mono ?_; rintro e w' ⟨rfl, rfl⟩)
    refine AnyC.begin 20 (fun w' => w'.cell? ⟨g, 3, none⟩ = some (I x4) ∧ w'.cell? ⟨g, 6, none⟩ = some (.slice a xs.length cap)) (by kernel_rfl) ?_
    have HH : (fun w' => w'.cell? ⟨g, 3, none⟩ = some (I x4) ∧ w'.cell? ⟨g, 6, none⟩ = some (.slice a xs.length cap)) w.drew := ⟨c3, c6⟩
    refine AnyC.take (i := 0) (v := ?_) rfl (by kernel_rfl) (by kernel_rfl) (by kernel_rfl) (by kernel_rfl) (fun _ _ _ h => h) (Or.inl ⟨by rfl, ?_⟩) HH ?_
    rotate_left
    · (intro w hSw; (try dsimp only at hSw); first | (go_simp; done) | (go_simp; with_reducible rfl))
    (try simp only [Act.put, List.setIfInBounds_toArray])
    refine AnyC.take (i := 1) (v := ?_) rfl (by kernel_rfl) (by kernel_rfl) (by kernel_rfl) (by kernel_rfl) (fun _ _ _ h => h) (Or.inl ⟨by rfl, ?_⟩) HH ?_
    rotate_left
    · (intro w hSw; (try dsimp only at hSw); first | (go_simp; done) | (go_simp; with_reducible rfl))
    (try simp only [Act.put])
    refine AnyC.take (i := 2) (v := ?_) rfl (by kernel_rfl) (by kernel_rfl) (by kernel_rfl) (by kernel_rfl) (fun _ _ _ h => h) (Or.inl ⟨by rfl, ?_⟩) HH ?_
    rotate_left
    · (intro w hSw; (try dsimp only at hSw); first | (go_simp; done) | (go_simp; with_reducible rfl))
    (try simp only [Act.put])
    refine AnyC.take (i := 3) (v := ?_) rfl (by kernel_rfl) (by kernel_rfl) (by kernel_rfl) (by kernel_rfl) (fun _ _ _ h => h) (Or.inl ⟨by rfl, ?_⟩) HH ?_
    rotate_left
    · (intro w hSw; (try dsimp only at hSw); first | (go_simp; done) | (go_simp; with_reducible rfl))
    (try simp only [Act.put])
    refine AnyC.take (i := 4) (v := ?_) rfl (by kernel_rfl) (by kernel_rfl) (by kernel_rfl) (by kernel_rfl) (fun _ _ _ h => h) (Or.inl ⟨by rfl, ?_⟩) HH ?_
    rotate_left
    · (intro w hSw; (try dsimp only at hSw); first | (go_simp; done) | (go_simp; with_reducible rfl))
    (try simp only [Act.put])
    refine AnyC.take (i := 5) (v := ?_) rfl (by kernel_rfl) (by kernel_rfl) (by kernel_rfl) (by kernel_rfl) (fun _ _ _ h => h) (Or.inl ⟨by rfl, ?_⟩) HH ?_
    rotate_left
    · (intro w hSw; (try dsimp only at hSw); first | (go_simp; done) | (go_simp; with_reducible rfl))
    (try simp only [Act.put])
    refine AnyC.take (i := 6) (v := ?_) rfl (by kernel_rfl) (by kernel_rfl) (by kernel_rfl) (by kernel_rfl) (fun _ _ _ h => h) (Or.inl ⟨by rfl, ?_⟩) HH ?_
    rotate_left
    · (intro w hSw; (try dsimp only at hSw); first | (go_simp; done) | (go_simp; with_reducible rfl))
    (try simp only [Act.put])
    refine AnyC.take (i := 7) (v := ?_) rfl (by kernel_rfl) (by kernel_rfl) (by kernel_rfl) (by kernel_rfl) (fun _ _ _ h => h) (Or.inl ⟨by rfl, ?_⟩) HH ?_
    rotate_left
    · (intro w hSw; (try dsimp only at hSw); first | (go_simp; done) | (go_simp; with_reducible rfl))
    (try simp only [Act.put])
    refine AnyC.take (i := 8) (v := ?_) rfl (by kernel_rfl) (by kernel_rfl) (by kernel_rfl) (by kernel_rfl) (fun _ _ _ h => h) (Or.inl ⟨by rfl, ?_⟩) HH ?_
    rotate_left
    · (intro w hSw; (try dsimp only at hSw); first | (go_simp; done) | (go_simp; with_reducible rfl))
    (try simp only [Act.put])
    refine AnyC.take (i := 9) (v := ?_) rfl (by kernel_rfl) (by kernel_rfl) (by kernel_rfl) (by kernel_rfl) (fun _ _ _ h => h) (Or.inl ⟨by rfl, ?_⟩) HH ?_
    rotate_left
    · (intro w hSw; (try dsimp only at hSw); first | (go_simp; done) | (go_simp; with_reducible rfl))
    (try simp only [Act.put])
    refine AnyC.take (i := 10) (v := ?_) rfl (by kernel_rfl) (by kernel_rfl) (by kernel_rfl) (by kernel_rfl) (fun _ _ _ h => h) (Or.inl ⟨by rfl, ?_⟩) HH ?_
    rotate_left
    · (intro w hSw; (try dsimp only at hSw); first | (go_simp; done) | (go_simp; with_reducible rfl))
    (try simp only [Act.put])
    refine AnyC.take (i := 11) (v := ?_) rfl (by kernel_rfl) (by kernel_rfl) (by kernel_rfl) (by kernel_rfl) (fun _ _ _ h => h) (Or.inl ⟨by rfl, ?_⟩) HH ?_
    rotate_left
    · (intro w hSw; (try dsimp only at hSw); first | (go_simp; done) | (go_simp; with_reducible rfl))
    (try simp only [Act.put])
    refine AnyC.take (i := 12) (v := ?_) rfl (by kernel_rfl) (by kernel_rfl) (by kernel_rfl) (by kernel_rfl) (fun _ _ _ h => h) (Or.inl ⟨by rfl, ?_⟩) HH ?_
    rotate_left
    · (intro w hSw; (try dsimp only at hSw); first | (go_simp; done) | (go_simp; with_reducible rfl))
    (try simp only [Act.put])
    refine AnyC.one (i := 13) (by kernel_rfl) (by rfl) (fun K hK => ?_)
    go_simp
    (with_reducible refine (A.out _ ?_).mono ?_)
    · exact HS.out
    rintro e w1 ⟨v', rfl, h1, k1, hF1⟩
    have k1' : Below w.heap.size w w1 := ⟨k1.os, k1.tape, k1.output, k1.size, k1.block⟩
    have h1' := h1
    obtain ⟨a1, cap1, rfl, -⟩ := h1'
    have o1 := HO.out.below k1'
    have gx3 : w1.cell? ⟨g, 3, none⟩ = some (I x4) := (k1'.cell (p := ⟨g, 3, none⟩) hgl).trans c3
    have gx6 : w1.cell? ⟨g, 6, none⟩ = some (.slice a xs.length cap) := (k1'.cell (p := ⟨g, 6, none⟩) hgl).trans c6
    have gx4 : w1.cell? ⟨g, 4, none⟩ = some (I x5) := o1.cell 4 (by simp)
    have gf3 := o1.frozen 3
    have gf4 := o1.frozen 4
    have gf6 := o1.frozen 6
    have hFg : Far g (.slice a1 ys.length cap1) := hF1.far hgl
    have HR := Lib.hid (show GrewRoll g ⟨x1, x2, x3, x4, x5, x6⟩ xs m (.slice a xs.length cap) tv f b d al w (.returned (I 0)) (((w1.setCell ⟨g, 6, none⟩ (.slice a1 ys.length cap1)).setCell ⟨g, 3, none⟩ (I m)).setCell ⟨g, 4, none⟩ (I 0)) by
      unfold GrewRoll
      rw [HE12.out.1, HE12.out.2]
      exact ⟨_, rfl, ((o1.set 6 _).set 3 (I m)).set 4 (I 0), ((h1.set hFg _).set hFg _).set hFg _, hFg, (fun B hB _ a n c e => Nat.le_trans hB (hF1 a n c e)), (((Chg.of_below k1').set 6 _).set 3 (I m)).set 4 (I 0)⟩)
    go_wp2_with fail
    refine hK.out _ _ (fun _ _ => ⟨gx3, gx6⟩) ?_
    clear hK K
    (try simp only [Act.put])
    refine AnyC.one (i := 14) (by kernel_rfl) (by rfl) (fun K hK => ?_)
    go_simp
    refine hK.out _ _ (fun _ _ => ⟨gx3, gx6⟩) ?_
    clear hK K
    (try simp only [Act.put])
    have HH : (fun w' => w'.cell? ⟨g, 3, none⟩ = some (I x4) ∧ w'.cell? ⟨g, 6, none⟩ = some (.slice a xs.length cap)) w1 := ⟨gx3, gx6⟩
    refine AnyC.take (i := 15) (v := ?_) rfl (by kernel_rfl) (by kernel_rfl) (by kernel_rfl) (by kernel_rfl) (fun _ _ _ h => h) (Or.inl ⟨by rfl, ?_⟩) HH ?_
    rotate_left
    · (intro w hSw; (try dsimp only at hSw); first | (go_simp; done) | (go_simp; with_reducible rfl))
    (try simp only [Act.put])
    refine AnyC.take (i := 17) (v := ?_) rfl (by kernel_rfl) (by kernel_rfl) (by kernel_rfl) (by kernel_rfl) (fun _ _ _ h => h) (Or.inl ⟨by rfl, ?_⟩) HH ?_
    rotate_left
    · (intro w hSw; (try dsimp only at hSw); first | (go_simp; done) | (go_simp; with_reducible rfl))
    (try simp only [Act.put])
    refine AnyC.take (i := 18) (v := ?_) rfl (by kernel_rfl) (by kernel_rfl) (by kernel_rfl) (by kernel_rfl) (fun _ _ _ h => h) (Or.inl ⟨by rfl, ?_⟩) HH ?_
    rotate_left
    · (intro w hSw; (try dsimp only at hSw); first | (go_simp; done) | (go_simp; with_reducible rfl))
    (try simp only [Act.put])
    refine AnyC.take (i := 19) (v := ?_) rfl (by kernel_rfl) (by kernel_rfl) (by kernel_rfl) (by kernel_rfl) (fun _ _ _ h => h) (Or.inl ⟨by rfl, ?_⟩) HH ?_
    rotate_left
    · (intro w hSw; (try dsimp only at hSw); first | (go_simp; done) | (go_simp; with_reducible rfl))
    (try simp only [Act.put])
    have r1 := set_same
    have r2 := set_off
    refine AnyC.two (i := 16) (j := 20) (by kernel_rfl) (by rfl) (by rfl) (fun K hK => ?_) (fun K hK => ?_)
    · go_simp
      refine hK.out _ _ (fun _ _ => ⟨gx3, gx6⟩) ?_
      clear hK K
      (try simp only [Act.put])
      refine AnyC.one (i := 20) (by kernel_rfl) (by rfl) (fun K hK => ?_)
      go_simp
      refine hK.out _ _ (fun h => absurd rfl h) ?_
      clear hK K
      refine AnyC.done (by kernel_rfl) ?_ _
      clear HH gx6 c3 c6 h1 hF1 o1 k1 k1' hFg HO HS
      go_wp2
      go_ret
      exact HR.out
    · go_simp
      refine hK.out _ _ (fun h => absurd rfl h) ?_
      clear hK K
      (try simp only [Act.put])
      refine AnyC.one (i := 16) (by kernel_rfl) (by rfl) (fun K hK => ?_)
      go_simp
      refine hK.out _ _ (fun _ h => by simp at h) ?_
      clear hK K
      refine AnyC.done (by kernel_rfl) ?_ _
      clear HH gx6 c3 c6 h1 hF1 o1 k1 k1' hFg HO HS
      go_wp2
      go_ret
      exact HR.out
end Go.Proofs.Ytenoigmkhlnfoaa
