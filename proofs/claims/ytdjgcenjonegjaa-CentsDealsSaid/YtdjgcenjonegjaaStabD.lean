/- symMerge in general: the search, the rotation, and the two halves by the law itself -/
import Derived.Test.YtdjgcenjonegjaaStabC
import Derived.Deep.DeepCutAuto
namespace Go.Proofs.Ytdjgcenjonegjaa
open Go.RowKit Go.Shelf Go.Lib Go.Sort
set_option maxRecDepth 20000
variable {α : Type} [Inhabited α]

/- the test 'cmp(d[$1], d[$2]) < 0' at the naturals $1, $2, as integers $3, $4; the row's fact $5 at the world $6; hv: what it tells; the new fact is S2 at w2 -/


/-- symMerge's law at every stretch shorter than K -/
def SymP (v : α → Int) (g : Nat) (cb : Array Value) (RR E : α → α → Prop) (blk off n : Nat) (w0 : World) (cap K : Nat) : Prop :=
  ∀ (a m b : Nat) (d : Array α) (w : World), d.size = n → SW (fun x => Value.int .i64 (v x)) w0 blk off d w → a < m → m < b → b ≤ n → b - a < K → Srt RR d a m → Srt RR d m b → Crs E d a m b → ∀ (ai mi bi : Int), ai = a → mi = m → bi = b →
    Calls Try.prog 15 #[.slice (some ⟨blk, off, none⟩) n cap, .int .i64 ai, .int .i64 mi, .int .i64 bi, .func (.func g) #[] cb] w fun e w' => e = .returned (.tuple #[]) ∧ ∃ d', Mrg RR d d' a b ∧ SW (fun x => Value.int .i64 (v x)) w0 blk off d' w'

set_option maxHeartbeats 8000000 in
theorem symHi_any {v : α → Int} {g : Nat} {cb : Array Value} {cf : α → α → Int} {RR E : α → α → Prop} {blk off n : Nat} {d0 : Array α} {w0 : World} (H : Stb v g cb cf RR E blk off n d0 w0) (cap a m b mid : Nat) (d : Array α) (w : World) (IH : SymP v g cb RR E blk off n w0 cap (b - a))
    (hs : d.size = n) (S : SW (fun x => Value.int .i64 (v x)) w0 blk off d w) (ham : a + 1 < m) (hmb : m + 1 < b) (hb : b ≤ n) (hL : Srt RR d a m) (hR : Srt RR d m b) (hE : Crs E d a m b) (hmid : mid = (a + b) / 2) (hcase : mid < m) :
    Calls Try.prog 15 #[.slice (some ⟨blk, off, none⟩) n cap, .int .i64 a, .int .i64 m, .int .i64 b, .func (.func g) #[] cb] w fun e w' => e = .returned (.tuple #[]) ∧ ∃ d', Mrg RR d d' a b ∧ SW (fun x => Value.int .i64 (v x)) w0 blk off d' w' := by
  have mixed : Try.prog.follows .mixedOrders = true := by kernel_rfl
  have R := H.R
  have eg := H.eg
  have hsz := H.sz
  have hbig := H.big
  have HC := Lib.hid H.cmp
  have hlt := Lib.hid (fun t (t1 : a ≤ t) (t2 : t < m) u (u1 : m ≤ u) (u2 : u < b) => H.lt d[t]! d[u]! (hE t u t1 t2 u1 u2))
  have hge := Lib.hid (fun t (t1 : a ≤ t) (t2 : t < m) u (u1 : m ≤ u) (u2 : u < b) => H.ge d[t]! d[u]! (hE t u t1 t2 u1 u2))
  have HL0 := Lib.hid hL
  have HR0 := Lib.hid hR
  have HE0 := Lib.hid hE
  have TR := Lib.hid H.tr
  have HI := Lib.hid IH
  have S0 : Aside _ := S
  obtain ⟨s0, hs0⟩ : ∃ z : Nat, z = mid + m - b := ⟨_, rfl⟩
  obtain ⟨r0, hr0⟩ : ∃ z : Nat, z = mid := ⟨_, rfl⟩
  have f1 : a ≤ s0 := by omega
  have f2 : s0 ≤ r0 := by omega
  have f3 : r0 ≤ m := by omega
  have f4 : r0 ≤ mid := by omega
  have f5 : mid + m ≤ b + s0 := by omega
  have f6 : s0 = a ∨ mid + m = b + s0 := by omega
  have f7 : r0 = m ∨ r0 = mid := by omega
  have f8 : a < mid := by omega
  have f9 : mid < b := by omega
  have em : ((a : Int) + (b : Int)) / 2 = (mid : Int) := by omega
  have hm' : (mid : Int) < (m : Int) := by omega
  have Hs0 := Lib.hid hs0
  have Hr0 := Lib.hid hr0
  clear S hE hL hR H IH hmid hcase hr0 hs0
  have c1 : ((m : Int) - (a : Int) == 1) = false := by simp; omega
  have c2 : ¬ (m : Int) - (a : Int) = 1 := by omega
  have c3 : ((b : Int) - (m : Int) == 1) = false := by simp; omega
  have c4 : ¬ (b : Int) - (m : Int) = 1 := by omega
  go_enter Try.func15, Try.ntmps15
  go_wp2
  go_loopg [20, 21] (r0 - s0) (fun kx s10 s11 wr => ∃ (s r : Nat), s10 = .int .i64 s ∧ s11 = .int .i64 r ∧ s0 ≤ s ∧ s ≤ r ∧ r ≤ r0 ∧ r - s ≤ kx ∧ Hid (s = s0 ∨ RR d[s - 1]! d[mid + m - s]!) ∧ Hid (r = r0 ∨ RR d[mid + m - 1 - r]! d[r]!) ∧ Aside (SW (fun x => Value.int .i64 (v x)) w0 blk off d wr))
  case atStart => exact ⟨s0, r0, by congr 1; have := Hs0.out; omega, by congr 1; have := Hr0.out; omega, Nat.le_refl _, f2, Nat.le_refl _, Nat.le_refl _, Or.inl rfl, Or.inl rfl, S0⟩
  case round =>
    clear S0 Hs0 Hr0 em c1 c2 c3 c4
    obtain ⟨s, r, rfl, rfl, ss, sr, rr, hk, lo, hi, S1⟩ := hrel
    by_cases hl : s < r
    · have hlz : (s : Int) < (r : Int) := by omega
      obtain ⟨h1, h2⟩ := half_bd hl
      obtain ⟨c, eh⟩ : ∃ c : Nat, c = (s + r) / 2 := ⟨_, rfl⟩
      have ez : ((s : Int) + (r : Int)) / 2 = (c : Int) := by omega
      rw [← eh] at h1 h2
      clear eh
      obtain ⟨t, et⟩ : ∃ t : Nat, mid + m - 1 - c = t := ⟨_, rfl⟩
      have tz : (mid : Int) + (m : Int) - 1 - (c : Int) = (t : Int) := by omega
      have tw : IntKind.i64.wrap ((mid : Int) + (m : Int) - 1 - (c : Int)) = (t : Int) := by rw [IntKind.wrap_i64]; omega
      by_cases hv : cf d[t]! d[c]! < 0
      · have HL := Lib.hid (hlt.out c (by omega) (by omega) t (by omega) (by omega) hv)
        clear hlt hge
        have la : ∀ n os, (grow (wr.drewN n) os).cell? ⟨blk, off + t, none⟩ = some (.int .i64 (v d[t]!)) := S1.out.cl R (by omega) (t) (by omega)
        have lb : ∀ n os, (grow (wr.drewN n) os).cell? ⟨blk, off + c, none⟩ = some (.int .i64 (v d[c]!)) := S1.out.cl R (by omega) (c) (by omega)
        have hc := S1.out.cmp HC.out (by omega) d[t]! d[c]!
        have ea : (((t : Int) : Int)).toNat = t := by omega
        have pa : (0 : Int) ≤ (t : Int) := by omega
        have ba : ((t : Int) : Int) < (n : Int) := by omega
        have ra : IntKind.i64.wrap ((t : Int)) = (t : Int) := by rw [IntKind.wrap_i64]; omega
        have eb : (((c : Int) : Int)).toNat = c := by omega
        have pb : (0 : Int) ≤ (c : Int) := by omega
        have bb : ((c : Int) : Int) < (n : Int) := by omega
        have rb : IntKind.i64.wrap ((c : Int)) = (c : Int) := by rw [IntKind.wrap_i64]; omega
        generalize d[t]! = xa at hc hv la lb
        generalize d[c]! = xb at hc hv la lb
        have hd := decide_eq_true hv
        go_wp2_with fail
        go_quiet_grown (first | (go_at_fn g; refine Calls.grown_of (hc _ _)))
        have S2 : Aside (SW (fun x => Value.int .i64 (v x)) w0 blk off d (grow (wr.drewN nq) osq)) := S1.out.grown nq osq
        clear la lb hc S1
        generalize grow (wr.drewN nq) osq = w2 at S2 ⊢
        clear nq osq ea eb pa pb ba bb ra rb
        go_wp2
        go_roundg (c - s)
        case measure => omega
        case rel => exact ⟨s, c, rfl, rfl, ss, h1, by omega, Nat.le_refl _, lo, Or.inr (by rw [et]; exact HL.out), S2⟩
      · have HL := Lib.hid (hge.out c (by omega) (by omega) t (by omega) (by omega) (by omega))
        clear hlt hge
        have la : ∀ n os, (grow (wr.drewN n) os).cell? ⟨blk, off + t, none⟩ = some (.int .i64 (v d[t]!)) := S1.out.cl R (by omega) (t) (by omega)
        have lb : ∀ n os, (grow (wr.drewN n) os).cell? ⟨blk, off + c, none⟩ = some (.int .i64 (v d[c]!)) := S1.out.cl R (by omega) (c) (by omega)
        have hc := S1.out.cmp HC.out (by omega) d[t]! d[c]!
        have ea : (((t : Int) : Int)).toNat = t := by omega
        have pa : (0 : Int) ≤ (t : Int) := by omega
        have ba : ((t : Int) : Int) < (n : Int) := by omega
        have ra : IntKind.i64.wrap ((t : Int)) = (t : Int) := by rw [IntKind.wrap_i64]; omega
        have eb : (((c : Int) : Int)).toNat = c := by omega
        have pb : (0 : Int) ≤ (c : Int) := by omega
        have bb : ((c : Int) : Int) < (n : Int) := by omega
        have rb : IntKind.i64.wrap ((c : Int)) = (c : Int) := by rw [IntKind.wrap_i64]; omega
        generalize d[t]! = xa at hc hv la lb
        generalize d[c]! = xb at hc hv la lb
        have hd := decide_eq_false hv
        go_wp2_with fail
        go_quiet_grown (first | (go_at_fn g; refine Calls.grown_of (hc _ _)))
        have S2 : Aside (SW (fun x => Value.int .i64 (v x)) w0 blk off d (grow (wr.drewN nq) osq)) := S1.out.grown nq osq
        clear la lb hc S1
        generalize grow (wr.drewN nq) osq = w2 at S2 ⊢
        clear nq osq ea eb pa pb ba bb ra rb
        go_wp2
        go_roundg (r - (c + 1))
        case measure => omega
        case rel => exact ⟨c + 1, r, by go_num, rfl, by omega, by omega, rr, Nat.le_refl _, Or.inr (by rw [Nat.add_sub_cancel, show mid + m - (c + 1) = t by omega]; exact HL.out), hi, S2⟩
    · have e : s = r := by omega
      subst e
      clear hlt hge
      have hlz : ¬ (s : Int) < (s : Int) := by omega
      obtain ⟨en, een⟩ : ∃ z : Nat, mid + m - s = z := ⟨_, rfl⟩
      have ez : (mid : Int) + (m : Int) - (s : Int) = (en : Int) := by omega
      have HV0 := Lib.hid (fun d1 => halves (R := RR) (E := E) (d1 := d1) (mid := mid) (e := en) TR.out HL0.out HR0.out HE0.out (a := a) (m := m) (b := b) (s := s) (by omega) (by omega) (by omega) (by omega) (by omega)
        (by rcases lo.out with h | h
            · omega
            · rw [een] at h; exact Or.inr (Or.inr h))
        (by rcases hi.out with h | h
            · omega
            · rw [show mid + m - 1 - s = en - 1 by omega] at h; exact Or.inr (Or.inr h)))
      clear lo hi HL0 HR0 HE0
      have ew : IntKind.i64.wrap ((mid : Int) + (m : Int) - (s : Int)) = (en : Int) := by rw [IntKind.wrap_i64]; omega
      go_upto_region 39 with fail
      have HE := Lib.hid (show mid + m = en + s by omega)
      have e1 : en ≤ b := by omega
      have e2 : m ≤ en := by omega
      have e3 : s ≤ m := by omega
      clear ez ew een hlz
      by_cases hrot : s < m ∧ m < en
      · have g1 : (s : Int) < (m : Int) := by omega
        have g2 : (m : Int) < (en : Int) := by omega
        have C := Lib.hid (rotate_int v (.func (.func g) #[] cb) blk off cap s m en d0 d w0 wr R (by omega) S1.out hrot.1 hrot.2 (by omega) (by omega) n hs.symm s m en rfl rfl rfl)
        go_upto_region 41 with (go_at_call 16; refine C.out.mono ?_; rintro e w2 ⟨rfl, d1, hr, S1⟩; have S1 := Lib.hid S1; have HV := Lib.hid (HV0.out d1 hr); clear hr C)
        by_cases k1 : a < s
        · have k1z : (a : Int) < (s : Int) := by omega
          by_cases k2 : s < mid
          · have k2z : (s : Int) < (mid : Int) := by omega
            have C1 := Lib.hid (HI.out a s mid d1 w2 (HV.out.k.sz.trans hs) S1.out k1 k2 (by omega) (by omega) HV.out.s1 HV.out.s2 HV.out.c1 a s mid rfl rfl rfl)
            go_upto_region 43 with (go_at_call 15; refine C1.out.mono ?_; rintro e w3 ⟨rfl, d2, M1, S1⟩; have S1 := Lib.hid S1; have M1 := Lib.hid M1; clear C1)
            by_cases q1 : mid < en
            · have q1z : (mid : Int) < (en : Int) := by omega
              by_cases q2 : en < b
              · have q2z : (en : Int) < (b : Int) := by omega
                have C2 := Lib.hid (HI.out mid en b d2 w3 (M1.out.k.sz.trans (HV.out.k.sz.trans hs)) S1.out q1 q2 hb (by omega) (HV.out.s3.out M1.out.k (Or.inr (Nat.le_refl _))) (HV.out.s4.out M1.out.k (Or.inr (Nat.le_of_lt q1))) (HV.out.c2.out M1.out.k (Or.inr (Nat.le_refl _))) mid en b rfl rfl rfl)
                go_wp2_with (go_at_call 15; refine C2.out.mono ?_; rintro e w4 ⟨rfl, d3, M2, S2⟩; have S2 := Lib.hid S2; have M2 := Lib.hid M2; clear C2)
                go_end0
                exact ⟨rfl, d3, HV.out.done (Nat.le_of_lt f8) (Nat.le_of_lt f9) M1.out M2.out, S2.out⟩
              · have q2z : ¬ (en : Int) < (b : Int) := by omega
                go_wp2
                go_end0
                exact ⟨rfl, d2, HV.out.done (Nat.le_of_lt f8) (Nat.le_of_lt f9) M1.out (Mrg.none ((HV.out.s3.out M1.out.k (Or.inr (Nat.le_refl _))).of_ends (HV.out.s4.out M1.out.k (Or.inr (Nat.le_of_lt q1))) (by omega) (by omega) (by omega))), S1.out⟩
            · have q1z : ¬ (mid : Int) < (en : Int) := by omega
              have q0 : mid = en := by have := HE.out; omega
              go_wp2
              go_end0
              exact ⟨rfl, d2, HV.out.done (Nat.le_of_lt f8) (Nat.le_of_lt f9) M1.out (Mrg.none ((HV.out.s4.out M1.out.k (Or.inr (by omega))).part (by omega) (Nat.le_refl _))), S1.out⟩
          · have k2z : ¬ (s : Int) < (mid : Int) := by omega
            have M1 := Lib.hid (Mrg.none (HV.out.s1.of_ends HV.out.s2 (by omega) (by omega) (by omega)))
            go_upto_region 43 with fail
            by_cases q1 : mid < en
            · have q1z : (mid : Int) < (en : Int) := by omega
              by_cases q2 : en < b
              · have q2z : (en : Int) < (b : Int) := by omega
                have C2 := Lib.hid (HI.out mid en b d1 w2 (M1.out.k.sz.trans (HV.out.k.sz.trans hs)) S1.out q1 q2 hb (by omega) (HV.out.s3.out M1.out.k (Or.inr (Nat.le_refl _))) (HV.out.s4.out M1.out.k (Or.inr (Nat.le_of_lt q1))) (HV.out.c2.out M1.out.k (Or.inr (Nat.le_refl _))) mid en b rfl rfl rfl)
                go_wp2_with (go_at_call 15; refine C2.out.mono ?_; rintro e w4 ⟨rfl, d3, M2, S2⟩; have S2 := Lib.hid S2; have M2 := Lib.hid M2; clear C2)
                go_end0
                exact ⟨rfl, d3, HV.out.done (Nat.le_of_lt f8) (Nat.le_of_lt f9) M1.out M2.out, S2.out⟩
              · have q2z : ¬ (en : Int) < (b : Int) := by omega
                go_wp2
                go_end0
                exact ⟨rfl, d1, HV.out.done (Nat.le_of_lt f8) (Nat.le_of_lt f9) M1.out (Mrg.none ((HV.out.s3.out M1.out.k (Or.inr (Nat.le_refl _))).of_ends (HV.out.s4.out M1.out.k (Or.inr (Nat.le_of_lt q1))) (by omega) (by omega) (by omega))), S1.out⟩
            · have q1z : ¬ (mid : Int) < (en : Int) := by omega
              have q0 : mid = en := by have := HE.out; omega
              go_wp2
              go_end0
              exact ⟨rfl, d1, HV.out.done (Nat.le_of_lt f8) (Nat.le_of_lt f9) M1.out (Mrg.none ((HV.out.s4.out M1.out.k (Or.inr (by omega))).part (by omega) (Nat.le_refl _))), S1.out⟩
        · have k1z : ¬ (a : Int) < (s : Int) := by omega
          have M1 := Lib.hid (Mrg.none (HV.out.s1.of_ends HV.out.s2 (by omega) (by omega) (by have := HE.out; omega)))
          go_upto_region 43 with fail
          by_cases q1 : mid < en
          · have q1z : (mid : Int) < (en : Int) := by omega
            by_cases q2 : en < b
            · have q2z : (en : Int) < (b : Int) := by omega
              have C2 := Lib.hid (HI.out mid en b d1 w2 (M1.out.k.sz.trans (HV.out.k.sz.trans hs)) S1.out q1 q2 hb (by omega) (HV.out.s3.out M1.out.k (Or.inr (Nat.le_refl _))) (HV.out.s4.out M1.out.k (Or.inr (Nat.le_of_lt q1))) (HV.out.c2.out M1.out.k (Or.inr (Nat.le_refl _))) mid en b rfl rfl rfl)
              go_wp2_with (go_at_call 15; refine C2.out.mono ?_; rintro e w4 ⟨rfl, d3, M2, S2⟩; have S2 := Lib.hid S2; have M2 := Lib.hid M2; clear C2)
              go_end0
              exact ⟨rfl, d3, HV.out.done (Nat.le_of_lt f8) (Nat.le_of_lt f9) M1.out M2.out, S2.out⟩
            · have q2z : ¬ (en : Int) < (b : Int) := by omega
              go_wp2
              go_end0
              exact ⟨rfl, d1, HV.out.done (Nat.le_of_lt f8) (Nat.le_of_lt f9) M1.out (Mrg.none ((HV.out.s3.out M1.out.k (Or.inr (Nat.le_refl _))).of_ends (HV.out.s4.out M1.out.k (Or.inr (Nat.le_of_lt q1))) (by omega) (by omega) (by omega))), S1.out⟩
          · have q1z : ¬ (mid : Int) < (en : Int) := by omega
            have q0 : mid = en := by have := HE.out; omega
            go_wp2
            go_end0
            exact ⟨rfl, d1, HV.out.done (Nat.le_of_lt f8) (Nat.le_of_lt f9) M1.out (Mrg.none ((HV.out.s4.out M1.out.k (Or.inr (by omega))).part (by omega) (Nat.le_refl _))), S1.out⟩
      · have HV := Lib.hid (HV0.out d (Rot.none d s m en (by omega) (by omega) (by omega)))
        by_cases g1 : (s : Int) < (m : Int)
        · have g2 : ¬ (m : Int) < (en : Int) := by omega
          go_upto_region 41 with fail
          by_cases k1 : a < s
          · have k1z : (a : Int) < (s : Int) := by omega
            by_cases k2 : s < mid
            · have k2z : (s : Int) < (mid : Int) := by omega
              have C1 := Lib.hid (HI.out a s mid d wr (HV.out.k.sz.trans hs) S1.out k1 k2 (by omega) (by omega) HV.out.s1 HV.out.s2 HV.out.c1 a s mid rfl rfl rfl)
              go_upto_region 43 with (go_at_call 15; refine C1.out.mono ?_; rintro e w3 ⟨rfl, d2, M1, S1⟩; have S1 := Lib.hid S1; have M1 := Lib.hid M1; clear C1)
              by_cases q1 : mid < en
              · have q1z : (mid : Int) < (en : Int) := by omega
                by_cases q2 : en < b
                · have q2z : (en : Int) < (b : Int) := by omega
                  have C2 := Lib.hid (HI.out mid en b d2 w3 (M1.out.k.sz.trans (HV.out.k.sz.trans hs)) S1.out q1 q2 hb (by omega) (HV.out.s3.out M1.out.k (Or.inr (Nat.le_refl _))) (HV.out.s4.out M1.out.k (Or.inr (Nat.le_of_lt q1))) (HV.out.c2.out M1.out.k (Or.inr (Nat.le_refl _))) mid en b rfl rfl rfl)
                  go_wp2_with (go_at_call 15; refine C2.out.mono ?_; rintro e w4 ⟨rfl, d3, M2, S2⟩; have S2 := Lib.hid S2; have M2 := Lib.hid M2; clear C2)
                  go_end0
                  exact ⟨rfl, d3, HV.out.done (Nat.le_of_lt f8) (Nat.le_of_lt f9) M1.out M2.out, S2.out⟩
                · have q2z : ¬ (en : Int) < (b : Int) := by omega
                  go_wp2
                  go_end0
                  exact ⟨rfl, d2, HV.out.done (Nat.le_of_lt f8) (Nat.le_of_lt f9) M1.out (Mrg.none ((HV.out.s3.out M1.out.k (Or.inr (Nat.le_refl _))).of_ends (HV.out.s4.out M1.out.k (Or.inr (Nat.le_of_lt q1))) (by omega) (by omega) (by omega))), S1.out⟩
              · have q1z : ¬ (mid : Int) < (en : Int) := by omega
                have q0 : mid = en := by have := HE.out; omega
                go_wp2
                go_end0
                exact ⟨rfl, d2, HV.out.done (Nat.le_of_lt f8) (Nat.le_of_lt f9) M1.out (Mrg.none ((HV.out.s4.out M1.out.k (Or.inr (by omega))).part (by omega) (Nat.le_refl _))), S1.out⟩
            · have k2z : ¬ (s : Int) < (mid : Int) := by omega
              have M1 := Lib.hid (Mrg.none (HV.out.s1.of_ends HV.out.s2 (by omega) (by omega) (by omega)))
              go_upto_region 43 with fail
              by_cases q1 : mid < en
              · have q1z : (mid : Int) < (en : Int) := by omega
                by_cases q2 : en < b
                · have q2z : (en : Int) < (b : Int) := by omega
                  have C2 := Lib.hid (HI.out mid en b d wr (M1.out.k.sz.trans (HV.out.k.sz.trans hs)) S1.out q1 q2 hb (by omega) (HV.out.s3.out M1.out.k (Or.inr (Nat.le_refl _))) (HV.out.s4.out M1.out.k (Or.inr (Nat.le_of_lt q1))) (HV.out.c2.out M1.out.k (Or.inr (Nat.le_refl _))) mid en b rfl rfl rfl)
                  go_wp2_with (go_at_call 15; refine C2.out.mono ?_; rintro e w4 ⟨rfl, d3, M2, S2⟩; have S2 := Lib.hid S2; have M2 := Lib.hid M2; clear C2)
                  go_end0
                  exact ⟨rfl, d3, HV.out.done (Nat.le_of_lt f8) (Nat.le_of_lt f9) M1.out M2.out, S2.out⟩
                · have q2z : ¬ (en : Int) < (b : Int) := by omega
                  go_wp2
                  go_end0
                  exact ⟨rfl, d, HV.out.done (Nat.le_of_lt f8) (Nat.le_of_lt f9) M1.out (Mrg.none ((HV.out.s3.out M1.out.k (Or.inr (Nat.le_refl _))).of_ends (HV.out.s4.out M1.out.k (Or.inr (Nat.le_of_lt q1))) (by omega) (by omega) (by omega))), S1.out⟩
              · have q1z : ¬ (mid : Int) < (en : Int) := by omega
                have q0 : mid = en := by have := HE.out; omega
                go_wp2
                go_end0
                exact ⟨rfl, d, HV.out.done (Nat.le_of_lt f8) (Nat.le_of_lt f9) M1.out (Mrg.none ((HV.out.s4.out M1.out.k (Or.inr (by omega))).part (by omega) (Nat.le_refl _))), S1.out⟩
          · have k1z : ¬ (a : Int) < (s : Int) := by omega
            have M1 := Lib.hid (Mrg.none (HV.out.s1.of_ends HV.out.s2 (by omega) (by omega) (by have := HE.out; omega)))
            go_upto_region 43 with fail
            by_cases q1 : mid < en
            · have q1z : (mid : Int) < (en : Int) := by omega
              by_cases q2 : en < b
              · have q2z : (en : Int) < (b : Int) := by omega
                have C2 := Lib.hid (HI.out mid en b d wr (M1.out.k.sz.trans (HV.out.k.sz.trans hs)) S1.out q1 q2 hb (by omega) (HV.out.s3.out M1.out.k (Or.inr (Nat.le_refl _))) (HV.out.s4.out M1.out.k (Or.inr (Nat.le_of_lt q1))) (HV.out.c2.out M1.out.k (Or.inr (Nat.le_refl _))) mid en b rfl rfl rfl)
                go_wp2_with (go_at_call 15; refine C2.out.mono ?_; rintro e w4 ⟨rfl, d3, M2, S2⟩; have S2 := Lib.hid S2; have M2 := Lib.hid M2; clear C2)
                go_end0
                exact ⟨rfl, d3, HV.out.done (Nat.le_of_lt f8) (Nat.le_of_lt f9) M1.out M2.out, S2.out⟩
              · have q2z : ¬ (en : Int) < (b : Int) := by omega
                go_wp2
                go_end0
                exact ⟨rfl, d, HV.out.done (Nat.le_of_lt f8) (Nat.le_of_lt f9) M1.out (Mrg.none ((HV.out.s3.out M1.out.k (Or.inr (Nat.le_refl _))).of_ends (HV.out.s4.out M1.out.k (Or.inr (Nat.le_of_lt q1))) (by omega) (by omega) (by omega))), S1.out⟩
            · have q1z : ¬ (mid : Int) < (en : Int) := by omega
              have q0 : mid = en := by have := HE.out; omega
              go_wp2
              go_end0
              exact ⟨rfl, d, HV.out.done (Nat.le_of_lt f8) (Nat.le_of_lt f9) M1.out (Mrg.none ((HV.out.s4.out M1.out.k (Or.inr (by omega))).part (by omega) (Nat.le_refl _))), S1.out⟩
        · go_upto_region 41 with fail
          by_cases k1 : a < s
          · have k1z : (a : Int) < (s : Int) := by omega
            by_cases k2 : s < mid
            · have k2z : (s : Int) < (mid : Int) := by omega
              have C1 := Lib.hid (HI.out a s mid d wr (HV.out.k.sz.trans hs) S1.out k1 k2 (by omega) (by omega) HV.out.s1 HV.out.s2 HV.out.c1 a s mid rfl rfl rfl)
              go_upto_region 43 with (go_at_call 15; refine C1.out.mono ?_; rintro e w3 ⟨rfl, d2, M1, S1⟩; have S1 := Lib.hid S1; have M1 := Lib.hid M1; clear C1)
              by_cases q1 : mid < en
              · have q1z : (mid : Int) < (en : Int) := by omega
                by_cases q2 : en < b
                · have q2z : (en : Int) < (b : Int) := by omega
                  have C2 := Lib.hid (HI.out mid en b d2 w3 (M1.out.k.sz.trans (HV.out.k.sz.trans hs)) S1.out q1 q2 hb (by omega) (HV.out.s3.out M1.out.k (Or.inr (Nat.le_refl _))) (HV.out.s4.out M1.out.k (Or.inr (Nat.le_of_lt q1))) (HV.out.c2.out M1.out.k (Or.inr (Nat.le_refl _))) mid en b rfl rfl rfl)
                  go_wp2_with (go_at_call 15; refine C2.out.mono ?_; rintro e w4 ⟨rfl, d3, M2, S2⟩; have S2 := Lib.hid S2; have M2 := Lib.hid M2; clear C2)
                  go_end0
                  exact ⟨rfl, d3, HV.out.done (Nat.le_of_lt f8) (Nat.le_of_lt f9) M1.out M2.out, S2.out⟩
                · have q2z : ¬ (en : Int) < (b : Int) := by omega
                  go_wp2
                  go_end0
                  exact ⟨rfl, d2, HV.out.done (Nat.le_of_lt f8) (Nat.le_of_lt f9) M1.out (Mrg.none ((HV.out.s3.out M1.out.k (Or.inr (Nat.le_refl _))).of_ends (HV.out.s4.out M1.out.k (Or.inr (Nat.le_of_lt q1))) (by omega) (by omega) (by omega))), S1.out⟩
              · have q1z : ¬ (mid : Int) < (en : Int) := by omega
                have q0 : mid = en := by have := HE.out; omega
                go_wp2
                go_end0
                exact ⟨rfl, d2, HV.out.done (Nat.le_of_lt f8) (Nat.le_of_lt f9) M1.out (Mrg.none ((HV.out.s4.out M1.out.k (Or.inr (by omega))).part (by omega) (Nat.le_refl _))), S1.out⟩
            · have k2z : ¬ (s : Int) < (mid : Int) := by omega
              have M1 := Lib.hid (Mrg.none (HV.out.s1.of_ends HV.out.s2 (by omega) (by omega) (by omega)))
              go_upto_region 43 with fail
              by_cases q1 : mid < en
              · have q1z : (mid : Int) < (en : Int) := by omega
                by_cases q2 : en < b
                · have q2z : (en : Int) < (b : Int) := by omega
                  have C2 := Lib.hid (HI.out mid en b d wr (M1.out.k.sz.trans (HV.out.k.sz.trans hs)) S1.out q1 q2 hb (by omega) (HV.out.s3.out M1.out.k (Or.inr (Nat.le_refl _))) (HV.out.s4.out M1.out.k (Or.inr (Nat.le_of_lt q1))) (HV.out.c2.out M1.out.k (Or.inr (Nat.le_refl _))) mid en b rfl rfl rfl)
                  go_wp2_with (go_at_call 15; refine C2.out.mono ?_; rintro e w4 ⟨rfl, d3, M2, S2⟩; have S2 := Lib.hid S2; have M2 := Lib.hid M2; clear C2)
                  go_end0
                  exact ⟨rfl, d3, HV.out.done (Nat.le_of_lt f8) (Nat.le_of_lt f9) M1.out M2.out, S2.out⟩
                · have q2z : ¬ (en : Int) < (b : Int) := by omega
                  go_wp2
                  go_end0
                  exact ⟨rfl, d, HV.out.done (Nat.le_of_lt f8) (Nat.le_of_lt f9) M1.out (Mrg.none ((HV.out.s3.out M1.out.k (Or.inr (Nat.le_refl _))).of_ends (HV.out.s4.out M1.out.k (Or.inr (Nat.le_of_lt q1))) (by omega) (by omega) (by omega))), S1.out⟩
              · have q1z : ¬ (mid : Int) < (en : Int) := by omega
                have q0 : mid = en := by have := HE.out; omega
                go_wp2
                go_end0
                exact ⟨rfl, d, HV.out.done (Nat.le_of_lt f8) (Nat.le_of_lt f9) M1.out (Mrg.none ((HV.out.s4.out M1.out.k (Or.inr (by omega))).part (by omega) (Nat.le_refl _))), S1.out⟩
          · have k1z : ¬ (a : Int) < (s : Int) := by omega
            have M1 := Lib.hid (Mrg.none (HV.out.s1.of_ends HV.out.s2 (by omega) (by omega) (by have := HE.out; omega)))
            go_upto_region 43 with fail
            by_cases q1 : mid < en
            · have q1z : (mid : Int) < (en : Int) := by omega
              by_cases q2 : en < b
              · have q2z : (en : Int) < (b : Int) := by omega
                have C2 := Lib.hid (HI.out mid en b d wr (M1.out.k.sz.trans (HV.out.k.sz.trans hs)) S1.out q1 q2 hb (by omega) (HV.out.s3.out M1.out.k (Or.inr (Nat.le_refl _))) (HV.out.s4.out M1.out.k (Or.inr (Nat.le_of_lt q1))) (HV.out.c2.out M1.out.k (Or.inr (Nat.le_refl _))) mid en b rfl rfl rfl)
                go_wp2_with (go_at_call 15; refine C2.out.mono ?_; rintro e w4 ⟨rfl, d3, M2, S2⟩; have S2 := Lib.hid S2; have M2 := Lib.hid M2; clear C2)
                go_end0
                exact ⟨rfl, d3, HV.out.done (Nat.le_of_lt f8) (Nat.le_of_lt f9) M1.out M2.out, S2.out⟩
              · have q2z : ¬ (en : Int) < (b : Int) := by omega
                go_wp2
                go_end0
                exact ⟨rfl, d, HV.out.done (Nat.le_of_lt f8) (Nat.le_of_lt f9) M1.out (Mrg.none ((HV.out.s3.out M1.out.k (Or.inr (Nat.le_refl _))).of_ends (HV.out.s4.out M1.out.k (Or.inr (Nat.le_of_lt q1))) (by omega) (by omega) (by omega))), S1.out⟩
            · have q1z : ¬ (mid : Int) < (en : Int) := by omega
              have q0 : mid = en := by have := HE.out; omega
              go_wp2
              go_end0
              exact ⟨rfl, d, HV.out.done (Nat.le_of_lt f8) (Nat.le_of_lt f9) M1.out (Mrg.none ((HV.out.s4.out M1.out.k (Or.inr (by omega))).part (by omega) (Nat.le_refl _))), S1.out⟩
end Go.Proofs.Ytdjgcenjonegjaa
