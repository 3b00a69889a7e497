/- symMerge where one of the two stretches has one element -/
import Derived.Test.YtdjgcenjonegjaaStabA
namespace Go.Proofs.Ytdjgcenjonegjaa
open Go.RowKit Go.Shelf Go.Lib Go.Sort
set_option maxRecDepth 20000
variable {α : Type} [Inhabited α]

/-- what the sort is told: the row, the comparison, what it means where x stood ahead of y -/
structure Stb (v : α → Int) (g : Nat) (cb : Array Value) (cf : α → α → Int) (RR E : α → α → Prop) (blk off n : Nat) (d0 : Array α) (w0 : World) : Prop where
  R : Row1 (fun x => Value.int .i64 (v x)) w0 blk off d0
  sz : d0.size = n
  big : n < 4611686018427387904
  eg : ∀ args w, (callFunc g args).run Try.prog w = .ok (.enter g args) w
  cmp : CmpLays1 Try.prog g cb (fun x => Value.int .i64 (v x)) cf blk off n w0
  tr : ∀ x y z, RR x y → RR y z → RR x z
  lt : ∀ x y, E x y → cf y x < 0 → RR y x
  ge : ∀ x y, E x y → ¬ cf y x < 0 → RR x y

/- the exchange -/

/- the test 'cmp(d[$1], d[$2]) < 0' at the naturals $1, $2, as integers $3, $4; the row's fact $5 at the world $6; hv: what it tells; the new fact is S2 at w2 -/

theorem half_bd {i j : Nat} (h : i < j) : i ≤ (i + j) / 2 ∧ (i + j) / 2 < j := by omega

set_option maxHeartbeats 4000000 in
theorem symOne_any {v : α → Int} {g : Nat} {cb : Array Value} {cf : α → α → Int} {RR E : α → α → Prop} {blk off n : Nat} {d0 : Array α} {w0 : World} (H : Stb v g cb cf RR E blk off n d0 w0) (cap a b : Nat) (d : Array α) (w : World)
    (hs : d.size = n) (S : SW (fun x => Value.int .i64 (v x)) w0 blk off d w) (hab : a + 1 ≤ b) (hb : b ≤ d.size) (hS : Srt RR d (a + 1) b) (hE : Crs E d a (a + 1) b) (ai mi bi : Int) (ea : ai = a) (em : mi = (a : Int) + 1) (eb : bi = b) :
    Calls Try.prog 15 #[.slice (some ⟨blk, off, none⟩) n cap, .int .i64 ai, .int .i64 mi, .int .i64 bi, .func (.func g) #[] cb] w fun e w' => e = .returned (.tuple #[]) ∧ ∃ d', Mrg RR d d' a b ∧ SW (fun x => Value.int .i64 (v x)) w0 blk off d' w' := by
  subst ea em eb
  have mixed : Try.prog.follows .mixedOrders = true := by kernel_rfl
  have R := H.R
  have eg := H.eg
  have hsz := H.sz
  have hbig := H.big
  have HC := Lib.hid H.cmp
  have hlt := Lib.hid (fun t (t1 : a + 1 ≤ t) (t2 : t < b) => H.lt d[a]! d[t]! (hE a t (Nat.le_refl _) (by omega) t1 t2))
  have hge := Lib.hid (fun t (t1 : a + 1 ≤ t) (t2 : t < b) => H.ge d[a]! d[t]! (hE a t (Nat.le_refl _) (by omega) t1 t2))
  have HS := Lib.hid hS
  have TR := Lib.hid H.tr
  have S0 : Aside _ := S
  clear S hE hS H
  go_enter Try.func15, Try.ntmps15
  go_wp2
  go_loopg [10, 11] (b - (a + 1)) (fun kx s10 s11 wr => ∃ (i j : Nat), s10 = .int .i64 i ∧ s11 = .int .i64 j ∧ a + 1 ≤ i ∧ i ≤ j ∧ j ≤ b ∧ j - i ≤ kx ∧ Hid (i = a + 1 ∨ RR d[i - 1]! d[a]!) ∧ Hid (j = b ∨ RR d[a]! d[j]!) ∧ Aside (SW (fun x => Value.int .i64 (v x)) w0 blk off d wr))
  case atStart => exact ⟨a + 1, b, by go_num, rfl, Nat.le_refl _, hab, Nat.le_refl _, Nat.le_refl _, Or.inl rfl, Or.inl rfl, S0⟩
  case round =>
    clear S0
    obtain ⟨i, j, rfl, rfl, ai, ij, jb, hk, lo, hi, S1⟩ := hrel
    by_cases hl : i < j
    · have hlz : (i : Int) < (j : Int) := by omega
      obtain ⟨h1, h2⟩ := half_bd hl
      obtain ⟨h, eh⟩ : ∃ h : Nat, h = (i + j) / 2 := ⟨_, rfl⟩
      have ez : ((i : Int) + (j : Int)) / 2 = (h : Int) := by omega
      rw [← eh] at h1 h2
      clear eh
      by_cases hv : cf d[h]! d[a]! < 0
      · have HL := Lib.hid (hlt.out h (by omega) (by omega) hv)
        clear hlt hge
        have la : ∀ n os, (grow (wr.drewN n) os).cell? ⟨blk, off + h, none⟩ = some (.int .i64 (v d[h]!)) := S1.out.cl R (by omega) (h) (by omega)
        have lb : ∀ n os, (grow (wr.drewN n) os).cell? ⟨blk, off + a, none⟩ = some (.int .i64 (v d[a]!)) := S1.out.cl R (by omega) (a) (by omega)
        have hc := S1.out.cmp HC.out (by omega) d[h]! d[a]!
        have ea : (((h : Int) : Int)).toNat = h := by omega
        have pa : (0 : Int) ≤ (h : Int) := by omega
        have ba : ((h : Int) : Int) < (n : Int) := by omega
        have ra : IntKind.i64.wrap ((h : Int)) = (h : Int) := by rw [IntKind.wrap_i64]; omega
        have eb : (((a : Int) : Int)).toNat = a := by omega
        have pb : (0 : Int) ≤ (a : Int) := by omega
        have bb : ((a : Int) : Int) < (n : Int) := by omega
        have rb : IntKind.i64.wrap ((a : Int)) = (a : Int) := by rw [IntKind.wrap_i64]; omega
        generalize d[h]! = xa at hc hv la lb
        generalize d[a]! = xb at hc hv la lb
        have hd := decide_eq_true hv
        go_wp2_with fail
        go_quiet_grown (first | (go_at_fn g; refine Calls.grown_of (hc _ _)))
        have S2 : Aside (SW (fun x => Value.int .i64 (v x)) w0 blk off d (grow (wr.drewN nq) osq)) := S1.out.grown nq osq
        clear la lb hc S1
        generalize grow (wr.drewN nq) osq = w2 at S2 ⊢
        clear nq osq ea eb pa pb ba bb ra rb
        go_wp2
        go_roundg (j - (h + 1))
        case measure => omega
        case rel => exact ⟨h + 1, j, by go_num, rfl, by omega, by omega, jb, Nat.le_refl _, Or.inr (by rw [Nat.add_sub_cancel]; exact HL.out), hi, S2⟩
      · have HL := Lib.hid (hge.out h (by omega) (by omega) (by omega))
        clear hlt hge
        have la : ∀ n os, (grow (wr.drewN n) os).cell? ⟨blk, off + h, none⟩ = some (.int .i64 (v d[h]!)) := S1.out.cl R (by omega) (h) (by omega)
        have lb : ∀ n os, (grow (wr.drewN n) os).cell? ⟨blk, off + a, none⟩ = some (.int .i64 (v d[a]!)) := S1.out.cl R (by omega) (a) (by omega)
        have hc := S1.out.cmp HC.out (by omega) d[h]! d[a]!
        have ea : (((h : Int) : Int)).toNat = h := by omega
        have pa : (0 : Int) ≤ (h : Int) := by omega
        have ba : ((h : Int) : Int) < (n : Int) := by omega
        have ra : IntKind.i64.wrap ((h : Int)) = (h : Int) := by rw [IntKind.wrap_i64]; omega
        have eb : (((a : Int) : Int)).toNat = a := by omega
        have pb : (0 : Int) ≤ (a : Int) := by omega
        have bb : ((a : Int) : Int) < (n : Int) := by omega
        have rb : IntKind.i64.wrap ((a : Int)) = (a : Int) := by rw [IntKind.wrap_i64]; omega
        generalize d[h]! = xa at hc hv la lb
        generalize d[a]! = xb at hc hv la lb
        have hd := decide_eq_false hv
        go_wp2_with fail
        go_quiet_grown (first | (go_at_fn g; refine Calls.grown_of (hc _ _)))
        have S2 : Aside (SW (fun x => Value.int .i64 (v x)) w0 blk off d (grow (wr.drewN nq) osq)) := S1.out.grown nq osq
        clear la lb hc S1
        generalize grow (wr.drewN nq) osq = w2 at S2 ⊢
        clear nq osq ea eb pa pb ba bb ra rb
        go_wp2
        go_roundg (h - i)
        case measure => omega
        case rel => exact ⟨i, h, rfl, rfl, ai, h1, by omega, Nat.le_refl _, lo, Or.inr HL.out, S2⟩
    · have e : i = j := by omega
      subst e
      clear hlt hge
      have hlz : ¬ (i : Int) < (i : Int) := by omega
      go_wp2
      go_loopg [13] (i - 1 - a) (fun kx s13 wr => ∃ (k : Nat) (dk : Array α), s13 = .int .i64 k ∧ a ≤ k ∧ k + 1 ≤ i ∧ i - 1 - k ≤ kx ∧ Hid (Rot d dk a (a + 1) (k + 1)) ∧ Aside (SW (fun x => Value.int .i64 (v x)) w0 blk off dk wr))
      case atStart => exact ⟨a, d, rfl, Nat.le_refl _, ai, Nat.le_refl _, Rot.none _ _ _ _ (by omega) (Nat.le_refl _) (Or.inr rfl), S1⟩
      case round =>
        clear S1
        obtain ⟨k, dk, rfl, ak, ki, hk2, hr, S1⟩ := hrel
        have hds : dk.size = d.size := hr.out.sz
        by_cases hl : k < i - 1
        · have hlz : (k : Int) < (i : Int) - 1 := by omega
          have hr2 := Lib.hid (hr.out.up ak (by omega))
          clear hr
          go_wp2_with fail
          obtain ⟨ia, hia⟩ : ∃ zz : Nat, zz = k := ⟨_, rfl⟩
          obtain ⟨ib, hib⟩ : ∃ zz : Nat, zz = k + 1 := ⟨_, rfl⟩
          obtain ⟨xa, hxa⟩ : ∃ zz : α, zz = dk[k]! := ⟨_, rfl⟩
          obtain ⟨xb, hxb⟩ : ∃ zz : α, zz = dk[k + 1]! := ⟨_, rfl⟩
          have S2 : Aside (SW (fun x => Value.int .i64 (v x)) w0 blk off (swp dk (k) (k + 1)) ((wr.setCell ⟨blk, off + ia, none⟩ (.int .i64 (v xb))).setCell ⟨blk, off + ib, none⟩ (.int .i64 (v xa))).drew) := by rw [hia, hib, hxa, hxb]; exact S1.out.swapped R (k) (k + 1) (by omega) (by omega)
          have ca : wr.cell? ⟨blk, off + ia, none⟩ = some (.int .i64 (v xa)) := by rw [hia, hxa]; exact S1.out.c1 R (by omega) (k) (by omega)
          have cb : wr.cell? ⟨blk, off + ib, none⟩ = some (.int .i64 (v xb)) := by rw [hib, hxb]; exact S1.out.c1 R (by omega) (k + 1) (by omega)
          have fa : wr.frozen? ⟨blk, off + ia, none⟩ = false := by rw [hia]; exact S1.out.f1 R (by omega) (k) (by omega)
          have fb : wr.frozen? ⟨blk, off + ib, none⟩ = false := by rw [hib]; exact S1.out.f1 R (by omega) (k + 1) (by omega)
          have cc : ∃ u, (wr.setCell ⟨blk, off + ia, none⟩ (.int .i64 (v xb))).cell? ⟨blk, off + ib, none⟩ = some u := by rw [hia, hib]; exact S1.out.c2 R (by omega) (k) (k + 1) (by omega) (by omega) _
          obtain ⟨u, cc⟩ := cc
          have ea : (((k : Int) : Int)).toNat = ia := by omega
          have pa : (0 : Int) ≤ (k : Int) := by omega
          have ba : ((k : Int) : Int) < (n : Int) := by omega
          have ra : IntKind.i64.wrap ((k : Int)) = (k : Int) := by rw [IntKind.wrap_i64]; omega
          have eb : (((k : Int) + 1 : Int)).toNat = ib := by omega
          have pb : (0 : Int) ≤ (k : Int) + 1 := by omega
          have bb : ((k : Int) + 1 : Int) < (n : Int) := by omega
          have rb : IntKind.i64.wrap ((k : Int) + 1) = (k : Int) + 1 := by rw [IntKind.wrap_i64]; omega
          clear S1 hia hib hxa hxb
          go_wp2_with fail
          go_big_region_o
          clear ca cb cc fa fb
          generalize ((wr.setCell ⟨blk, off + ia, none⟩ (.int .i64 (v xb))).setCell ⟨blk, off + ib, none⟩ (.int .i64 (v xa))).drew = w2 at S2 ⊢
          clear ea eb pa pb ba bb ra rb
          go_wp2
          go_roundg (i - 1 - (k + 1))
          case measure => omega
          case rel => exact ⟨k + 1, _, by go_num, by omega, by omega, Nat.le_refl _, hr2, S2⟩
        · have hlz : ¬ (k : Int) < (i : Int) - 1 := by omega
          have e : i = k + 1 := by omega
          subst e
          go_wp2
          (try simp only [Exit.inBlock, Exit.then])
          refine bodyPost_ret (results_none rfl _ _ _) rfl ?_
          exact ⟨rfl, dk, merge_one TR.out HS.out ai jb lo.out hi.out hr.out, S1.out⟩
end Go.Proofs.Ytdjgcenjonegjaa
