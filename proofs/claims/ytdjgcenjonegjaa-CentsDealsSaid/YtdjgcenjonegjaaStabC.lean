/- symMerge where the second stretch has one element -/
import Derived.Test.YtdjgcenjonegjaaStabB
namespace Go.Proofs.Ytdjgcenjonegjaa
open Go.RowKit Go.Shelf Go.Lib Go.Sort
set_option maxRecDepth 20000
variable {α : Type} [Inhabited α]

/- the exchange -/

/- the test 'cmp(d[$1], d[$2]) < 0' at the naturals $1, $2, as integers $3, $4; the row's fact $5 at the world $6; hv: what it tells; the new fact is S2 at w2 -/

set_option maxHeartbeats 4000000 in
theorem symLast_any {v : α → Int} {g : Nat} {cb : Array Value} {cf : α → α → Int} {RR E : α → α → Prop} {blk off n : Nat} {d0 : Array α} {w0 : World} (H : Stb v g cb cf RR E blk off n d0 w0) (cap a m : Nat) (d : Array α) (w : World)
    (hs : d.size = n) (S : SW (fun x => Value.int .i64 (v x)) w0 blk off d w) (ham : a + 1 < m) (hb : m < d.size) (hS : Srt RR d a m) (hE : Crs E d a m (m + 1)) (ai mi bi : Int) (ea : ai = a) (em : mi = m) (eb : bi = (m : Int) + 1) :
    Calls Try.prog 15 #[.slice (some ⟨blk, off, none⟩) n cap, .int .i64 ai, .int .i64 mi, .int .i64 bi, .func (.func g) #[] cb] w fun e w' => e = .returned (.tuple #[]) ∧ ∃ d', Mrg RR d d' a (m + 1) ∧ SW (fun x => Value.int .i64 (v x)) w0 blk off d' w' := by
  subst ea em eb
  have mixed : Try.prog.follows .mixedOrders = true := by kernel_rfl
  have R := H.R
  have eg := H.eg
  have hsz := H.sz
  have hbig := H.big
  have HC := Lib.hid H.cmp
  have hlt := Lib.hid (fun t (t1 : a ≤ t) (t2 : t < m) => H.lt d[t]! d[m]! (hE t m t1 t2 (Nat.le_refl _) (by omega)))
  have hge := Lib.hid (fun t (t1 : a ≤ t) (t2 : t < m) => H.ge d[t]! d[m]! (hE t m t1 t2 (Nat.le_refl _) (by omega)))
  have HS := Lib.hid hS
  have TR := Lib.hid H.tr
  have S0 : Aside _ := S
  clear S hE hS H
  have c1 : ((m : Int) - (a : Int) == 1) = false := by simp; omega
  have c2 : ¬ (m : Int) - (a : Int) = 1 := by omega
  go_enter Try.func15, Try.ntmps15
  go_wp2
  go_loopg [14, 15] (m - a) (fun kx s10 s11 wr => ∃ (i j : Nat), s10 = .int .i64 i ∧ s11 = .int .i64 j ∧ a ≤ i ∧ i ≤ j ∧ j ≤ m ∧ j - i ≤ kx ∧ Hid (i = a ∨ RR d[i - 1]! d[m]!) ∧ Hid (j = m ∨ RR d[m]! d[j]!) ∧ Aside (SW (fun x => Value.int .i64 (v x)) w0 blk off d wr))
  case atStart => exact ⟨a, m, rfl, rfl, Nat.le_refl _, by omega, Nat.le_refl _, Nat.le_refl _, Or.inl rfl, Or.inl rfl, S0⟩
  case round =>
    clear S0
    obtain ⟨i, j, rfl, rfl, ai, ij, jb, hk, lo, hi, S1⟩ := hrel
    by_cases hl : i < j
    · have hlz : (i : Int) < (j : Int) := by omega
      obtain ⟨h1, h2⟩ := half_bd hl
      obtain ⟨h, eh⟩ : ∃ h : Nat, h = (i + j) / 2 := ⟨_, rfl⟩
      have ez : ((i : Int) + (j : Int)) / 2 = (h : Int) := by omega
      rw [← eh] at h1 h2
      clear eh
      by_cases hv : cf d[m]! d[h]! < 0
      · have HL := Lib.hid (hlt.out h (by omega) (by omega) hv)
        clear hlt hge
        have la : ∀ n os, (grow (wr.drewN n) os).cell? ⟨blk, off + m, none⟩ = some (.int .i64 (v d[m]!)) := S1.out.cl R (by omega) (m) (by omega)
        have lb : ∀ n os, (grow (wr.drewN n) os).cell? ⟨blk, off + h, none⟩ = some (.int .i64 (v d[h]!)) := S1.out.cl R (by omega) (h) (by omega)
        have hc := S1.out.cmp HC.out (by omega) d[m]! d[h]!
        have ea : (((m : Int) : Int)).toNat = m := by omega
        have pa : (0 : Int) ≤ (m : Int) := by omega
        have ba : ((m : Int) : Int) < (n : Int) := by omega
        have ra : IntKind.i64.wrap ((m : Int)) = (m : Int) := by rw [IntKind.wrap_i64]; omega
        have eb : (((h : Int) : Int)).toNat = h := by omega
        have pb : (0 : Int) ≤ (h : Int) := by omega
        have bb : ((h : Int) : Int) < (n : Int) := by omega
        have rb : IntKind.i64.wrap ((h : Int)) = (h : Int) := by rw [IntKind.wrap_i64]; omega
        generalize d[m]! = xa at hc hv la lb
        generalize d[h]! = xb at hc hv la lb
        have hd := decide_eq_true hv
        go_wp2_with fail
        go_quiet_grown (first | (go_at_fn g; refine Calls.grown_of (hc _ _)))
        have S2 : Aside (SW (fun x => Value.int .i64 (v x)) w0 blk off d (grow (wr.drewN nq) osq)) := S1.out.grown nq osq
        clear la lb hc S1
        generalize grow (wr.drewN nq) osq = w2 at S2 ⊢
        clear nq osq ea eb pa pb ba bb ra rb
        go_wp2
        go_roundg (h - i)
        case measure => omega
        case rel => exact ⟨i, h, rfl, rfl, ai, h1, by omega, Nat.le_refl _, lo, Or.inr HL.out, S2⟩
      · have HL := Lib.hid (hge.out h (by omega) (by omega) (by omega))
        clear hlt hge
        have la : ∀ n os, (grow (wr.drewN n) os).cell? ⟨blk, off + m, none⟩ = some (.int .i64 (v d[m]!)) := S1.out.cl R (by omega) (m) (by omega)
        have lb : ∀ n os, (grow (wr.drewN n) os).cell? ⟨blk, off + h, none⟩ = some (.int .i64 (v d[h]!)) := S1.out.cl R (by omega) (h) (by omega)
        have hc := S1.out.cmp HC.out (by omega) d[m]! d[h]!
        have ea : (((m : Int) : Int)).toNat = m := by omega
        have pa : (0 : Int) ≤ (m : Int) := by omega
        have ba : ((m : Int) : Int) < (n : Int) := by omega
        have ra : IntKind.i64.wrap ((m : Int)) = (m : Int) := by rw [IntKind.wrap_i64]; omega
        have eb : (((h : Int) : Int)).toNat = h := by omega
        have pb : (0 : Int) ≤ (h : Int) := by omega
        have bb : ((h : Int) : Int) < (n : Int) := by omega
        have rb : IntKind.i64.wrap ((h : Int)) = (h : Int) := by rw [IntKind.wrap_i64]; omega
        generalize d[m]! = xa at hc hv la lb
        generalize d[h]! = xb at hc hv la lb
        have hd := decide_eq_false hv
        go_wp2_with fail
        go_quiet_grown (first | (go_at_fn g; refine Calls.grown_of (hc _ _)))
        have S2 : Aside (SW (fun x => Value.int .i64 (v x)) w0 blk off d (grow (wr.drewN nq) osq)) := S1.out.grown nq osq
        clear la lb hc S1
        generalize grow (wr.drewN nq) osq = w2 at S2 ⊢
        clear nq osq ea eb pa pb ba bb ra rb
        go_wp2
        go_roundg (j - (h + 1))
        case measure => omega
        case rel => exact ⟨h + 1, j, by go_num, rfl, by omega, by omega, jb, Nat.le_refl _, Or.inr (by rw [Nat.add_sub_cancel]; exact HL.out), hi, S2⟩
    · have e : i = j := by omega
      subst e
      clear hlt hge
      have hlz : ¬ (i : Int) < (i : Int) := by omega
      go_wp2
      go_loopg [17] (m - i) (fun kx s13 wr => ∃ (k : Nat) (dk : Array α), s13 = .int .i64 k ∧ i ≤ k ∧ k ≤ m ∧ k - i ≤ kx ∧ Hid (Rot d dk k m (m + 1)) ∧ Aside (SW (fun x => Value.int .i64 (v x)) w0 blk off dk wr))
      case atStart => exact ⟨m, d, rfl, jb, Nat.le_refl _, Nat.le_refl _, Rot.none _ _ _ _ (by omega) (by omega) (Or.inl rfl), S1⟩
      case round =>
        clear S1
        obtain ⟨k, dk, rfl, ak, ki, hk2, hr, S1⟩ := hrel
        have hds : dk.size = d.size := hr.out.sz
        by_cases hl : i < k
        · obtain ⟨q, rfl⟩ : ∃ q, k = q + 1 := ⟨k - 1, by omega⟩
          have hlz : (i : Int) < (q : Int) + 1 := by omega
          have hr2 := Lib.hid (hr.out.down (by omega) (by omega))
          clear hr
          go_wp2_with fail
          obtain ⟨ia, hia⟩ : ∃ zz : Nat, zz = q + 1 := ⟨_, rfl⟩
          obtain ⟨ib, hib⟩ : ∃ zz : Nat, zz = q := ⟨_, rfl⟩
          obtain ⟨xa, hxa⟩ : ∃ zz : α, zz = dk[q + 1]! := ⟨_, rfl⟩
          obtain ⟨xb, hxb⟩ : ∃ zz : α, zz = dk[q]! := ⟨_, rfl⟩
          have S2 : Aside (SW (fun x => Value.int .i64 (v x)) w0 blk off (swp dk (q + 1) (q)) ((wr.setCell ⟨blk, off + ia, none⟩ (.int .i64 (v xb))).setCell ⟨blk, off + ib, none⟩ (.int .i64 (v xa))).drew) := by rw [hia, hib, hxa, hxb]; exact S1.out.swapped R (q + 1) (q) (by omega) (by omega)
          have ca : wr.cell? ⟨blk, off + ia, none⟩ = some (.int .i64 (v xa)) := by rw [hia, hxa]; exact S1.out.c1 R (by omega) (q + 1) (by omega)
          have cb : wr.cell? ⟨blk, off + ib, none⟩ = some (.int .i64 (v xb)) := by rw [hib, hxb]; exact S1.out.c1 R (by omega) (q) (by omega)
          have fa : wr.frozen? ⟨blk, off + ia, none⟩ = false := by rw [hia]; exact S1.out.f1 R (by omega) (q + 1) (by omega)
          have fb : wr.frozen? ⟨blk, off + ib, none⟩ = false := by rw [hib]; exact S1.out.f1 R (by omega) (q) (by omega)
          have cc : ∃ u, (wr.setCell ⟨blk, off + ia, none⟩ (.int .i64 (v xb))).cell? ⟨blk, off + ib, none⟩ = some u := by rw [hia, hib]; exact S1.out.c2 R (by omega) (q + 1) (q) (by omega) (by omega) _
          obtain ⟨u, cc⟩ := cc
          have ea : (((q : Int) + 1 : Int)).toNat = ia := by omega
          have pa : (0 : Int) ≤ (q : Int) + 1 := by omega
          have ba : ((q : Int) + 1 : Int) < (n : Int) := by omega
          have ra : IntKind.i64.wrap ((q : Int) + 1) = (q : Int) + 1 := by rw [IntKind.wrap_i64]; omega
          have eb : (((q : Int) : Int)).toNat = ib := by omega
          have pb : (0 : Int) ≤ (q : Int) := by omega
          have bb : ((q : Int) : Int) < (n : Int) := by omega
          have rb : IntKind.i64.wrap ((q : Int)) = (q : Int) := by rw [IntKind.wrap_i64]; omega
          clear S1 hia hib hxa hxb
          go_wp2_with fail
          go_big_region_o
          clear ca cb cc fa fb
          generalize ((wr.setCell ⟨blk, off + ia, none⟩ (.int .i64 (v xb))).setCell ⟨blk, off + ib, none⟩ (.int .i64 (v xa))).drew = w2 at S2 ⊢
          clear ea eb pa pb ba bb ra rb
          go_wp2
          go_roundg (q - i)
          case measure => omega
          case rel => exact ⟨q, _, by go_num, by omega, by omega, Nat.le_refl _, hr2, S2⟩
        · have e : i = k := by omega
          subst e
          have hlz : ¬ (i : Int) < (i : Int) := by omega
          go_wp2
          (try simp only [Exit.inBlock, Exit.then])
          refine bodyPost_ret (results_none rfl _ _ _) rfl ?_
          exact ⟨rfl, dk, merge_last TR.out HS.out ai jb lo.out hi.out hr.out, S1.out⟩
end Go.Proofs.Ytdjgcenjonegjaa
