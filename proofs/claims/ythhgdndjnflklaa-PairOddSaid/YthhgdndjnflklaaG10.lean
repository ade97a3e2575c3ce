import Derived.Test.YthhgdndjnflklaaG9
namespace Go.Proofs.Ythhgdndjnflklaa
open Go.RowKit
set_option linter.unusedVariables false
set_option linter.unusedSimpArgs false

/-- How many pairs the first k stones begin. -/
def pairsC (n : Nat) (M : Nat → Nat) : Nat → Nat
  | 0 => 0
  | k + 1 => pairsC n M k + if k < M k ∧ M k < n then 1 else 0
theorem pairsC_le (n : Nat) (M : Nat → Nat) : ∀ k, pairsC n M k ≤ k
  | 0 => Nat.le_refl _
  | k + 1 => by have := pairsC_le n M k; unfold pairsC; split <;> omega
def pairsS (n : Nat) (M : Nat → Nat) : Nat := pairsC n M n

/-- Numbers that are read, none at all included. -/
def RdW (w : World) (A : Option Addr) (n : Nat) (M : Nat → Nat) : Prop := ∀ j, j < n → ∃ ad, A = some ad ∧ w.cell? (ad.add j) = some (.int .i64 (M j))
theorem RdN.w {w : World} {A : Option Addr} {n : Nat} {M : Nat → Nat} (h : RdN w A n M) : RdW w A n M := by
  obtain ⟨ad, e, hc⟩ := h
  exact fun j hj => ⟨ad, e, hc j hj⟩
theorem RdW.n {w : World} {A : Option Addr} {n : Nat} {M : Nat → Nat} (h : RdW w A n M) (hn : 0 < n) : RdN w A n M := by
  obtain ⟨ad, e, _⟩ := h 0 hn
  exact ⟨ad, e, fun j hj => by obtain ⟨ad', e', hc⟩ := h j hj; rw [e] at e'; injection e' with e'; rw [e']; exact hc⟩
theorem RdW.below {w w' : World} {A : Option Addr} {n : Nat} {M : Nat → Nat} (h : RdW w A n M) (hb : Below w.heap.size w w') : RdW w' A n M := by
  intro j hj
  obtain ⟨ad, e, hc⟩ := h j hj
  exact ⟨ad, e, (hb.cell (World.block_lt_of_cell? w _ hc)).trans hc⟩

theorem pairs_any (w : World) (A : Option Addr) (n cap : Nat) (M : Nat → Nat) (hn : n ≤ 1000) (hR : RdW w A n M) (hle : ∀ v, v < n → M v ≤ n) :
    Calls Try.prog 35 #[.slice A n cap] w fun e w' => e = .returned (.int .i64 (pairsS n M)) ∧ w = w' := by
  go_enter Try.func35, Try.ntmps35
  go_wp2_with fail
  go_loop [3, 8] (fun c i => ∃ k : Nat, k ≤ n ∧ i = .int .i64 k ∧ c = .int .i64 (pairsC n M k)) (fun _ i => n - (intOf i).toNat)
  case atStart => exact ⟨0, Nat.zero_le _, rfl, rfl⟩
  case round =>
    obtain ⟨k, hk, rfl, rfl⟩ := hrel
    have hbd := pairsC_le n M k
    by_cases hlt : k < n
    · obtain ⟨ad, rfl, hcell⟩ := hR k hlt
      have hs : pairsC n M (k + 1) = pairsC n M k + if k < M k ∧ M k < n then 1 else 0 := rfl
      have HS := Hd.mk hs
      clear hs
      generalize M k = m at *
      by_cases t1 : k < m
      · by_cases t2 : m < n
        · have b1 : decide (k < m) = true := by simp [t1]
          have b2 : decide (m < n) = true := by simp [t2]
          have HT := Hd.mk (And.intro t1 t2)
          clear t1 t2
          go_wp2_with fail
          go_round
          case rel => exact ⟨k + 1, by omega, by go_num, by rw [HS.out, if_pos HT.out]; go_num⟩
          case measure => simp [intOf]; omega
        · have b1 : decide (k < m) = true := by simp [t1]
          have b2 : decide (m < n) = false := by simp; omega
          have HT := Hd.mk (show ¬ (k < m ∧ m < n) by omega)
          clear t1 t2
          go_wp2_with fail
          go_round
          case rel => exact ⟨k + 1, by omega, by go_num, by rw [HS.out, if_neg HT.out]; go_num⟩
          case measure => simp [intOf]; omega
      · have b1 : decide (k < m) = false := by simp; omega
        have HT := Hd.mk (show ¬ (k < m ∧ m < n) by omega)
        clear t1
        go_wp2_with fail
        go_round
        case rel => exact ⟨k + 1, by omega, by go_num, by rw [HS.out, if_neg HT.out]; go_num⟩
        case measure => simp [intOf]; omega
    · go_wp2_with fail
      go_ret
      obtain rfl : k = n := by omega
      exact ⟨rfl, rfl⟩

/-- checked's answer: an error, or the graph. -/
def chkS (n : Int) (es : List (Int × Int)) : Except Int (Nat × (Nat → Nat → Bool)) :=
  if n < 0 ∨ 24 < n then .error 2 else if 128 < es.length then .error 3 else
    match chkL n.toNat es (fun _ _ => false) with
    | none => .error 2
    | some nx => .ok (n.toNat, nx)
theorem chkS_ok {n : Int} {es : List (Int × Int)} {m : Nat} {nx : Nat → Nat → Bool} (h : chkS n es = .ok (m, nx)) : n = m ∧ m ≤ 24 ∧ es.length ≤ 128 ∧ chkL m es (fun _ _ => false) = some nx := by
  unfold chkS at h
  split at h
  · exact absurd h (by simp)
  · rename_i h0
    split at h
    · exact absurd h (by simp)
    · cases hc : chkL n.toNat es (fun _ _ => false) with
      | none => rw [hc] at h; exact absurd h (by simp)
      | some ny =>
        rw [hc] at h
        simp only [Except.ok.injEq, Prod.mk.injEq] at h
        obtain ⟨rfl, rfl⟩ := h
        exact ⟨by omega, by omega, by omega, hc⟩
theorem chkS_err {n : Int} {es : List (Int × Int)} {x : Int} (h : chkS n es = .error x) : x = 2 ∨ x = 3 := by
  unfold chkS at h
  split at h
  · simp only [Except.error.injEq] at h; omega
  · split at h
    · simp only [Except.error.injEq] at h; omega
    · cases hc : chkL n.toNat es (fun _ _ => false) with
      | none => rw [hc] at h; simp only [Except.error.injEq] at h; omega
      | some ny => rw [hc] at h; exact absurd h (by simp)
theorem checked_err (w : World) (n : Int) (A : Option Addr) (c : Nat) (es : List (Int × Int)) (hE : RdE w A es) (x : Int) (h : chkS n es = .error x) :
    Calls Try.prog 34 #[.int .i64 n, .slice A es.length c] w fun e w' => e = .returned (.tuple #[.pointer none, .int .i64 x]) ∧ Below w.heap.size w w' := by
  unfold chkS at h
  split at h
  · rename_i h0
    obtain rfl : 2 = x := by simpa using h
    exact (checked_arg w n A es.length c h0).mono fun e w' ⟨h1, h2⟩ => ⟨h1, h2 ▸ Below.refl _ _⟩
  · rename_i h0
    obtain ⟨m, rfl⟩ : ∃ m : Nat, n = m := ⟨n.toNat, by omega⟩
    split at h
    · rename_i h1
      obtain rfl : 3 = x := by simpa using h
      exact (checked_limit w m A es.length c (by omega) h1).mono fun e w' ⟨h1, h2⟩ => ⟨h1, h2 ▸ Below.refl _ _⟩
    · rename_i h1
      rw [Int.toNat_natCast] at h
      refine (checked_any w m A c es (by omega) (by omega) hE).mono fun e w' ⟨h2, h3⟩ => ?_
      cases hc : chkL m es (fun _ _ => false) with
      | none =>
        rw [hc] at h h3
        obtain rfl : 2 = x := by simpa using h
        exact ⟨h3, h2⟩
      | some ny => rw [hc] at h; exact absurd h (by simp)
theorem checked_ok (w : World) (n : Int) (A : Option Addr) (c : Nat) (es : List (Int × Int)) (hE : RdE w A es) (m : Nat) (nx : Nat → Nat → Bool) (h : chkS n es = .ok (m, nx)) :
    Calls Try.prog 34 #[.int .i64 n, .slice A es.length c] w fun e w' => ∃ b, e = .returned (.tuple #[.pointer (some ⟨b, 0, none⟩), .int .i64 0]) ∧ (GBlk w' b m nx ∧ w.heap.size ≤ b ∧ Below w.heap.size w w') := by
  obtain ⟨rfl, h1, h2, h3⟩ := chkS_ok h
  refine (checked_any w m A c es h1 h2 hE).mono fun e w' ⟨g1, g2⟩ => ?_
  rw [h3] at g2
  obtain ⟨b, g3, g4, g5⟩ := g2
  exact ⟨b, g3, g4, g5, g1⟩

/-- The fuel: more than any way is long. -/
def K0 : Nat := 100
def shortF (n : Int) (es : List (Int × Int)) : Option (Int × Int) :=
  match chkS n es with
  | .error x => some (0, x)
  | .ok (m, nx) => (mostS m nx K0).map fun M => ((m : Int) - 2 * (pairsS m M : Int), 0)
theorem mostL_le {n k : Nat} {nx : Nat → Nat → Bool} : ∀ (d i : Nat) (M M' : Nat → Nat), mostL n nx k d i M = some M' → (∀ u, u < n → M u ≤ n) → ∀ u, u < n → M' u ≤ n
  | 0, _, M, M', h, hle => by obtain rfl := Option.some.inj h; exact hle
  | d + 1, i, M, M', h, hle => by
    simp only [mostL] at h
    split at h
    · exact mostL_le d _ _ _ h hle
    · obtain ⟨r, hg, h2⟩ := Option.bind_eq_some_iff.1 h
      cases r with
      | none => exact mostL_le d _ _ _ h2 hle
      | some M2 => exact mostL_le d _ _ _ h2 (grownS_le hg hle)
theorem mostS_le {n k : Nat} {nx : Nat → Nat → Bool} {M : Nat → Nat} (h : mostS n nx k = some M) : ∀ u, u < n → M u ≤ n := mostL_le _ _ _ _ h (fun _ _ => Nat.le_refl _)

set_option maxHeartbeats 4000000 in
theorem short_any (w : World) (n : Int) (A : Option Addr) (c : Nat) (es : List (Int × Int)) (hE : RdE w A es) (r0 r1 : Int) (h : shortF n es = some (r0, r1)) :
    Calls Try.prog 24 #[.int .i64 n, .slice A es.length c] w fun e w' => e = .returned (.tuple #[.int .i64 r0, .int .i64 r1]) ∧ Below w.heap.size w w' := by
  unfold shortF at h
  cases hc : chkS n es with
  | error x =>
    rw [hc] at h
    simp only [Option.some.injEq, Prod.mk.injEq] at h
    obtain ⟨rfl, rfl⟩ := h
    have hx : (x != 0) = true := by rcases chkS_err hc with rfl | rfl <;> rfl
    have HC := Hd.mk hc
    have HE := Hd.mk hE
    clear hc hE
    go_enter Try.func24, Try.ntmps24
    go_wp2_with fail
    refine (checked_err w n A c es HE.out x HC.out).mono ?_
    rintro e w1 ⟨rfl, g1⟩
    go_wp2_with fail
    go_ret2
    exact ⟨rfl, g1⟩
  | ok p =>
    obtain ⟨m, nx⟩ := p
    rw [hc] at h
    obtain ⟨M, hM, h2⟩ := Option.map_eq_some_iff.1 h
    simp only [Prod.mk.injEq] at h2
    obtain ⟨rfl, rfl⟩ := h2
    obtain ⟨rfl, hm24, _⟩ := chkS_ok hc
    have HC := Hd.mk hc
    have HE := Hd.mk hE
    have HM := Hd.mk hM
    have hpl := pairsC_le m M m
    clear hc hE hM h
    go_enter Try.func24, Try.ntmps24
    go_wp2_with fail
    refine (checked_ok w m A c es HE.out m nx HC.out).mono ?_
    rintro e w1 ⟨b, rfl, g1, g2, g3⟩
    have HG := Hd.mk g1
    have HB := Hd.mk g3
    clear g1 g3
    go_wp2_with fail
    refine (most_any w1 b m K0 nx M HG.out HM.out).mono ?_
    rintro e w2 ⟨b2, cap2, rfl, g4, g5, g6⟩
    have HN := Hd.mk g4
    have HB2 := Hd.mk (HB.out.trans (g6.mono HB.out.size))
    clear g4 g6
    go_wp2_with fail
    refine (pairs_any w2 (some ⟨b2, 0, none⟩) m cap2 M (by omega) HN.out.rd.w (mostS_le HM.out)).mono ?_
    rintro e w3 ⟨rfl, rfl⟩
    have hps : pairsS m M ≤ m := hpl
    clear hpl
    go_wp2_with fail
    go_ret2
    exact ⟨rfl, HB2.out⟩
end Go.Proofs.Ythhgdndjnflklaa
