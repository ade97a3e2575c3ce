/- What a stock has free and left, as sums over all ways there can be. No conditions. -/
import Derived.Test.YtmeaeapopfcmbaaGreatP8
namespace Go.Proofs.YtmeaeapopfcmbaaGreat
set_option linter.unusedVariables false
set_option linter.unusedSimpArgs false
open PP
theorem sumF_upd {α : Type} [DecidableEq α] (F : α → Int) (a : α) (v : Int) : ∀ U : List α, U.Nodup → a ∈ U → sumF (fun k => if k = a then v else F k) U = sumF F U + (v - F a)
  | [], _, h => absurd h (by simp)
  | x :: U, hn, h => by
    have hn2 := List.nodup_cons.1 hn
    by_cases e : x = a
    · subst e
      have : sumF (fun k => if k = x then v else F k) U = sumF F U := sumF_congr fun y hy => by
        rw [if_neg]
        intro e
        subst e
        exact hn2.1 hy
      simp only [sumF, this, if_true]
      omega
    · have h2 : a ∈ U := (List.mem_cons.1 h).resolve_left (fun h => e h.symm)
      have ih := sumF_upd F a v U hn2.2 h2
      simp only [sumF, ih, if_neg e]
      omega
theorem sumF_univ {α : Type} [DecidableEq α] {f : α × Int → Int} (h0 : ∀ k, f (k, 0) = 0) (U : List α) (hU : U.Nodup) : ∀ Y : List (α × Int), (Y.map Prod.fst).Nodup → (∀ p ∈ Y, p.1 ∈ U) → sumF f Y = sumF (fun k => f (k, (mget Y k).getD 0)) U
  | [], _, _ => by
    rw [sumF_zero (l := U)]
    · rfl
    · intro x _; exact h0 x
  | p :: Y, hn, hm => by
    have hn2 := List.nodup_cons.1 (show (p.1 :: Y.map Prod.fst).Nodup from hn)
    have ih := sumF_univ h0 U hU Y hn2.2 fun q hq => hm q (by simp [hq])
    have hz : mget Y p.1 = none := by
      cases h : mget Y p.1 with
      | none => rfl
      | some b => exact absurd (List.mem_map_of_mem (f := Prod.fst) (mget_some h)) hn2.1
    have e : sumF (fun k => f (k, (mget (p :: Y) k).getD 0)) U = sumF (fun k => if k = p.1 then f p else f (k, (mget Y k).getD 0)) U := sumF_congr fun k _ => by
      rw [mget_cons]
      by_cases e : p.1 = k
      · rw [if_pos e, if_pos e.symm]; rw [← e]; rfl
      · rw [if_neg e, if_neg fun h => e h.symm]
    rw [e, sumF_upd _ _ _ U hU (hm p (by simp)), ← ih, hz]
    simp only [sumF, Option.getD_none, h0]
    omega
/-- The offices, the ways. -/
def off8 : List Int := [0, 1, 2, 3, 4, 5, 6, 7]
theorem mem_off8 {o : Int} : o ∈ off8 ↔ 0 ≤ o ∧ o ≤ 7 := by
  simp [off8]; omega
def waysU : List S131 := off8.flatMap fun s => off8.flatMap fun f => (-1 :: off8).map fun t => ⟨s, f, t⟩
theorem mem_waysU {k : S131} : k ∈ waysU ↔ (0 ≤ k.f0 ∧ k.f0 ≤ 7) ∧ (0 ≤ k.f1 ∧ k.f1 ≤ 7) ∧ (-1 ≤ k.f2 ∧ k.f2 ≤ 7) := by
  obtain ⟨a, b, c⟩ := k
  unfold waysU
  simp only [List.mem_flatMap, List.mem_map, S131.mk.injEq]
  constructor
  · rintro ⟨s, hs, f, hf, t, ht, rfl, rfl, rfl⟩
    refine ⟨mem_off8.1 hs, mem_off8.1 hf, ?_⟩
    rcases List.mem_cons.1 ht with rfl | ht
    · omega
    · have := mem_off8.1 ht; omega
  · rintro ⟨h1, h2, h3⟩
    refine ⟨a, mem_off8.2 h1, b, mem_off8.2 h2, c, ?_, rfl, rfl, rfl⟩
    by_cases e : c = -1
    · subst e; simp
    · exact List.mem_cons_of_mem _ (mem_off8.2 (by omega))
theorem waysU_nodup : waysU.Nodup := by decide +kernel
theorem way_mem {p : S131 × Int} (h : wayB p = true) : p.1 ∈ waysU := by
  simp only [wayB, Bool.and_eq_true, inR_iff] at h
  exact mem_waysU.2 ⟨h.1.1.1, h.1.1.2, h.1.2⟩
/-- What is free and left by the amounts of all ways. -/
def freeC (c : S131 → Int) (s o : Int) : Int := sumF (fun k => conF s o (k, c k)) waysU
def leftC (c : S131 → Int) (s : Int) : Int := sumF (fun k => conL s (k, c k)) waysU
theorem Rt.freeC {S : S28} (h : Rt S) (s o : Int) : freeY (waysP S) s o = freeC (curW S) s o :=
  sumF_univ (fun k => conF_zero s o k) _ waysU_nodup _ h.kv.yn fun p hp => way_mem (h.kv.yk p hp)
theorem Rt.leftC {S : S28} (h : Rt S) (s : Int) : leftY (waysP S) s = leftC (curW S) s :=
  sumF_univ (fun k => conL_zero s k) _ waysU_nodup _ h.kv.yn fun p hp => way_mem (h.kv.yk p hp)
theorem conF_le {s o : Int} {k : S131} {a b : Int} (h : a ≤ b) (he : k.f1 = o → a = b) : conF s o (k, a) ≤ conF s o (k, b) := by
  unfold conF
  simp only
  by_cases e : k.f1 = o
  · rw [he e]; exact Int.le_refl _
  · simp only [if_neg (fun h : k.f1 = o ∧ k.f2 ≠ o => e h.1)]
    split
    · split <;> omega
    · omega
theorem freeC_mono {c d : S131 → Int} {s o : Int} (h : ∀ k ∈ waysU, c k ≤ d k) (he : ∀ k ∈ waysU, k.f1 = o → c k = d k) : freeC c s o ≤ freeC d s o :=
  sumF_mono fun k hk => conF_le (h k hk) (he k hk)
theorem freeC_congr {c d : S131 → Int} {s o : Int} (h : ∀ k ∈ waysU, c k = d k) : freeC c s o = freeC d s o := sumF_congr fun k hk => by rw [h k hk]
theorem leftC_congr {c d : S131 → Int} {s : Int} (h : ∀ k ∈ waysU, c k = d k) : leftC c s = leftC d s := sumF_congr fun k hk => by rw [h k hk]
theorem leftC_upd (c : S131 → Int) (s : Int) {x : S131} (hx : x ∈ waysU) (a : Int) : leftC (fun k => if k = x then c x + a else c k) s = leftC c s + conL s (x, a) := by
  unfold leftC
  have e : sumF (fun k => conL s (k, if k = x then c x + a else c k)) waysU = sumF (fun k => if k = x then conL s (x, c x + a) else conL s (k, c k)) waysU := sumF_congr fun k _ => by
    by_cases e : k = x
    · subst e; simp
    · simp [e]
  rw [e, sumF_upd _ _ _ _ waysU_nodup hx, conL_add]
  omega
theorem curW_nn {S : S28} (h : Rt S) (k : S131) : 0 ≤ curW S k ∧ curW S k ≤ MC := by
  unfold curW
  cases e : mget (waysP S) k with
  | none => simp [MC]
  | some u =>
    have := h.kv.yk _ (mget_some e)
    simp only [wayB, Bool.and_eq_true, inR_iff] at this
    simp only [Option.getD_some]
    omega
theorem curW_merge {A B : S28} (hA : Rt A) (hB : Rt B) (k : S131) : curW (aMerge A B) k = max (curW A k) (curW B k) := by
  have a := curW_nn hA k
  have b := curW_nn hB k
  unfold curW at *
  rw [am_ways hA hB]
  cases ea : mget (waysP A) k with
  | none =>
    rw [ea] at a
    cases eb : mget (waysP B) k with
    | none => rfl
    | some v =>
      rw [eb] at b
      simp only [comb, Option.getD_none, Option.getD_some] at *
      omega
  | some u =>
    rw [ea] at a
    cases eb : mget (waysP B) k with
    | none =>
      simp only [comb, Option.getD_none, Option.getD_some] at *
      omega
    | some v =>
      simp only [comb, Option.getD_some]
      split
      · rename_i h
        have : u < v := by
          have := gcI.sw u v
          exact cmpI_lt.1 (by omega)
        omega
      · rename_i h
        have : ¬ u < v := by
          intro h2
          have := gcI.sw u v
          have := cmpI_lt.2 h2
          omega
        omega
end Go.Proofs.YtmeaeapopfcmbaaGreat
