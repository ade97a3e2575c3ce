/- What a stock has free and left, as sums over all ways there can be. No conditions. -/
import Derived.Test.YtmeaeapopfcmbaaGreatP8
namespace Go.Proofs.YtmeaeapopfcmbaaGreat
set_option linter.unusedVariables false
set_option linter.unusedSimpArgs false
open PP
theorem sumF_upd {α : Type} [DecidableEq α] (F : α → Int) (a : α) (v : Int) : ∀ U : List α, U.Nodup → a ∈ U → sumF (fun k => if k = a then v else F k) U = sumF F U + (v - F a)
  | [], _, h => absurd h (by simp)
  | x :: U, hn, h => by
    have hn2 := List.nodup_cons.1 hn
    by_cases e : x = a
    · subst e
      have : sumF (fun k => if k = x then v else F k) U = sumF F U := sumF_congr fun y hy => by
        rw [if_neg]
        intro e
        subst e
        exact hn2.1 hy
      simp only [sumF, this, if_true]
      omega
    · have h2 : a ∈ U := (List.mem_cons.1 h).resolve_left (fun h => e h.symm)
      have ih := sumF_upd F a v U hn2.2 h2
      simp only [sumF, ih, if_neg e]
      omega
theorem sumF_univ {α : Type} [DecidableEq α] {f : α × Int → Int} (h0 : ∀ k, f (k, 0) = 0) (U : List α) (hU : U.Nodup) : ∀ Y : List (α × Int), (Y.map Prod.fst).Nodup → (∀ p ∈ Y, p.1 ∈ U) → sumF f Y = sumF (fun k => f (k, (mget Y k).getD 0)) U
  | [], _, _ => by
    rw [sumF_zero (l := U)]
    · rfl
    · intro x _; exact h0 x
  | p :: Y, hn, hm => by
    have hn2 := List.nodup_cons.1 (show (p.1 :: Y.map Prod.fst).Nodup from hn)
    have ih := sumF_univ h0 U hU Y hn2.2 fun q hq => hm q (by simp [hq])
    have hz : mget Y p.1 = none := by
      cases h : mget Y p.1 with
      | none => rfl
      | some b => exact absurd (List.mem_map_of_mem (f := Prod.fst) (mget_some h)) hn2.1
    have e : sumF (fun k => f (k, (mget (p :: Y) k).getD 0)) U = sumF (fun k => if k = p.1 then f p else f (k, (mget Y k).getD 0)) U := sumF_congr fun k _ => by
      rw [mget_cons]
      by_cases e : p.1 = k
      · rw [if_pos e, if_pos e.symm]; rw [← e]; rfl
      · rw [if_neg e, if_neg fun h => e h.symm]
    rw [e, sumF_upd _ _ _ U hU (hm p (by simp)), ← ih, hz]
    simp only [sumF, Option.getD_none, h0]
    omega
theorem sumF_le_of_mem {α : Type} {f : α → Int} : ∀ {L : List α}, (∀ x ∈ L, 0 ≤ f x) → ∀ x ∈ L, f x ≤ sumF f L
  | [], _, x, h => absurd h (by simp)
  | y :: L, hp, x, h => by
    have h0 := hp y (by simp)
    have hL : 0 ≤ sumF f L := by
      have := sumF_mono (f := fun _ => 0) (g := f) (l := L) fun z hz => hp z (by simp [hz])
      rw [sumF_zero (f := fun _ => 0) (fun _ _ => rfl)] at this
      exact this
    rcases List.mem_cons.1 h with rfl | h
    · simp only [sumF]; omega
    · have := sumF_le_of_mem (f := f) (fun z hz => hp z (by simp [hz])) x h
      simp only [sumF]; omega
theorem sumF_swap {α β : Type} (g : α → β → Int) (M : List β) : ∀ L : List α, sumF (fun x => sumF (g x) M) L = sumF (fun y => sumF (fun x => g x y) L) M
  | [] => by rw [sumF_zero (l := M)]; · rfl
             · intro _ _; rfl
  | x :: L => by
    simp only [sumF]
    rw [sumF_swap g M L, ← sumF_add]
/-- The offices, the ways. -/
def off8 : List Int := [0, 1, 2, 3, 4, 5, 6, 7]
theorem mem_off8 {o : Int} : o ∈ off8 ↔ 0 ≤ o ∧ o ≤ 7 := by
  simp [off8]; omega
def waysU : List S131 := off8.flatMap fun s => off8.flatMap fun f => (-1 :: off8).map fun t => ⟨s, f, t⟩
theorem mem_waysU {k : S131} : k ∈ waysU ↔ (0 ≤ k.f0 ∧ k.f0 ≤ 7) ∧ (0 ≤ k.f1 ∧ k.f1 ≤ 7) ∧ (-1 ≤ k.f2 ∧ k.f2 ≤ 7) := by
  obtain ⟨a, b, c⟩ := k
  unfold waysU
  simp only [List.mem_flatMap, List.mem_map, S131.mk.injEq]
  constructor
  · rintro ⟨s, hs, f, hf, t, ht, rfl, rfl, rfl⟩
    refine ⟨mem_off8.1 hs, mem_off8.1 hf, ?_⟩
    rcases List.mem_cons.1 ht with rfl | ht
    · omega
    · have := mem_off8.1 ht; omega
  · rintro ⟨h1, h2, h3⟩
    refine ⟨a, mem_off8.2 h1, b, mem_off8.2 h2, c, ?_, rfl, rfl, rfl⟩
    by_cases e : c = -1
    · subst e; simp
    · exact List.mem_cons_of_mem _ (mem_off8.2 (by omega))
theorem waysU_nodup : waysU.Nodup := by decide +kernel
theorem way_mem {p : S131 × Int} (h : wayB p = true) : p.1 ∈ waysU := by
  simp only [wayB, Bool.and_eq_true, inR_iff] at h
  exact mem_waysU.2 ⟨h.1.1.1, h.1.1.2, h.1.2⟩
/-- What is free and left by the amounts of all ways. -/
def freeC (c : S131 → Int) (s o : Int) : Int := sumF (fun k => conF s o (k, c k)) waysU
def leftC (c : S131 → Int) (s : Int) : Int := sumF (fun k => conL s (k, c k)) waysU
theorem Rt.freeC {S : S28} (h : Rt S) (s o : Int) : freeY (waysP S) s o = freeC (curW S) s o :=
  sumF_univ (fun k => conF_zero s o k) _ waysU_nodup _ h.kv.yn fun p hp => way_mem (h.kv.yk p hp)
theorem Rt.leftC {S : S28} (h : Rt S) (s : Int) : leftY (waysP S) s = leftC (curW S) s :=
  sumF_univ (fun k => conL_zero s k) _ waysU_nodup _ h.kv.yn fun p hp => way_mem (h.kv.yk p hp)
theorem conF_le {s o : Int} {k : S131} {a b : Int} (h : a ≤ b) (he : k.f1 = o → a = b) : conF s o (k, a) ≤ conF s o (k, b) := by
  unfold conF
  simp only
  by_cases e : k.f1 = o
  · rw [he e]; exact Int.le_refl _
  · simp only [if_neg (fun h : k.f1 = o ∧ k.f2 ≠ o => e h.1)]
    split
    · split <;> omega
    · omega
theorem freeC_mono {c d : S131 → Int} {s o : Int} (h : ∀ k ∈ waysU, c k ≤ d k) (he : ∀ k ∈ waysU, k.f1 = o → c k = d k) : freeC c s o ≤ freeC d s o :=
  sumF_mono fun k hk => conF_le (h k hk) (he k hk)
theorem freeC_congr {c d : S131 → Int} {s o : Int} (h : ∀ k ∈ waysU, c k = d k) : freeC c s o = freeC d s o := sumF_congr fun k hk => by rw [h k hk]
theorem leftC_congr {c d : S131 → Int} {s : Int} (h : ∀ k ∈ waysU, c k = d k) : leftC c s = leftC d s := sumF_congr fun k hk => by rw [h k hk]
theorem ind_sum (t v : Int) : ∀ L : List Int, L.Nodup → sumF (fun o => if t = o then v else 0) L = if t ∈ L then v else 0
  | [], _ => by simp [sumF]
  | x :: L, hn => by
    have h2 := List.nodup_cons.1 hn
    simp only [sumF, ind_sum t v L h2.2]
    by_cases e : t = x
    · subst e
      simp [h2.1]
    · simp [e]
theorem conL_sum (s : Int) {k : S131} (hk : k ∈ waysU) (v : Int) : conL s (k, v) = sumF (fun o => conF s o (k, v)) off8 := by
  obtain ⟨h0, h1, h2⟩ := mem_waysU.1 hk
  unfold conL conF
  simp only
  by_cases e : k.f0 = s
  · simp only [if_pos e]
    rw [sumF_sub, ind_sum _ _ _ (by decide)]
    have h9 : sumF (fun o => if k.f1 = o ∧ k.f2 ≠ o then v else 0) off8 = if k.f2 = k.f1 then 0 else v := by
      by_cases e2 : k.f2 = k.f1
      · rw [if_pos e2, sumF_zero]
        intro o _
        rw [if_neg]
        rintro ⟨a, b⟩
        omega
      · have : sumF (fun o => if k.f1 = o ∧ k.f2 ≠ o then v else 0) off8 = sumF (fun o => if k.f1 = o then v else 0) off8 := by
          refine sumF_congr fun o _ => ?_
          by_cases e3 : k.f1 = o
          · rw [if_pos ⟨e3, by omega⟩, if_pos e3]
          · rw [if_neg (fun h => e3 h.1), if_neg e3]
        rw [if_neg e2, this, ind_sum _ _ _ (by decide), if_pos (mem_off8.2 h1)]
    rw [h9]
    by_cases e2 : k.f2 = k.f1
    · rw [if_pos e2, if_pos e2, if_pos (mem_off8.2 (by omega))]; omega
    · rw [if_neg e2, if_neg e2]
      by_cases e3 : k.f2 = -1
      · rw [if_pos e3, if_neg (fun h => by have := mem_off8.1 h; omega)]; omega
      · rw [if_neg e3, if_pos (mem_off8.2 (by omega))]; omega
  · simp only [if_neg e]
    rw [sumF_zero]
    intro _ _; rfl
theorem leftC_sum (c : S131 → Int) (s : Int) : leftC c s = sumF (fun o => freeC c s o) off8 := by
  unfold leftC freeC
  rw [← sumF_swap]
  exact sumF_congr fun k hk => conL_sum s hk _
theorem leftC_upd (c : S131 → Int) (s : Int) {x : S131} (hx : x ∈ waysU) (a : Int) : leftC (fun k => if k = x then c x + a else c k) s = leftC c s + conL s (x, a) := by
  unfold leftC
  have e : sumF (fun k => conL s (k, if k = x then c x + a else c k)) waysU = sumF (fun k => if k = x then conL s (x, c x + a) else conL s (k, c k)) waysU := sumF_congr fun k _ => by
    by_cases e : k = x
    · subst e; simp
    · simp [e]
  rw [e, sumF_upd _ _ _ _ waysU_nodup hx, conL_add]
  omega
theorem curW_nn {S : S28} (h : Rt S) (k : S131) : 0 ≤ curW S k ∧ curW S k ≤ MC := by
  unfold curW
  cases e : mget (waysP S) k with
  | none => simp [MC]
  | some u =>
    have := h.kv.yk _ (mget_some e)
    simp only [wayB, Bool.and_eq_true, inR_iff] at this
    simp only [Option.getD_some]
    omega
theorem curW_merge {A B : S28} (hA : Rt A) (hB : Rt B) (k : S131) : curW (aMerge A B) k = max (curW A k) (curW B k) := by
  have a := curW_nn hA k
  have b := curW_nn hB k
  unfold curW at *
  rw [am_ways hA hB]
  cases ea : mget (waysP A) k with
  | none =>
    rw [ea] at a
    cases eb : mget (waysP B) k with
    | none => rfl
    | some v =>
      rw [eb] at b
      simp only [comb, Option.getD_none, Option.getD_some] at *
      omega
  | some u =>
    rw [ea] at a
    cases eb : mget (waysP B) k with
    | none =>
      simp only [comb, Option.getD_none, Option.getD_some] at *
      omega
    | some v =>
      simp only [comb, Option.getD_some]
      split
      · rename_i h
        have : u < v := by
          have := gcI.sw u v
          exact cmpI_lt.1 (by omega)
        omega
      · rename_i h
        have : ¬ u < v := by
          intro h2
          have := gcI.sw u v
          have := cmpI_lt.2 h2
          omega
        omega
/-- All that is free together is what is left; no office has more free than is left. -/
theorem free_le_left {S : S28} (h : Rt S) {s o : Int} (hs : 0 ≤ s ∧ s ≤ 7) (ho : 0 ≤ o ∧ o ≤ 7) : 0 ≤ freeY (waysP S) s o ∧ freeY (waysP S) s o ≤ leftY (waysP S) s := by
  refine ⟨h.fu s o hs.1 hs.2 ho.1 ho.2, ?_⟩
  rw [h.leftC, h.freeC, leftC_sum]
  refine sumF_le_of_mem (f := fun o => freeC (curW S) s o) (fun o ho => ?_) o (mem_off8.2 ho)
  have := mem_off8.1 ho
  show 0 ≤ freeC (curW S) s o
  rw [← h.freeC]
  exact h.fu s o hs.1 hs.2 this.1 this.2
end Go.Proofs.YtmeaeapopfcmbaaGreat
