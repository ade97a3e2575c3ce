/- Small facts on lists of marks. No conditions. -/
import Derived.Test.YthhgdndjnflklaaK1
import Derived.Test.YthhgdndjnflklaaCC
namespace Go.Proofs.Ythhgdndjnflklaa.PP.Small
open Go.RowKit Go.Proofs.YthhgdndjnflklaaW.PrintWords Go.Proofs.YthhgdndjnflklaaW.PrintLast Go.Proofs.YthhgdndjnflklaaW.PrintMore
set_option linter.unusedVariables false
set_option linter.unusedSimpArgs false
theorem rdInt (l : List Int) (i : Nat) : rd l (i : Int) = l.getD i 0 := by
  unfold rd
  rw [Int.toNat_natCast]
def Ls (n : Nat) (l : List Bool) (g : Nat → Bool) : Prop := l.length = n ∧ ∀ v, l.getD v false = g v
theorem Ls.put {n : Nat} {l : List Bool} {g : Nat → Bool} (h : Ls n l g) (i : Nat) (hi : i < n) : Ls n (l.set i true) (upd g i true) := by
  refine ⟨by rw [List.length_set]; exact h.1, fun v => ?_⟩
  rw [getD_set_]
  by_cases hv : i = v
  · subst hv
    rw [if_pos ⟨rfl, by rw [h.1]; exact hi⟩, upd_is]
  · rw [if_neg (fun x => hv x.1), upd_no (fun x => hv x.symm)]
    exact h.2 v
theorem Ls.rd {n : Nat} {l : List Bool} {g : Nat → Bool} (h : Ls n l g) (i : Nat) : rdOf false l (i : Int) = g i := by
  unfold rdOf
  rw [Int.toNat_natCast]
  exact h.2 i
theorem getD_app (L : List Int) (x : Int) (q : Nat) (h : q < L.length) : (L ++ [x]).getD q 0 = L.getD q 0 := by
  rw [List.getD_eq_getElem?_getD, List.getD_eq_getElem?_getD, List.getElem?_append_left h]
theorem getD_end (L : List Int) (x : Int) : (L ++ [x]).getD L.length 0 = x := by
  rw [List.getD_eq_getElem?_getD, List.getElem?_append_right (Nat.le_refl _), Nat.sub_self]
  rfl
theorem odd_le {α : Type} {f : Nat → Option α} (h : ∀ k, LeO (f k) (f (k + 1))) {k k' : Nat} (hk : k ≤ k') {r : α} (hr : f k = some r) : f k' = some r := by
  induction hk with
  | refl => exact hr
  | step _ ih => exact h _ _ ih
end Go.Proofs.Ythhgdndjnflklaa.PP.Small
