/- What the printed functions over lists of grades answer: alike, Equal, List, antichain, marks, ends. Plain. No conditions. -/
import Derived.Test.YtnbdfmdjedakcaaU1
import Derived.Test.YtnbdfmdjedakcaaQ35
import Derived.Test.YtnbdfmdjedakcaaQ36
import Derived.Test.YtnbdfmdjedakcaaQ37
import Derived.Test.YtnbdfmdjedakcaaQ38
namespace Go.Proofs.Ytnbdfmdjedakcaa.PP
open Go.RowKit Go.Proofs.YtnbdfmdjedakcaaW.PrintWords Go.Proofs.YtnbdfmdjedakcaaW.PrintLast Go.Proofs.YtnbdfmdjedakcaaW.PrintMore Go.Proofs.Ytnbdfmdjedakcaa
set_option linter.unusedVariables false
set_option linter.unusedSimpArgs false
theorem sucN {j : Nat} (h : j ≤ 1000000000) : wrap64 ((j : Int) + 1) = ((j + 1 : Nat) : Int) := by rw [w64 (by omega) (by omega)]; rfl
/-- Equal lists. -/
def lqG : List S36 → List S36 → Bool
  | [], [] => true
  | x :: xs, y :: ys => eqG x y && lqG xs ys
  | _, _ => false
theorem lqG_iff : ∀ {x y : List S36}, lqG x y = true ↔ x = y
  | [], [] => by simp [lqG]
  | [], _ :: _ => by simp [lqG]
  | _ :: _, [] => by simp [lqG]
  | x :: xs, y :: ys => by
    rw [lqG, Bool.and_eq_true, eqG_iff, lqG_iff, List.cons.injEq]
theorem ne_eqG (x y : S36) : (!(x.f0 == y.f0) || (!(x.f1 == y.f1) || (!(x.f2 == y.f2)))) = !eqG x y := by
  unfold eqG
  cases x.f0 == y.f0 <;> cases x.f1 == y.f1 <;> cases x.f2 == y.f2 <;> rfl
theorem rdG (x : List S36) (j : Nat) (h : j < x.length) : rd_T36 x (j : Int) = x[j] := rdT36_get x j h
theorem alike_l0 (x y : List S36) (hxy : x.length = y.length) : ∀ m (j : Nat), j + m = x.length → x.length ≤ 1000000 → Ev (fun k => kimberlitelaw02_alike.l0 k x y (j : Int)) (lqG (x.drop j) (y.drop j))
  | 0, j, hj, hx => by
    rw [List.drop_eq_nil_of_le (by omega), List.drop_eq_nil_of_le (by omega)]
    refine Ev.step (Ev.pure _) (fun k => ?_)
    show kimberlitelaw02_alike.l0 (k + 1) x y (j : Int) = _
    rw [kimberlitelaw02_alike.l0, if_neg (by omega)]
    rfl
  | m + 1, j, hj, hx => by
    have h1 : j < x.length := by omega
    have h2 : j < y.length := by omega
    rw [List.drop_eq_getElem_cons h1, List.drop_eq_getElem_cons h2, lqG]
    have e : ∀ k, kimberlitelaw02_alike.l0 (k + 1) x y (j : Int) = if eqG x[j] y[j] = true then kimberlitelaw02_alike.l0 k x y ((j + 1 : Nat) : Int) else some false := fun k => by
      rw [kimberlitelaw02_alike.l0, if_pos (by omega), if_pos (by omega), if_pos (by omega), ne_eqG, rdG x j h1, rdG y j h2, sucN (by omega)]
      cases eqG x[j] y[j] <;> rfl
    cases hq : eqG x[j] y[j] with
    | true =>
      refine Ev.step (alike_l0 x y hxy m (j + 1) (by omega) hx) (fun k => ?_)
      show kimberlitelaw02_alike.l0 (k + 1) x y (j : Int) = _
      rw [e, hq, if_pos rfl]
    | false =>
      refine Ev.step (Ev.pure _) (fun k => ?_)
      show kimberlitelaw02_alike.l0 (k + 1) x y (j : Int) = _
      rw [e, hq]
      rfl
theorem alike_ev (x y : List S36) (hx : x.length ≤ 1000000) : Ev (fun k => kimberlitelaw02_alike.f k x y) (lqG x y) := by
  unfold kimberlitelaw02_alike.f
  by_cases h : (x.length : Int) = (y.length : Int)
  · simp only [h, if_true]
    have := alike_l0 x y (by omega) x.length 0 (by omega) hx
    simpa using this
  · simp only [h, if_false]
    refine (Ev.pure false).to ?_
    cases hq : lqG x y with
    | false => rfl
    | true => exact absurd (by rw [lqG_iff.1 hq]) h
theorem alike_same (x : List S36) (hx : x.length ≤ 1000000) : Ev (fun k => kimberlitelaw02_alike.f k x x) true :=
  (alike_ev x x hx).to (lqG_iff.2 rfl)
theorem equal_l0 (x y : List S36) (hxy : x.length = y.length) : ∀ m (j : Nat), j + m = x.length → x.length ≤ 1000000 → Ev (fun k => api_Grade_111.l0 k x y (x.length : Int) (j : Int)) (lqG (x.drop j) (y.drop j))
  | 0, j, hj, hx => by
    rw [List.drop_eq_nil_of_le (by omega), List.drop_eq_nil_of_le (by omega)]
    refine Ev.step (Ev.pure _) (fun k => ?_)
    show api_Grade_111.l0 (k + 1) x y (x.length : Int) (j : Int) = _
    rw [api_Grade_111.l0, if_neg (by omega)]
    rfl
  | m + 1, j, hj, hx => by
    have h1 : j < x.length := by omega
    have h2 : j < y.length := by omega
    rw [List.drop_eq_getElem_cons h1, List.drop_eq_getElem_cons h2, lqG]
    have e : ∀ k, api_Grade_111.l0 (k + 1) x y (x.length : Int) (j : Int) = if eqG x[j] y[j] = true then api_Grade_111.l0 k x y (x.length : Int) ((j + 1 : Nat) : Int) else some false := fun k => by
      rw [api_Grade_111.l0, if_pos (by omega), if_pos (by omega), if_pos (by omega), if_pos (by omega), ne_eqG, rdG x j h1, rdG y j h2, sucN (by omega)]
      cases eqG x[j] y[j] <;> rfl
    cases hq : eqG x[j] y[j] with
    | true =>
      refine Ev.step (equal_l0 x y hxy m (j + 1) (by omega) hx) (fun k => ?_)
      show api_Grade_111.l0 (k + 1) x y (x.length : Int) (j : Int) = _
      rw [e, hq, if_pos rfl]
    | false =>
      refine Ev.step (Ev.pure _) (fun k => ?_)
      show api_Grade_111.l0 (k + 1) x y (x.length : Int) (j : Int) = _
      rw [e, hq]
      rfl
theorem equal_ev (x y : List S36) (hx : x.length ≤ 1000000) : Ev (fun k => api_Grade_111.f k x y) (lqG x y) := by
  unfold api_Grade_111.f
  by_cases h : (x.length : Int) = (y.length : Int)
  · rw [show (fun k => if (x.length : Int) = (y.length : Int) then api_Grade_111.l0 k x y (x.length : Int) 0 else some false) = fun k => api_Grade_111.l0 k x y (x.length : Int) 0 from funext fun k => if_pos h]
    have := equal_l0 x y (by omega) x.length 0 (by omega) hx
    simpa using this
  · simp only [h, if_false]
    refine (Ev.pure false).to ?_
    cases hq : lqG x y with
    | false => rfl
    | true => exact absurd (by rw [lqG_iff.1 hq]) h
/-- Is a list an antichain? -/
def anB (l : List S36) : Bool := decide (lsF l 256 = 0) && lqG (exF belowG l) l
theorem lsF_iff {l : List S36} {m : Int} : lsF l m = 0 ↔ (l.length : Int) ≤ m ∧ ∀ x ∈ l, gok x = true := by
  unfold lsF
  by_cases h : m < (l.length : Int)
  · rw [if_pos h]
    exact ⟨fun h => absurd h (by decide), fun h2 => absurd h2.1 (by omega)⟩
  · rw [if_neg h]
    by_cases h2 : l.any (fun x => !gok x) = true
    · rw [if_pos h2]
      refine ⟨fun h => absurd h (by decide), fun h3 => ?_⟩
      obtain ⟨x, hx, hn⟩ := List.any_eq_true.1 h2
      rw [h3.2 x hx] at hn
      exact absurd hn (by decide)
    · rw [if_neg h2]
      refine ⟨fun _ => ⟨by omega, fun x hx => ?_⟩, fun _ => rfl⟩
      cases hq : gok x with
      | true => rfl
      | false => exact absurd (List.any_eq_true.2 ⟨x, hx, by rw [hq]; rfl⟩) h2
theorem anB_iff {l : List S36} : anB l = true ↔ Anti l := by
  unfold anB
  rw [Bool.and_eq_true, decide_eq_true_eq, lsF_iff, lqG_iff]
  constructor
  · rintro ⟨⟨_, h1⟩, h2⟩; exact anti_of_least h1 h2
  · intro h
    have := h.short
    exact ⟨⟨by omega, h.1⟩, h.least⟩
theorem exF_len (rule : S36 → S36 → Bool) (l : List S36) : (exF rule l).length ≤ l.length := by
  unfold exF sortG
  rw [List.length_mergeSort]
  exact exGo_len rule l l.length
theorem antichain_ev (l : List S36) (hl : l.length ≤ 1000000) : Ev (fun k => grade_antichain.f k l) (anB l) := by
  unfold grade_antichain.f grade_listed.f anB
  simp only [Option.bind_some]
  by_cases h : lsF l 256 = 0
  · simp only [h, if_true, decide_true, Bool.true_and]
    unfold grade_least.f
    simp only [show l.length < 5000000000000 by omega, if_true, Option.bind_some]
    refine Ev.same (equal_ev _ _ (Nat.le_trans (exF_len _ _) hl)) (fun k => ?_)
    cases api_Grade_111.f k (exF belowG l) l <;> rfl
  · simp only [h, if_false, decide_false, Bool.false_and]
    exact Ev.pure _
theorem refList_l0 (l : List S36) : ∀ m (j : Nat), j + m = l.length → l.length ≤ 1000000 → Ev (fun k => kimberliteref02_List.l0 k l (j : Int)) (if (l.drop j).any (fun x => !gok x) = true then 2 else 0)
  | 0, j, hj, hx => by
    rw [List.drop_eq_nil_of_le (by omega)]
    refine Ev.step (Ev.pure _) (fun k => ?_)
    show kimberliteref02_List.l0 (k + 1) l (j : Int) = _
    rw [kimberliteref02_List.l0, if_neg (by omega)]
    rfl
  | m + 1, j, hj, hx => by
    have h1 : j < l.length := by omega
    rw [List.drop_eq_getElem_cons h1, List.any_cons]
    have e : ∀ k, kimberliteref02_List.l0 (k + 1) l (j : Int) = if gok l[j] = true then kimberliteref02_List.l0 k l ((j + 1 : Nat) : Int) else some 2 := fun k => by
      rw [kimberliteref02_List.l0, if_pos (by omega), if_pos (by omega), rdG l j h1, sucN (by omega)]
      rfl
    cases hq : gok l[j] with
    | true =>
      refine Ev.step (refList_l0 l m (j + 1) (by omega) hx) (fun k => ?_)
      show kimberliteref02_List.l0 (k + 1) l (j : Int) = _
      rw [e, hq, if_pos rfl]
    | false =>
      refine Ev.step (Ev.pure _) (fun k => ?_)
      show kimberliteref02_List.l0 (k + 1) l (j : Int) = _
      rw [e, hq]
      rfl
theorem refList_ev (l : List S36) (most : Int) (hl : l.length ≤ 1000000) : Ev (fun k => kimberliteref02_List.f k l most) (lsF l most) := by
  unfold kimberliteref02_List.f lsF
  by_cases h : most < (l.length : Int)
  · simp only [gt_iff_lt, h, if_true]
    exact Ev.pure _
  · simp only [gt_iff_lt, h, if_false]
    have := refList_l0 l l.length 0 (by omega) hl
    simpa using this
/-- The row of all grades. -/
def nthG (n : Nat) : S36 := ⟨((n / 144 : Nat) : Int), ((n / 12 % 12 : Nat) : Int), ((n % 12 : Nat) : Int)⟩
def plN (x : S36) : Nat := ((x.f0 * 12 + x.f1) * 12 + x.f2).toNat
theorem all_nth : allL = (List.range 1728).map nthG := by kernel_rfl
def rowB (U : S36 → Bool) : List Bool := allL.map U
theorem rowB_len (U : S36 → Bool) : (rowB U).length = 1728 := by unfold rowB; rw [List.length_map]; exact allL_len
theorem rowB_get (U : S36 → Bool) (n : Nat) (h : n < 1728) : (rowB U)[n]? = some (U (nthG n)) := by
  unfold rowB
  rw [all_nth, List.map_map, List.getElem?_map, List.getElem?_range h]
  rfl
theorem rowB_rd (U : S36 → Bool) (n : Nat) (h : n < 1728) : rdOf false (rowB U) (n : Int) = U (nthG n) := by
  unfold rdOf
  rw [Int.toNat_natCast, List.getD_eq_getElem?_getD, rowB_get U n h]
  rfl
theorem gok_nth {n : Nat} (h : n < 1728) : gok (nthG n) = true := by
  rw [gok_iff]
  unfold nthG
  simp only
  omega
theorem pl_nth {n : Nat} (h : n < 1728) : plN (nthG n) = n := by
  unfold plN nthG
  simp only
  omega
theorem nth_pl {x : S36} (h : gok x = true) : nthG (plN x) = x ∧ plN x < 1728 := by
  rw [gok_iff] at h
  obtain ⟨a, b, c⟩ := x
  unfold nthG plN
  simp only at h ⊢
  simp only [S36.mk.injEq]
  omega
theorem place_f {x : S36} (h : gok x = true) : kimberliteref02_place.f x.f0 x.f1 x.f2 = some (plN x : Int) := by
  rw [gok_iff] at h
  unfold kimberliteref02_place.f plN
  rw [w64 (x := x.f0 * 12) (by omega) (by omega), w64 (x := x.f0 * 12 + x.f1) (by omega) (by omega), w64 (x := (x.f0 * 12 + x.f1) * 12) (by omega) (by omega), w64 (x := (x.f0 * 12 + x.f1) * 12 + x.f2) (by omega) (by omega)]
  congr 1
  omega
theorem nth_f {n : Nat} (h : n < 1728) : kimberliteref02_Nth.f (n : Int) = some ((nthG n).f0, (nthG n).f1, (nthG n).f2) := by
  unfold kimberliteref02_Nth.f nthG
  have h1 : Int.tdiv (n : Int) 144 = ((n / 144 : Nat) : Int) := by rw [Int.tdiv_eq_ediv_of_nonneg (by omega)]; rfl
  have h2 : Int.tdiv (n : Int) 12 = ((n / 12 : Nat) : Int) := by rw [Int.tdiv_eq_ediv_of_nonneg (by omega)]; rfl
  rw [h1, h2, w64 (by omega) (by omega), w64 (by omega) (by omega), Int.tmod_eq_emod_of_nonneg (by omega), Int.tmod_eq_emod_of_nonneg (by omega)]
  rfl
theorem rowB_ext {xs : List Bool} {U : S36 → Bool} (hl : xs.length = 1728) (h : ∀ n, n < 1728 → xs[n]? = some (U (nthG n))) : xs = rowB U := by
  refine List.ext_getElem? fun n => ?_
  by_cases hn : n < 1728
  · rw [h n hn, rowB_get U n hn]
  · rw [List.getElem?_eq_none (by omega), List.getElem?_eq_none (by rw [rowB_len]; omega)]
theorem rowB_set (U : S36 → Bool) {x : S36} (h : gok x = true) (b : Bool) : (rowB U).set (plN x) b = rowB fun g => if eqG g x = true then b else U g := by
  obtain ⟨h1, h2⟩ := nth_pl h
  refine rowB_ext (by rw [List.length_set, rowB_len]) fun n hn => ?_
  rw [List.getElem?_set]
  by_cases e : plN x = n
  · subst e
    rw [if_pos rfl, if_pos (by rw [rowB_len]; omega), h1, eqG_iff.2 rfl, if_pos rfl]
  · rw [if_neg e, rowB_get U n hn, if_neg (fun hq => e (by rw [← eqG_iff.1 hq, pl_nth hn]))]
theorem marks_l0 (l : List S36) (hv : ∀ x ∈ l, gok x = true) : ∀ m (j : Nat), j + m = l.length → l.length ≤ 1000000 → Ev (fun k => kimberliteref02_marks.l0 k l (rowB (isIn (l.take j))) (j : Int)) (rowB (isIn l))
  | 0, j, hj, hx => by
    refine Ev.step (Ev.pure _) (fun k => ?_)
    show kimberliteref02_marks.l0 (k + 1) l (rowB (isIn (l.take j))) (j : Int) = _
    rw [kimberliteref02_marks.l0, if_neg (by omega), List.take_of_length_le (by omega)]
  | m + 1, j, hj, hx => by
    have h1 : j < l.length := by omega
    have hg : gok l[j] = true := hv _ (List.getElem_mem h1)
    obtain ⟨_, h2⟩ := nth_pl hg
    refine Ev.step (marks_l0 l hv m (j + 1) (by omega) hx) (fun k => ?_)
    show kimberliteref02_marks.l0 (k + 1) l (rowB (isIn (l.take j))) (j : Int) = _
    rw [kimberliteref02_marks.l0, if_pos (by omega), if_pos (by omega), rdG l j h1, place_f hg, Option.bind_some, if_pos (by omega), if_pos (by rw [rowB_len]; omega), Int.toNat_natCast, rowB_set _ hg, sucN (by omega)]
    congr 2
    funext g
    rw [List.take_succ_eq_append_getElem h1]
    unfold isIn
    rw [List.any_append, List.any_cons, List.any_nil, Bool.or_false]
    cases eqG g l[j] <;> simp
theorem marks_ev (l : List S36) (hv : ∀ x ∈ l, gok x = true) (hl : l.length ≤ 1000000) : Ev (fun k => kimberliteref02_marks.f k l) (rowB (isIn l)) := by
  unfold kimberliteref02_marks.f
  simp only [show (1728 : Nat) ≤ 281474976710656 by omega, if_true]
  have h := marks_l0 l hv l.length 0 (by omega) hl
  have e : rowB (isIn (l.take 0)) = List.replicate 1728 false := by
    refine (rowB_ext List.length_replicate fun n hn => ?_).symm
    rw [List.getElem?_replicate, if_pos hn]
    rfl
  rw [e] at h
  exact h
end Go.Proofs.Ytnbdfmdjedakcaa.PP
