/- The law GradeEnds, as plain Lean: what its calls answer. No conditions. -/
import Derived.Test.YtnbdfmdjedakcaaU2
import Derived.Test.YtnbdfmdjedakcaaH22
namespace Go.Proofs.Ytnbdfmdjedakcaa.PP
open Go.RowKit Go.Proofs.YtnbdfmdjedakcaaW.PrintWords Go.Proofs.YtnbdfmdjedakcaaW.PrintLast Go.Proofs.YtnbdfmdjedakcaaW.PrintMore Go.Proofs.Ytnbdfmdjedakcaa
set_option linter.unusedVariables false
set_option linter.unusedSimpArgs false
/-- Below, or above. -/
def rlU (up : Bool) (x y : S36) : Bool := if up = true then belowG y x else belowG x y
theorem refBelow_gf (x y : S36) : kimberliteref02_Below.f x.f0 x.f1 x.f2 y.f0 y.f1 y.f2 = some (belowG x y) := below_f x y
/-- Does the m-th grade stand beside the n-th? -/
def badE (U : S36 → Bool) (up : Bool) (n m : Nat) : Bool := U (nthG m) && (!decide (m = n) && rlU up (nthG m) (nthG n))
theorem ends_skip (U : S36 → Bool) (up : Bool) (xs r : List S36) (n : Nat) (hn : n < 1728) (m : Int) (h : Ev (fun k => kimberliteref02_ends.l0 k (rowB U) up xs ((n + 1 : Nat) : Int)) r) :
    Ev (fun k => kimberliteref02_ends.l1 k (rowB U) up xs (n : Int) false m) r := by
  have h2 : Ev (fun k => kimberliteref02_ends.j2 k (rowB U) up xs (n : Int) false m false) r := by
    refine Ev.step h (fun k => ?_)
    show kimberliteref02_ends.j2 (k + 1) (rowB U) up xs (n : Int) false m false = _
    rw [kimberliteref02_ends.j2, if_neg (by decide), if_neg (by decide), sucN (by omega)]
  refine Ev.step h2 (fun k => ?_)
  show kimberliteref02_ends.l1 (k + 1) (rowB U) up xs (n : Int) false m = _
  rw [kimberliteref02_ends.l1]
  split <;> rfl
theorem ends_l1 (U : S36 → Bool) (up : Bool) (xs r : List S36) (n : Nat) (hn : n < 1728) (hx : xs.length ≤ 1728) : ∀ d (m : Nat), m + d = 1728 →
    Ev (fun k => kimberliteref02_ends.l0 k (rowB U) up (if (List.range' m d).any (badE U up n) = true then xs else xs ++ [nthG n]) ((n + 1 : Nat) : Int)) r →
    Ev (fun k => kimberliteref02_ends.l1 k (rowB U) up xs (n : Int) true (m : Int)) r
  | 0, m, hm, h => by
    have h2 : Ev (fun k => kimberliteref02_ends.j2 k (rowB U) up xs (n : Int) true (m : Int) false) r := by
      refine Ev.step h (fun k => ?_)
      show kimberliteref02_ends.j2 (k + 1) (rowB U) up xs (n : Int) true (m : Int) false = _
      rw [kimberliteref02_ends.j2, if_neg (by decide), if_pos rfl, nth_f hn, Option.bind_some, if_pos (by omega), sucN (by omega)]
      rfl
    refine Ev.step h2 (fun k => ?_)
    show kimberliteref02_ends.l1 (k + 1) (rowB U) up xs (n : Int) true (m : Int) = _
    rw [kimberliteref02_ends.l1, if_neg (by omega)]
  | d + 1, m, hm, h => by
    have hm1 : m < 1728 := by omega
    rw [List.range'_succ, List.any_cons] at h
    have body : ∀ k, kimberliteref02_ends.j2 (k + 1) (rowB U) up xs (n : Int) true (m : Int) true = kimberliteref02_ends.l1 k (rowB U) up xs (n : Int) (!badE U up n m) ((m + 1 : Nat) : Int) := fun k => by
      rw [kimberliteref02_ends.j2, if_pos rfl, if_pos (by omega), if_pos (by rw [rowB_len]; omega), rowB_rd U m hm1, sucN (by omega)]
      unfold badE
      cases hU : U (nthG m) with
      | false => rw [if_neg (by decide)]; rfl
      | true =>
        rw [if_pos rfl]
        by_cases e : m = n
        · rw [if_pos (by omega), decide_eq_true e]; rfl
        · rw [if_neg (by omega), decide_eq_false e, nth_f hn, nth_f hm1]
          simp only [Option.bind_some]
          unfold rlU
          cases up with
          | true =>
            rw [if_pos rfl, if_pos rfl, refBelow_gf]
            simp only [Option.bind_some]
            cases belowG (nthG n) (nthG m) <;> rfl
          | false =>
            rw [if_neg (by decide), if_neg (by decide), refBelow_gf]
            simp only [Option.bind_some]
            cases belowG (nthG m) (nthG n) <;> rfl
    have head : ∀ k, kimberliteref02_ends.l1 (k + 1) (rowB U) up xs (n : Int) true (m : Int) = kimberliteref02_ends.j2 k (rowB U) up xs (n : Int) true (m : Int) true := fun k => by
      rw [kimberliteref02_ends.l1, if_pos (by omega)]
    refine Ev.step ?_ head
    refine Ev.step ?_ body
    cases hb : badE U up n m with
    | false =>
      rw [hb, Bool.false_or] at h
      exact ends_l1 U up xs r n hn hx d (m + 1) (by omega) h
    | true =>
      rw [hb, Bool.true_or, if_pos rfl] at h
      exact ends_skip U up xs r n hn _ h
/-- Does the n-th grade stay? -/
def goodE (U : S36 → Bool) (up : Bool) (n : Nat) : Bool := U (nthG n) && !(List.range' 0 1728).any (badE U up n)
theorem ends_l0 (U : S36 → Bool) (up : Bool) : ∀ d (n : Nat) (xs : List S36), n + d = 1728 → xs.length ≤ n → Ev (fun k => kimberliteref02_ends.l0 k (rowB U) up xs (n : Int)) (xs ++ ((List.range' n d).filter (goodE U up)).map nthG)
  | 0, n, xs, hn, hx => by
    refine Ev.step (Ev.pure _) (fun k => ?_)
    show kimberliteref02_ends.l0 (k + 1) (rowB U) up xs (n : Int) = _
    rw [kimberliteref02_ends.l0, if_neg (by omega)]
    simp
  | d + 1, n, xs, hn, hx => by
    have hn1 : n < 1728 := by omega
    rw [List.range'_succ, List.filter_cons]
    cases hU : U (nthG n) with
    | false =>
      have hg : goodE U up n = false := by unfold goodE; rw [hU]; rfl
      rw [hg, if_neg (by decide)]
      refine Ev.step (ends_l0 U up d (n + 1) xs (by omega) (by omega)) (fun k => ?_)
      show kimberliteref02_ends.l0 (k + 1) (rowB U) up xs (n : Int) = _
      rw [kimberliteref02_ends.l0, if_pos (by omega), if_pos (by omega), if_pos (by rw [rowB_len]; omega), rowB_rd U n hn1, hU, if_neg (by decide), sucN (by omega)]
    | true =>
      have head : ∀ k, kimberliteref02_ends.l0 (k + 1) (rowB U) up xs (n : Int) = kimberliteref02_ends.l1 k (rowB U) up xs (n : Int) true ((0 : Nat) : Int) := fun k => by
        rw [kimberliteref02_ends.l0, if_pos (by omega), if_pos (by omega), if_pos (by rw [rowB_len]; omega), rowB_rd U n hn1, hU, if_pos rfl]
        rfl
      refine Ev.step ?_ head
      refine ends_l1 U up xs _ n hn1 (by omega) 1728 0 (by omega) ?_
      unfold goodE
      rw [hU, Bool.true_and]
      cases hb : (List.range' 0 1728).any (badE U up n) with
      | true =>
        rw [if_pos rfl, Bool.not_true, if_neg (by decide)]
        exact ends_l0 U up d (n + 1) xs (by omega) (by omega)
      | false =>
        rw [if_neg (by decide), Bool.not_false, if_pos rfl, List.map_cons]
        have := ends_l0 U up d (n + 1) (xs ++ [nthG n]) (by omega) (by simp; omega)
        rw [List.append_assoc] at this
        exact this
theorem ends_ev (l : List S36) (up : Bool) (hv : ∀ x ∈ l, gok x = true) : Ev (fun k => kimberliteref02_ends.f k (rowB (isIn l)) up) (exF (rlU up) l) := by
  unfold kimberliteref02_ends.f
  have h := ends_l0 (isIn l) up 1728 0 [] (by omega) (by simp)
  refine h.to ?_
  rw [List.nil_append, ex_filter _ _ hv, all_nth, List.filter_map, List.range_eq_range']
  congr 1
  refine List.filter_congr fun n hn => ?_
  have hn1 : n < 1728 := by simpa using List.mem_range'_1.1 hn
  show (isIn l (nthG n) && !(List.range' 0 1728).any (badE (isIn l) up n)) = (isIn l (nthG n) && alone (rlU up) l (nthG n))
  congr 1
  rw [Bool.eq_iff_iff, alone_iff, Bool.not_eq_true', List.any_eq_false]
  constructor
  · intro h o ho hr
    refine Classical.byContradiction fun hne => ?_
    obtain ⟨h1, h2⟩ := nth_pl (hv o ho)
    refine h (plN o) (by rw [List.mem_range'_1]; omega) ?_
    unfold badE
    rw [h1, mem_isIn.2 ho, hr, decide_eq_false (fun e => hne (by rw [← h1, e]))]
    rfl
  · intro h m hm hb
    have hm1 : m < 1728 := by simpa using List.mem_range'_1.1 hm
    unfold badE at hb
    simp only [Bool.and_eq_true, Bool.not_eq_true', decide_eq_false_iff_not] at hb
    obtain ⟨h1, h2, h3⟩ := hb
    have e := h _ (mem_isIn.1 h1) h3
    exact h2 (by rw [← pl_nth hm1, e, pl_nth hn1])
/-- Least, Most. -/
def endF (up : Bool) (l : List S36) : List S36 × Int := if lsF l 256 = 0 then (exF (rlU up) l, 0) else ([], lsF l 256)
theorem refLeast_ev (l : List S36) (up : Bool) (hl : l.length ≤ 1000000) : Ev (fun k => kimberliteref02_Least.f k l up) (endF up l) := by
  unfold kimberliteref02_Least.f endF
  refine Ev.bind (refList_ev l 256 hl) ?_
  by_cases h : lsF l 256 = 0
  · simp only [h, if_true]
    have hv := (lsF_iff.1 h).2
    exact Ev.bind (marks_ev l hv hl) (Ev.bind (ends_ev l up hv) (Ev.pure _))
  · simp only [h, if_false]
    exact Ev.pure _
theorem rl_dn : rlU false = belowG := by funext x y; rfl
theorem rl_up : rlU true = fun x y => belowG y x := by funext x y; rfl
theorem least_f (l : List S36) (hl : l.length ≤ 1000000) : grade_Least.f l = some (endF false l) := by
  unfold grade_Least.f grade_listed.f grade_least.f endF
  rw [rl_dn]
  simp only [Option.bind_some, show l.length < 5000000000000 by omega, if_true]
  split <;> rfl
theorem most_f (l : List S36) (hl : l.length ≤ 1000000) : grade_Most.f l = some (endF true l) := by
  unfold grade_Most.f mostF endF
  rw [rl_up, if_pos (by omega)]
theorem endF_snd (up : Bool) (l : List S36) : (endF up l).2 = lsF l 256 := by
  unfold endF
  split
  · rename_i h; exact h.symm
  · rfl
theorem endF_len (up : Bool) (l : List S36) : (endF up l).1.length ≤ l.length := by
  unfold endF
  split
  · exact exF_len _ _
  · simp
theorem spoil_l0 (r : List S36 → Prop) : ∀ m (j : Nat) (x : List S36), j + m = x.length → x.length ≤ 1000000 → ∃ y, Ev (fun k => kimberlitelaw02_spoil.l0 k x (j : Int)) y
  | 0, j, x, hj, hx => ⟨x, Ev.step (Ev.pure _) (fun k => by
      show kimberlitelaw02_spoil.l0 (k + 1) x (j : Int) = _
      rw [kimberlitelaw02_spoil.l0, if_neg (by omega)])⟩
  | m + 1, j, x, hj, hx => by
    obtain ⟨y, hy⟩ := spoil_l0 r m (j + 1) (x.set j ⟨-1, 99, 5⟩) (by rw [List.length_set]; omega) (by rw [List.length_set]; omega)
    refine ⟨y, Ev.step hy (fun k => ?_)⟩
    show kimberlitelaw02_spoil.l0 (k + 1) x (j : Int) = _
    rw [kimberlitelaw02_spoil.l0, if_pos (by omega), if_pos (by omega), sucN (by omega), Int.toNat_natCast]
theorem spoil_ev (x : List S36) (hx : x.length ≤ 1000000) : ∃ y, Ev (fun k => kimberlitelaw02_spoil.f k x) y := spoil_l0 (fun _ => True) x.length 0 x (by omega) hx
theorem Ev.also {α β : Type} {F : Nat → Option α} {G : Nat → Option β} {P : Nat → Prop} {x : α} {y : β} (h : ∃ k0, ∀ k, k0 ≤ k → P k) (g : Ev F x) : ∃ k0, ∀ k, k0 ≤ k → P k ∧ F k = some x := by
  obtain ⟨a, ha⟩ := h
  obtain ⟨b, hb⟩ := g
  exact ⟨max a b, fun k hk => ⟨ha k (by omega), hb k (by omega)⟩⟩
theorem ends_all (w : World) (A : Option Addr) (c : Nat) (l : List S36) (hC : Kd.C k36 w A l.length l) (hc : l.length ≤ c) :
    Calls Try.prog 6 #[.slice A l.length c] w fun e w' => e = .returned (.bool true) ∧ Below w.heap.size w w' := by
  obtain ⟨k0, h0⟩ := alive_ev
  by_cases hl : l.length ≤ 260
  · have hl2 : l.length ≤ 1000000 := by omega
    have la := endF_len false l
    have lb := endF_len true l
    obtain ⟨k1, h1⟩ := alike_same l hl2
    obtain ⟨k2, h2⟩ := refLeast_ev l false hl2
    obtain ⟨k3, h3⟩ := alike_same (endF false l).1 (by omega)
    obtain ⟨ra, k4, h4⟩ := spoil_ev (endF false l).1 (by omega)
    obtain ⟨k5, h5⟩ := refLeast_ev l true hl2
    obtain ⟨k6, h6⟩ := alike_same (endF true l).1 (by omega)
    obtain ⟨rb, k7, h7⟩ := spoil_ev (endF true l).1 (by omega)
    have ea : endF false l = ((endF false l).1, lsF l 256) := by rw [← endF_snd false l]
    have eb : endF true l = ((endF true l).1, lsF l 256) := by rw [← endF_snd true l]
    let K := k0 + k1 + k2 + k3 + k4 + k5 + k6 + k7
    exact ends_few w A c l hC hc hl K (h0 K (by omega)) (h1 K (by omega)) _ _ ra rb (lsF l 256) (by rw [least_f l hl2, ← ea]) (by rw [← ea]; exact h2 K (by omega)) (h3 K (by omega)) (h4 K (by omega))
      (by rw [most_f l hl2, ← eb]) (by rw [← eb]; exact h5 K (by omega)) (h6 K (by omega)) (h7 K (by omega))
  · exact ends_many w A c l hC hc (by omega) k0 (h0 k0 (Nat.le_refl _))
end Go.Proofs.Ytnbdfmdjedakcaa.PP
