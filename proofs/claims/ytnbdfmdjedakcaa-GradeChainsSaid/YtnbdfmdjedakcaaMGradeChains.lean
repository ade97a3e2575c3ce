/- The law GradeChains, as plain Lean: what its calls answer. No conditions. -/
import Derived.Test.YtnbdfmdjedakcaaD5
import Derived.Test.YtnbdfmdjedakcaaH32
namespace Go.Proofs.Ytnbdfmdjedakcaa.PP
open Go.RowKit Go.Proofs.YtnbdfmdjedakcaaW.PrintWords Go.Proofs.YtnbdfmdjedakcaaW.PrintLast Go.Proofs.YtnbdfmdjedakcaaW.PrintMore Go.Proofs.Ytnbdfmdjedakcaa
set_option linter.unusedVariables false
set_option linter.unusedSimpArgs false
section
variable {l : List S36} {at_ : List Int} {c : Nat}
theorem rd_at (i : Nat) : rd at_ (i : Int) = at_.getD i 0 := by unfold rd; rw [Int.toNat_natCast]
theorem chained_l3 (hP : ChainedP l.length (befG l) at_ c) (hl : l.length ≤ 1000000) (i : Nat) (hi : i < l.length) (h : Ev (fun k => kimberliteref02_Chained.l2 k l at_ (c : Int) ((i + 1 : Nat) : Int)) true) : ∀ m (j : Nat), j + m = i → Ev (fun k => kimberliteref02_Chained.l3 k l at_ (c : Int) (i : Int) (j : Int)) true
  | 0, j, hj => by
    refine Ev.step h (fun k => ?_)
    show kimberliteref02_Chained.l3 (k + 1) l at_ (c : Int) (i : Int) (j : Int) = _
    rw [kimberliteref02_Chained.l3, if_neg (by omega), sucD (by omega)]
  | m + 1, j, hj => by
    have ih := chained_l3 hP hl i hi h m (j + 1) (by omega)
    refine Ev.step ih (fun k => ?_)
    show kimberliteref02_Chained.l3 (k + 1) l at_ (c : Int) (i : Int) (j : Int) = _
    rw [kimberliteref02_Chained.l3, if_pos (by omega), hP.1, if_pos (by omega), if_pos (by omega), if_pos (by omega), if_pos (by omega), rd_at, rd_at, refBefore_f hi (show j < l.length by omega), refBefore_f (show j < l.length by omega) hi, sucD (by omega)]
    by_cases e : at_.getD i 0 = at_.getD j 0
    · rw [if_pos e]
      rcases hP.2.2.2 i j hi (by omega) (by omega) e with h1 | h1
      · rw [h1]; rfl
      · cases h2 : befG l i j with
        | true => rfl
        | false => rw [h1]; rfl
    · rw [if_neg e]
theorem chained_l2 (hP : ChainedP l.length (befG l) at_ c) (hl : l.length ≤ 1000000) : ∀ m (i : Nat), i + m = l.length → Ev (fun k => kimberliteref02_Chained.l2 k l at_ (c : Int) (i : Int)) true
  | 0, i, hi => by
    refine Ev.step (Ev.pure _) (fun k => ?_)
    show kimberliteref02_Chained.l2 (k + 1) l at_ (c : Int) (i : Int) = _
    rw [kimberliteref02_Chained.l2, hP.1, if_neg (by omega)]
  | m + 1, i, hi => by
    have h1 := chained_l3 hP hl i (by omega) (chained_l2 hP hl m (i + 1) (by omega)) i 0 (by omega)
    have h2 := hP.2.2.1 i (by omega)
    refine Ev.step (G := fun k => kimberliteref02_Chained.j3 k l at_ (c : Int) (i : Int) false) ?_ (fun k => ?_)
    · refine Ev.step h1 (fun k => ?_)
      show kimberliteref02_Chained.j3 (k + 1) l at_ (c : Int) (i : Int) false = _
      rw [kimberliteref02_Chained.j3, if_neg (by decide)]
      rfl
    · show kimberliteref02_Chained.l2 (k + 1) l at_ (c : Int) (i : Int) = _
      rw [kimberliteref02_Chained.l2, hP.1, if_pos (by omega), if_pos (by omega), rd_at, if_neg (by omega), decide_eq_false (by omega)]
theorem chained_l1 (hP : ChainedP l.length (befG l) at_ c) (hl : l.length ≤ 1000000) (x : Nat) (h : Ev (fun k => kimberliteref02_Chained.l0 k l at_ (c : Int) ((x + 1 : Nat) : Int)) true) (hx : x ≤ 1000000) : ∀ m (i : Nat) (b : Bool), i + m = l.length → (b = true ∨ ∃ j, i ≤ j ∧ j < l.length ∧ at_.getD j 0 = (x : Int)) → Ev (fun k => kimberliteref02_Chained.l1 k l at_ (c : Int) (x : Int) b (i : Int)) true
  | 0, i, b, hi, hb => by
    obtain rfl : b = true := by
      rcases hb with hb | ⟨j, h1, h2, _⟩
      · exact hb
      · omega
    refine Ev.step h (fun k => ?_)
    show kimberliteref02_Chained.l1 (k + 1) l at_ (c : Int) (x : Int) true (i : Int) = _
    rw [kimberliteref02_Chained.l1, hP.1, if_neg (by omega), if_pos rfl, sucD (by omega)]
  | m + 1, i, b, hi, hb => by
    cases b with
    | true =>
      refine Ev.step (chained_l1 hP hl x h hx m (i + 1) true (by omega) (.inl rfl)) (fun k => ?_)
      show kimberliteref02_Chained.l1 (k + 1) l at_ (c : Int) (x : Int) true (i : Int) = _
      rw [kimberliteref02_Chained.l1, hP.1, if_pos (by omega), if_pos rfl, sucD (by omega)]
    | false =>
      refine Ev.step (chained_l1 hP hl x h hx m (i + 1) (at_.getD i 0 == (x : Int)) (by omega) ?_) (fun k => ?_)
      · rcases hb with hb | ⟨j, h1, h2, h3⟩
        · exact absurd hb (by decide)
        · by_cases e : j = i
          · subst e; exact .inl (by rw [h3]; simp)
          · exact .inr ⟨j, by omega, h2, h3⟩
      · show kimberliteref02_Chained.l1 (k + 1) l at_ (c : Int) (x : Int) false (i : Int) = _
        rw [kimberliteref02_Chained.l1, hP.1, if_pos (by omega), if_neg (by decide), if_pos (by omega), rd_at, sucD (by omega)]
theorem chained_l0 (hP : ChainedP l.length (befG l) at_ c) (hl : l.length ≤ 1000000) (hc : c ≤ 1000000) : ∀ m (x : Nat), x + m = c → Ev (fun k => kimberliteref02_Chained.l0 k l at_ (c : Int) (x : Int)) true
  | 0, x, hx => by
    refine Ev.step (chained_l2 hP hl l.length 0 (by omega)) (fun k => ?_)
    show kimberliteref02_Chained.l0 (k + 1) l at_ (c : Int) (x : Int) = _
    rw [kimberliteref02_Chained.l0, if_neg (by omega)]
    rfl
  | m + 1, x, hx => by
    obtain ⟨j, h1, h2⟩ := hP.2.1 x (by omega)
    refine Ev.step (chained_l1 hP hl x (chained_l0 hP hl hc m (x + 1) (by omega)) (by omega) l.length 0 false (by omega) (.inr ⟨j, Nat.zero_le _, h1, h2⟩)) (fun k => ?_)
    show kimberliteref02_Chained.l0 (k + 1) l at_ (c : Int) (x : Int) = _
    rw [kimberliteref02_Chained.l0, if_pos (by omega)]
    rfl
theorem chained_ev (hP : ChainedP l.length (befG l) at_ c) (hl : l.length ≤ 1000000) (hc : c ≤ 1000000) : Ev (fun k => kimberliteref02_Chained.f k l at_ (c : Int)) true := by
  unfold kimberliteref02_Chained.f
  simp only [hP.1, if_true]
  exact chained_l0 hP hl hc c 0 (by omega)
end
theorem same_l0 (x : List Int) (hx : x.length ≤ 1000000) : ∀ m (j : Nat), j + m = x.length → Ev (fun k => kimberlitelaw02_same.l0 k x x (j : Int)) true
  | 0, j, hj => by
    refine Ev.step (Ev.pure _) (fun k => ?_)
    show kimberlitelaw02_same.l0 (k + 1) x x (j : Int) = _
    rw [kimberlitelaw02_same.l0, if_neg (by omega)]
  | m + 1, j, hj => by
    refine Ev.step (same_l0 x hx m (j + 1) (by omega)) (fun k => ?_)
    show kimberlitelaw02_same.l0 (k + 1) x x (j : Int) = _
    rw [kimberlitelaw02_same.l0, if_pos (by omega), if_pos (by omega), if_pos (by omega), if_pos rfl, sucD (by omega)]
theorem same_same (x : List Int) (hx : x.length ≤ 1000000) : Ev (fun k => kimberlitelaw02_same.f k x x) true := by
  unfold kimberlitelaw02_same.f
  simp only [if_true]
  exact same_l0 x hx x.length 0 (by omega)
theorem chains_all (w : World) (A : Option Addr) (ca : Nat) (a : List S36) (hA : Kd.C k36 w A a.length a) (hca : a.length ≤ ca) :
    Calls Try.prog 7 #[.slice A a.length ca] w fun e w' => e = .returned (.bool true) ∧ Below w.heap.size w w' := by
  obtain ⟨k0, h0⟩ := alive_ev
  by_cases ha : a.length ≤ 40
  · obtain ⟨k1, h1⟩ := alike_same a (by omega)
    by_cases hz : lsF a 32 = 0
    · have hlen := lsF_len hz
      obtain ⟨N, L, m, hd, hM, hw, at_, hc, hP⟩ := chains_top a (by omega)
      have hlt : (topL a N L).length ≤ a.length := by
        unfold topL
        rw [List.length_map]
        have := List.length_filter_le (topA a.length (befG a) (fun _ => true) N L) (List.range a.length)
        rwa [List.length_range] at this
      obtain ⟨k2, h2⟩ := refWidth_ok a hz hd hM
      obtain ⟨k3, h3⟩ := chained_ev hP (by omega) (by omega)
      obtain ⟨k4, h4⟩ := same_same (topL a N L) (by omega)
      exact chains_main w A ca a hA hca ha (k0 + k1 + k2 + k3 + k4) _ _ at_ (hw hz) (h2 _ (by omega)) (hc hz) (h3 _ (by omega)) (h4 _ (by omega)) (h1 _ (by omega)) (h0 _ (by omega))
    · obtain ⟨k2, h2⟩ := refWidth_no a (by omega) hz
      obtain ⟨k4, h4⟩ := same_same [] (by simp)
      exact chains_err w A ca a hA hca ha (k0 + k1 + k2 + k4) _ hz (by unfold widthF; rw [if_neg hz]) (h2 _ (by omega)) (by unfold chainF; rw [if_neg hz]) (h4 _ (by omega)) (h1 _ (by omega)) (h0 _ (by omega))
  · exact chains_many w A ca a ha k0 (h0 _ (Nat.le_refl _))
end Go.Proofs.Ytnbdfmdjedakcaa.PP
