/- The reference's Width is the uppermost greatest antichain. Plain. No conditions. -/
import Derived.Test.YtnbdfmdjedakcaaD4
import Derived.Test.YtnbdfmdjedakcaaU2
namespace Go.Proofs.Ytnbdfmdjedakcaa.PP
open Go.RowKit Go.Proofs.YtnbdfmdjedakcaaW.PrintWords Go.Proofs.YtnbdfmdjedakcaaW.PrintLast Go.Proofs.YtnbdfmdjedakcaaW.PrintMore Go.Proofs.Ytnbdfmdjedakcaa
set_option linter.unusedVariables false
set_option linter.unusedSimpArgs false
theorem card_true : ∀ n, card n (fun _ : Nat => true) = n
  | 0 => rfl
  | n + 1 => by rw [card, card_true n]; rfl
theorem wid_all {l : List S36} {N L : Nat → Int} {m : Nat} (hd : lkd l 2000 l.length = some (N, L)) (hM : Mat l.length (befG l) (fun _ => true) N L m) : wid l.length (befG l) (fun _ => true) 2000 = some (l.length - m) := by
  have e : inRel (fun _ => true) (befG l) = befG l := by funext i j; exact Bool.true_and _
  rw [lkd_eq] at hd
  unfold wid
  rw [e]
  cases hr : runK l.length (befG l) (fun _ => true) 2000 l.length with
  | none => rw [hr] at hd; exact absurd hd (by simp)
  | some q =>
    obtain ⟨N1, L1, m1⟩ := q
    rw [hr] at hd
    have h9 := Option.some.inj hd
    simp only [Prod.mk.injEq] at h9
    obtain ⟨rfl, rfl⟩ := h9
    have h1 := (runK_inv _ (Nat.le_refl _) _ _ _ hr).f
    have h2 := hM.k.f
    simp only [card_true]
    rw [h1, h2]
theorem high_top {l : List S36} {N L : Nat → Int} {m : Nat} (hl : l.length ≤ 32) (hd : lkd l 2000 l.length = some (N, L)) (hM : Mat l.length (befG l) (fun _ => true) N L m) {x : Nat} (hx : x < l.length) : highB l.length (befG l) (someB l.length (befG l) 2000 (l.length - m)) l.length x = topA l.length (befG l) (fun _ => true) N L x := by
  have hF : l.length * (l.length + 1) + l.length < 2000 := by
    have : l.length * (l.length + 1) ≤ 32 * 33 := Nat.mul_le_mul hl (by omega)
    omega
  have S := bef_strict l
  have hw := wid_all hd hM
  have tc := hM.top_card
  have ta := hM.top_ant
  rw [card_true] at tc
  have some2 : ∀ i, i < l.length → (someB l.length (befG l) 2000 (l.length - m) i = true ↔ ∃ B, Ant l.length (befG l) (fun _ => true) B ∧ card l.length B = l.length - m ∧ B i = true) := fun i hi => by
    obtain ⟨v, hv⟩ := wid_some S hF (apartI (befG l) i)
    unfold someB
    rw [hv, ← some_iff S hi hw hv]
    exact decide_eq_true_iff
  have some1 : ∀ a, a < l.length → topA l.length (befG l) (fun _ => true) N L a = true → someB l.length (befG l) 2000 (l.length - m) a = true := fun a ha ht => (some2 a ha).2 ⟨_, ta, by omega, ht⟩
  have abv : ∀ i, i < l.length → someB l.length (befG l) 2000 (l.length - m) i = true → ∃ a, a < l.length ∧ topA l.length (befG l) (fun _ => true) N L a = true ∧ (i = a ∨ befG l i a = true) := fun i hi hs => by
    obtain ⟨B, hB, hc, hb⟩ := (some2 i hi).1 hs
    exact hM.top_above hB (by rw [card_true]; omega) hi hb
  rw [Bool.eq_iff_iff]
  unfold highB
  rw [Bool.and_eq_true, List.all_eq_true]
  constructor
  · rintro ⟨h1, h2⟩
    obtain ⟨a, ha, ht, h3⟩ := abv x hx h1
    rcases h3 with rfl | h3
    · exact ht
    · have := h2 a (List.mem_range.2 ha)
      rw [some1 a ha ht, h3] at this
      exact absurd this (by decide)
  · intro ht
    refine ⟨some1 x hx ht, fun q hq => ?_⟩
    have hq := List.mem_range.1 hq
    rw [Bool.not_eq_true', Bool.and_eq_false_iff]
    cases hs : someB l.length (befG l) 2000 (l.length - m) q with
    | false => exact .inl rfl
    | true =>
      right
      cases hr : befG l x q with
      | false => rfl
      | true =>
        obtain ⟨a, ha, hta, h3⟩ := abv q hq hs
        have : befG l x a = true := by
          rcases h3 with rfl | h3
          · exact hr
          · exact S.tr _ _ _ hx hq ha hr h3
        rw [ta.2 x a hx ha ht hta] at this
        exact absurd this (by decide)
theorem refWidth_ok (l : List S36) (h0 : lsF l 32 = 0) {N L : Nat → Int} {m : Nat} (hd : lkd l 2000 l.length = some (N, L)) (hM : Mat l.length (befG l) (fun _ => true) N L m) : Ev (fun k => kimberliteref02_Width.f k l) (((l.length - m : Nat) : Int), topL l N L, 0) := by
  have hlen := lsF_len h0
  have hl : l.length ≤ 32 := by omega
  have hF : l.length * (l.length + 1) + l.length < 2000 := by
    have : l.length * (l.length + 1) ≤ 32 * 33 := Nat.mul_le_mul hl (by omega)
    omega
  have h1 := Width_l0 (l := l) (by omega) 2000 hF (wid_all hd hM) l.length 0 (by omega)
  unfold kimberliteref02_Width.f
  refine Ev.bind ((refList_ev l 32 (by omega)).to h0) ?_
  simp only [if_true, if_pos (show (0 : Int) ≤ (l.length : Int) by omega), Int.toNat_natCast, if_pos (show l.length ≤ 281474976710656 by omega), tab_rep]
  refine (h1.same (fun k => ?_)).to ?_
  · rw [tab_congr (f := fun x => decide (x < 0)) (g := fun _ => false) (fun x hx => by simp)]
    rfl
  · unfold topL
    rw [show (List.range l.length).filter (highB l.length (befG l) (someB l.length (befG l) 2000 (l.length - m)) l.length) = (List.range l.length).filter (topA l.length (befG l) (fun _ => true) N L) from List.filter_congr fun x hx => high_top hl hd hM (List.mem_range.1 hx)]
theorem refWidth_no (l : List S36) (hl : l.length ≤ 1000000) (h0 : lsF l 32 ≠ 0) : Ev (fun k => kimberliteref02_Width.f k l) (0, [], lsF l 32) := by
  unfold kimberliteref02_Width.f
  refine Ev.bind (refList_ev l 32 hl) ?_
  simp only [if_neg h0]
  exact Ev.pure _
end Go.Proofs.Ytnbdfmdjedakcaa.PP
