/- No conditions. -/
import Derived.Test.YtnbdfmdjedakcaaHD
import Derived.Test.YtnbdfmdjedakcaaExt2
import Derived.Test.YtnbdfmdjedakcaaQ51
namespace Go.Proofs.Ytnbdfmdjedakcaa.PP
open Go.RowKit Go.Proofs.YtnbdfmdjedakcaaW.PrintWords Go.Proofs.YtnbdfmdjedakcaaW.PrintLast Go.Proofs.YtnbdfmdjedakcaaW.PrintMore Go.Proofs.Ytnbdfmdjedakcaa
theorem anB_of {l : List S36} (h : Anti l) : anB l = true := anB_iff.2 h
def clU (U : S36 → Bool) : List S36 := edgeL U (-1)
theorem clU_anti {U : S36 → Bool} (h : UpC U) : Anti (clU U) := anti_min h
theorem clU_up {U : S36 → Bool} (h : UpC U) {g : S36} (hg : gok g = true) : upS (clU U) g = U g := up_min h hg
theorem clU_of {l : List S36} (h : Anti l) : clU (upS l) = l := h.edge
theorem clU_congr {U V : S36 → Bool} (h : ∀ g, gok g = true → U g = V g) : clU U = clU V := edge_congr h
theorem up_or {U V : S36 → Bool} (hU : UpC U) (hV : UpC V) : UpC fun g => U g || V g := fun x y hx hy hb h => by
 simp only [Bool.or_eq_true] at *
 rcases h with h | h
 ·exact .inl (hU x y hx hy hb h)
 ·exact .inr (hV x y hx hy hb h)
theorem up_and {U V : S36 → Bool} (hU : UpC U) (hV : UpC V) : UpC fun g => U g && V g := fun x y hx hy hb h => by
 simp only [Bool.and_eq_true] at *
 exact ⟨hU x y hx hy hb h.1, hV x y hx hy hb h.2⟩
theorem upS_append (a b : List S36) (g : S36) : upS (a ++ b) g = (upS a g || upS b g) := by
 unfold upS
 rw [List.any_append]
theorem join_below {x y g : S36} : belowG (joinG x y) g = true ↔ belowG x g = true ∧ belowG y g = true := by
 rw [below_iff, below_iff, below_iff]
 unfold joinG mx
 simp only
 constructor
 ·intro h
  refine ⟨⟨?_, ?_, ?_⟩, ?_, ?_, ?_⟩
  all_goals (obtain ⟨h0, h1, h2⟩ := h; first | (split at h0 <;> omega) | (split at h1 <;> omega) | (split at h2 <;> omega))
 ·rintro ⟨⟨a0, a1, a2⟩, b0, b1, b2⟩
  refine ⟨?_, ?_, ?_⟩ <;> (split <;> omega)
theorem upS_joins (a b : List S36) (g : S36) : upS (joins a b) g = (upS a g && upS b g) := by
 rw [Bool.eq_iff_iff, Bool.and_eq_true, upS_iff, upS_iff, upS_iff]
 unfold joins
 constructor
 ·rintro ⟨o, ho, h⟩
  obtain ⟨x, hx, ho⟩ := List.mem_flatMap.1 ho
  obtain ⟨y, hy, rfl⟩ := List.mem_map.1 ho
  obtain ⟨h1, h2⟩ := join_below.1 h
  exact ⟨⟨x, hx, h1⟩, y, hy, h2⟩
 ·rintro ⟨⟨x, hx, h1⟩, y, hy, h2⟩
  exact ⟨_, List.mem_flatMap.2 ⟨x, hx, List.mem_map.2 ⟨y, hy, rfl⟩⟩, join_below.2 ⟨h1, h2⟩⟩
theorem eit_cl {a b : List S36} (ha : Anti a) (hb : Anti b) : eitF a b = (clU fun g => upS a g || upS b g, 0) := by
 unfold eitF
 rw [anB_of ha, anB_of hb, if_pos (by decide), least_edge (fun x hx => by
  rcases List.mem_append.1 hx with h | h
  ·exact ha.1 x h
  ·exact hb.1 x h)]
 congr 1
 exact edge_congr fun g _ => upS_append a b g
theorem bot_cl {a b : List S36} (ha : Anti a) (hb : Anti b) : botF a b = (clU fun g => upS a g && upS b g, 0) := by
 unfold botF
 rw [anB_of ha, anB_of hb, if_pos (by decide), least_edge (fun x hx => by
  obtain ⟨p, hp, hx⟩ := List.mem_flatMap.1 hx
  obtain ⟨q, hq, rfl⟩ := List.mem_map.1 hx
  exact gok_join (ha.1 p hp) (hb.1 q hq))]
 congr 1
 exact edge_congr fun g _ => upS_joins a b g
theorem dn_not {U : S36 → Bool} (h : UpC U) : DnC fun g => !U g := fun x y hx hy hb hq => by
 have hq2 : (!U y) = true := hq
 show (!U x) = true
 cases e : U x with
 | false => rfl
 | true => rw [h x y hx hy hb e] at hq2; exact absurd hq2 (by decide)
theorem out_cl {c : List S36} (h : Anti c) : outF c = (edgeL (fun g => !upS c g) 1, 0) := by
 unfold outF; rw [anB_of h, if_pos rfl]
theorem out_anti (c : List S36) : Anti (edgeL (fun g => !upS c g) 1) := anti_max (dn_not (upS_up c))
theorem bey_out {c : List S36} (h : Anti c) : beyF (edgeL (fun g => !upS c g) 1) = (c, 0) := by
 unfold beyF
 rw [anB_of (out_anti c), if_pos rfl]
 congr 1
 rw [← h.edge]
 refine edge_congr fun g hg => ?_
 rw [dn_max (dn_not (upS_up _)) hg, Bool.not_not, h.edge]
theorem eit_f {a b : List S36} (ha : Anti a) (hb : Anti b) : grade_Either.f a b = some (clU fun g => upS a g || upS b g, 0) := by
 have h1 := ha.short
 have h2 := hb.short
 unfold grade_Either.f
 rw [if_pos ⟨by omega, by omega⟩, eit_cl ha hb]
theorem bot_f {a b : List S36} (ha : Anti a) (hb : Anti b) : grade_Both.f a b = some (clU fun g => upS a g && upS b g, 0) := by
 have h1 := ha.short
 have h2 := hb.short
 unfold grade_Both.f
 rw [if_pos ⟨by omega, by omega⟩, bot_cl ha hb]
theorem anti_ev {c : List S36} (h : Anti c) : Ev (fun k => grade_antichain.f k c) true := by
 have h1 := h.short
 exact (antichain_ev c (by omega)).to (anB_of h)
theorem in_ev {c : List S36} (h : Anti c) (x : S36) : Ev (fun k => grade_In.f k c x.f0 x.f1 x.f2) (if gok x = true then (upS c x, 0) else (false, 2)) := by
 unfold grade_In.f
 refine Ev.bind (anti_ev h) ?_
 simp only [if_true]
 unfold grade_valid.f grade_in.f
 simp only [Option.bind_some]
 show Ev (fun k => if gok x = true then some (upS c x, 0) else some (false, 2)) _
 by_cases hg : gok x = true
 ·simp only [hg, if_true]; exact Ev.pure _
 ·simp only [hg]; exact Ev.pure _
theorem count_cl {c : List S36} (h : Anti c) : Ev (fun k => grade_Count.f k c) ((((allL.filter (upS c)).length : Nat) : Int), 0) := count_ev (anti_ev h)
theorem incl_excl (P Q : S36 → Bool) : ∀ l : List S36, (l.filter fun g => P g || Q g).length + (l.filter fun g => P g && Q g).length = (l.filter P).length + (l.filter Q).length
 | [] => rfl
 | x :: l => by
  have := incl_excl P Q l
  simp only [List.filter_cons]
  cases P x <;> cases Q x <;> simp <;> omega
theorem filter_le (P Q : S36 → Bool) : ∀ l : List S36, (∀ x ∈ l, P x = true → Q x = true) → (l.filter P).length ≤ (l.filter Q).length
 | [], _ => Nat.le_refl _
 | x :: l, h => by
  have := filter_le P Q l (fun y hy => h y (List.mem_cons_of_mem _ hy))
  simp only [List.filter_cons]
  have hx := h x List.mem_cons_self
  cases hp : P x with
  | false => cases Q x <;> simp <;> omega
  | true => rw [hx hp]; simp; omega
end Go.Proofs.Ytnbdfmdjedakcaa.PP
