/- The contracts of pair.Match and pair.Parts, in the words of the printed texts. No conditions. -/
import Derived.Test.YtnbdfmdjedakcaaQ0
import Derived.Test.YtnbdfmdjedakcaaPrC
namespace Go.Proofs.Ytnbdfmdjedakcaa.PP
open Go.RowKit Go.Proofs.YtnbdfmdjedakcaaW.PrintWords Go.Proofs.YtnbdfmdjedakcaaW.PrintLast Go.Proofs.YtnbdfmdjedakcaaW.PrintMore Go.Proofs.Ytnbdfmdjedakcaa.Pr
set_option linter.unusedVariables false
set_option linter.unusedSimpArgs false
/-- The edges as pairs. -/
def prs (l : List S101) : List (Int × Int) := l.map fun e => (e.f0, e.f1)
theorem prs_len (l : List S101) : (prs l).length = l.length := by simp [prs]
theorem prs_getD (l : List S101) (j : Nat) : (prs l).getD j (0, 0) = ((l.getD j z101).f0, (l.getD j z101).f1) := by
  simp only [prs, List.getD_eq_getElem?_getD, List.getElem?_map]
  cases l[j]? with
  | none => rfl
  | some x => rfl
theorem rdE_of {w : World} {A : Option Addr} {l : List S101} (h : Kd.C k101 w A l.length l) : RdE w A (prs l) := by
  intro j hj
  rw [prs_len] at hj
  obtain ⟨ad, e, h1, h2⟩ := at_T101 h (j : Int) (by omega) (by omega)
  rw [prs_getD]
  simp only [Int.toNat_natCast] at h1 h2
  exact ⟨ad, e, h1, h2⟩
theorem rdZ_of {w : World} {A : Option Addr} {l : List Int} (h : Kd.C (Kd.int .i64) w A l.length l) : RdZ w A l := by
  intro j hj
  obtain ⟨ad, c, e, hl, hK, hc⟩ := Kd.C_get h (0 : Int) (j : Int) (by omega) (by omega)
  refine ⟨ad, e, ?_⟩
  have h1 : c = [.int .i64 (l.getD (j : Int).toNat 0)] := hK
  have h2 := hc 0 (.int .i64 (l.getD (j : Int).toNat 0)) (by rw [h1]; rfl)
  have h3 : (j : Int).toNat * (Kd.int .i64).sz + 0 = j := by
    show (j : Int).toNat * 1 + 0 = j
    omega
  rw [h3] at h2
  simpa using h2
theorem reps_ints {w : World} {base : Nat} {ok : Nat → Prop} (l : List Int) : Reps ((Kd.int .i64).M w base ok) 1 l (l.map fun x => Value.int .i64 x) := by
  refine ⟨by simp, fun j p hp => ?_⟩
  show _ = [_]
  rw [Nat.mul_one]
  have hlt : j < l.length := by
    rcases Nat.lt_or_ge j l.length with h | h
    · exact h
    · rw [List.getElem?_eq_none h] at hp; exact absurd hp (by simp)
  rw [List.getElem?_eq_getElem hlt] at hp
  have hv := Option.some.inj hp
  rw [List.drop_eq_getElem_cons (by simpa using hlt)]
  simp only [List.take_succ_cons, List.take_zero, List.getElem_map, hv]
theorem row_R {w : World} {base : Nat} {v : Value} {l : List Int} (h : w.ownsRow base 3 1 v l.length (l.map fun x => Value.int .i64 x)) : Kd.R (Kd.int .i64) 3 w base (fun _ => True) v l :=
  ⟨fun _ _ => trivial, _, h, reps_ints l⟩

def pair_Match.f (a0 : Int) (l1 : List S101) : Option (List Int × Int × Int) := matchF a0 (prs l1)
theorem pair_Match.calls (a0 : Int) (A1 : Option Addr) (c1 : Nat) (l1 : List S101) (r1 : List Int) (r2 r3 : Int) (w : World) (hr1 : Kd.C k101 w A1 l1.length l1) (hc1 : l1.length ≤ c1) (h : pair_Match.f a0 l1 = some (r1, r2, r3)) :
    Calls Try.prog 98 #[.int .i64 a0, .slice A1 l1.length c1] w fun e w' => ∃ v0_ : Value, e = .returned (.tuple #[v0_, .int .i64 r2, .int .i64 r3]) ∧ Kd.R (Kd.int .i64) 3 w' w.heap.size (fun _ => True) v0_ r1 ∧ Below w.heap.size w w' := by
  rw [← prs_len l1]
  refine (matchF_any w a0 A1 c1 (prs l1) (rdE_of hr1) r1 r2 r3 h).mono ?_
  rintro e w1 ⟨v, rfl, ho, hb⟩
  exact ⟨v, rfl, row_R ho, hb⟩

def pair_Parts.f (a0 : Int) (l1 : List S101) : Option (List Int × Int) := partsF a0 (prs l1)
theorem pair_Parts.calls (a0 : Int) (A1 : Option Addr) (c1 : Nat) (l1 : List S101) (r1 : List Int) (r2 : Int) (w : World) (hr1 : Kd.C k101 w A1 l1.length l1) (hc1 : l1.length ≤ c1) (h : pair_Parts.f a0 l1 = some (r1, r2)) :
    Calls Try.prog 99 #[.int .i64 a0, .slice A1 l1.length c1] w fun e w' => ∃ v0_ : Value, e = .returned (.tuple #[v0_, .int .i64 r2]) ∧ Kd.R (Kd.int .i64) 3 w' w.heap.size (fun _ => True) v0_ r1 ∧ Below w.heap.size w w' := by
  rw [← prs_len l1]
  refine (partsF_any w a0 A1 c1 (prs l1) (rdE_of hr1) r1 r2 h).mono ?_
  rintro e w1 ⟨v, rfl, ho, hb⟩
  exact ⟨v, rfl, row_R ho, hb⟩

end Go.Proofs.Ytnbdfmdjedakcaa.PP
