/- The contracts of package pair's functions, in the words of the printed law texts. No conditions. -/
import Derived.Test.YthhgdndjnflklaaQ0
import Derived.Test.YthhgdndjnflklaaGC
namespace Go.Proofs.Ythhgdndjnflklaa.PP
open Go.RowKit Go.Proofs.YthhgdndjnflklaaW.PrintWords Go.Proofs.YthhgdndjnflklaaW.PrintLast Go.Proofs.YthhgdndjnflklaaW.PrintMore
set_option linter.unusedVariables false
set_option linter.unusedSimpArgs false

/-- The edges as pairs. -/
def prs (l : List S41) : List (Int × Int) := l.map fun e => (e.f0, e.f1)
theorem prs_len (l : List S41) : (prs l).length = l.length := by simp [prs]
theorem prs_getD (l : List S41) (j : Nat) : (prs l).getD j (0, 0) = ((l.getD j z41).f0, (l.getD j z41).f1) := by
  simp only [prs, List.getD_eq_getElem?_getD, List.getElem?_map]
  cases l[j]? with
  | none => rfl
  | some x => rfl
theorem rdE_of {w : World} {A : Option Addr} {l : List S41} (h : Kd.C k41 w A l.length l) : RdE w A (prs l) := by
  intro j hj
  rw [prs_len] at hj
  obtain ⟨ad, e, h1, h2⟩ := at_T41 h (j : Int) (by omega) (by omega)
  rw [prs_getD]
  simp only [Int.toNat_natCast] at h1 h2
  exact ⟨ad, e, h1, h2⟩
theorem rdZ_of {w : World} {A : Option Addr} {l : List Int} (h : Kd.C (Kd.int .i64) w A l.length l) : RdZ w A l := by
  intro j hj
  obtain ⟨ad, c, e, hl, hK, hc⟩ := Kd.C_get h (0 : Int) (j : Int) (by omega) (by omega)
  refine ⟨ad, e, ?_⟩
  have h1 : c = [.int .i64 (l.getD (j : Int).toNat 0)] := hK
  have h2 := hc 0 (.int .i64 (l.getD (j : Int).toNat 0)) (by rw [h1]; rfl)
  have h3 : (j : Int).toNat * (Kd.int .i64).sz + 0 = j := by
    show (j : Int).toNat * 1 + 0 = j
    omega
  rw [h3] at h2
  simpa using h2
theorem reps_ints {w : World} {base : Nat} {ok : Nat → Prop} (l : List Int) : Reps ((Kd.int .i64).M w base ok) 1 l (l.map fun x => Value.int .i64 x) := by
  refine ⟨by simp, fun j p hp => ?_⟩
  show _ = [_]
  rw [Nat.mul_one]
  have hlt : j < l.length := by
    rcases Nat.lt_or_ge j l.length with h | h
    · exact h
    · rw [List.getElem?_eq_none h] at hp; exact absurd hp (by simp)
  rw [List.getElem?_eq_getElem hlt] at hp
  have hv := Option.some.inj hp
  rw [List.drop_eq_getElem_cons (by simpa using hlt)]
  simp only [List.take_succ_cons, List.take_zero, List.getElem_map, hv]
theorem row_R {w : World} {base : Nat} {v : Value} {l : List Int} (h : w.ownsRow base 3 1 v l.length (l.map fun x => Value.int .i64 x)) : Kd.R (Kd.int .i64) 3 w base (fun _ => True) v l :=
  ⟨fun _ _ => trivial, _, h, reps_ints l⟩

def pair_Match.f (a0 : Int) (l1 : List S41) : Option (List Int × Int × Int) := matchF a0 (prs l1)
theorem pair_Match.calls (a0 : Int) (A1 : Option Addr) (c1 : Nat) (l1 : List S41) (r1 : List Int) (r2 r3 : Int) (w : World) (hr1 : Kd.C k41 w A1 l1.length l1) (hc1 : l1.length ≤ c1) (h : pair_Match.f a0 l1 = some (r1, r2, r3)) :
    Calls Try.prog 19 #[.int .i64 a0, .slice A1 l1.length c1] w fun e w' => ∃ v0_ : Value, e = .returned (.tuple #[v0_, .int .i64 r2, .int .i64 r3]) ∧ Kd.R (Kd.int .i64) 3 w' w.heap.size (fun _ => True) v0_ r1 ∧ Below w.heap.size w w' := by
  rw [← prs_len l1]
  refine (matchF_any w a0 A1 c1 (prs l1) (rdE_of hr1) r1 r2 r3 h).mono ?_
  rintro e w1 ⟨v, rfl, ho, hb⟩
  exact ⟨v, rfl, row_R ho, hb⟩

def pair_Parts.f (a0 : Int) (l1 : List S41) : Option (List Int × Int) := partsF a0 (prs l1)
theorem pair_Parts.calls (a0 : Int) (A1 : Option Addr) (c1 : Nat) (l1 : List S41) (r1 : List Int) (r2 : Int) (w : World) (hr1 : Kd.C k41 w A1 l1.length l1) (hc1 : l1.length ≤ c1) (h : pair_Parts.f a0 l1 = some (r1, r2)) :
    Calls Try.prog 15 #[.int .i64 a0, .slice A1 l1.length c1] w fun e w' => ∃ v0_ : Value, e = .returned (.tuple #[v0_, .int .i64 r2]) ∧ Kd.R (Kd.int .i64) 3 w' w.heap.size (fun _ => True) v0_ r1 ∧ Below w.heap.size w w' := by
  rw [← prs_len l1]
  refine (partsF_any w a0 A1 c1 (prs l1) (rdE_of hr1) r1 r2 h).mono ?_
  rintro e w1 ⟨v, rfl, ho, hb⟩
  exact ⟨v, rfl, row_R ho, hb⟩

def pair_Short.f (a0 : Int) (l1 : List S41) : Option (Int × Int) := shortF a0 (prs l1)
theorem pair_Short.calls (a0 : Int) (A1 : Option Addr) (c1 : Nat) (l1 : List S41) (r1 r2 : Int) (w : World) (hr1 : Kd.C k41 w A1 l1.length l1) (hc1 : l1.length ≤ c1) (h : pair_Short.f a0 l1 = some (r1, r2)) :
    Calls Try.prog 24 #[.int .i64 a0, .slice A1 l1.length c1] w fun e w' => e = .returned (.tuple #[.int .i64 r1, .int .i64 r2]) ∧ Below w.heap.size w w' := by
  rw [← prs_len l1]
  exact short_any w a0 A1 c1 (prs l1) (rdE_of hr1) r1 r2 h

def pair_Pairs.f (a0 : Int) (l1 : List S41) (l2 : List Int) : Option (Int × Int) := if l2.length ≤ 1000000 then pairsF a0 (prs l1) l2 else none
theorem pair_Pairs.calls (a0 : Int) (A1 : Option Addr) (c1 : Nat) (l1 : List S41) (A2 : Option Addr) (c2 : Nat) (l2 : List Int) (r1 r2 : Int) (w : World) (hr1 : Kd.C k41 w A1 l1.length l1) (hc1 : l1.length ≤ c1) (hr2 : Kd.C (Kd.int .i64) w A2 l2.length l2) (hc2 : l2.length ≤ c2) (h : pair_Pairs.f a0 l1 l2 = some (r1, r2)) :
    Calls Try.prog 28 #[.int .i64 a0, .slice A1 l1.length c1, .slice A2 l2.length c2] w fun e w' => e = .returned (.tuple #[.int .i64 r1, .int .i64 r2]) ∧ Below w.heap.size w w' := by
  unfold pair_Pairs.f at h
  split at h
  · rename_i hl
    rw [← prs_len l1]
    exact pairsF_any w a0 A1 c1 (prs l1) A2 c2 l2 (rdE_of hr1) (rdZ_of hr2) hl r1 r2 h
  · exact absurd h (by simp)

def pair_Grows.f (a0 : Int) (l1 : List S41) (l2 : List Int) : Option (List Int × Int) := if l2.length ≤ 1000000 then growsF a0 (prs l1) l2 else none
theorem pair_Grows.calls (a0 : Int) (A1 : Option Addr) (c1 : Nat) (l1 : List S41) (A2 : Option Addr) (c2 : Nat) (l2 : List Int) (r1 : List Int) (r2 : Int) (w : World) (hr1 : Kd.C k41 w A1 l1.length l1) (hc1 : l1.length ≤ c1) (hr2 : Kd.C (Kd.int .i64) w A2 l2.length l2) (hc2 : l2.length ≤ c2) (h : pair_Grows.f a0 l1 l2 = some (r1, r2)) :
    Calls Try.prog 29 #[.int .i64 a0, .slice A1 l1.length c1, .slice A2 l2.length c2] w fun e w' => ∃ v0_ : Value, e = .returned (.tuple #[v0_, .int .i64 r2]) ∧ Kd.R (Kd.int .i64) 3 w' w.heap.size (fun _ => True) v0_ r1 ∧ Below w.heap.size w w' := by
  unfold pair_Grows.f at h
  split at h
  · rename_i hl
    rw [← prs_len l1]
    refine (growsF_any w a0 A1 c1 (prs l1) A2 c2 l2 (rdE_of hr1) (rdZ_of hr2) hl r1 r2 h).mono ?_
    rintro e w1 ⟨v, rfl, ho, hb⟩
    exact ⟨v, rfl, row_R ho, hb⟩
  · exact absurd h (by simp)

def pair_Odd.f (a0 : Int) (l1 : List S41) (l2 : List Int) : Option (Int × Int) := if l2.length ≤ 1000000 then oddF a0 (prs l1) l2 else none
theorem pair_Odd.calls (a0 : Int) (A1 : Option Addr) (c1 : Nat) (l1 : List S41) (A2 : Option Addr) (c2 : Nat) (l2 : List Int) (r1 r2 : Int) (w : World) (hr1 : Kd.C k41 w A1 l1.length l1) (hc1 : l1.length ≤ c1) (hr2 : Kd.C (Kd.int .i64) w A2 l2.length l2) (hc2 : l2.length ≤ c2) (h : pair_Odd.f a0 l1 l2 = some (r1, r2)) :
    Calls Try.prog 31 #[.int .i64 a0, .slice A1 l1.length c1, .slice A2 l2.length c2] w fun e w' => e = .returned (.tuple #[.int .i64 r1, .int .i64 r2]) ∧ Below w.heap.size w w' := by
  unfold pair_Odd.f at h
  split at h
  · rename_i hl
    rw [← prs_len l1]
    exact oddF_any w a0 A1 c1 (prs l1) A2 c2 l2 (rdE_of hr1) (rdZ_of hr2) hl r1 r2 h
  · exact absurd h (by simp)
end Go.Proofs.Ythhgdndjnflklaa.PP
