/- brief, holds; a step out of the list, beside a frame. No conditions. -/
import Derived.Test.YtmeaeapopfcmbaaGreatK49
import Derived.Test.YtmeaeapopfcmbaaGreatQ28
import Derived.Test.YtmeaeapopfcmbaaGreatQ50
namespace Go.Proofs.YtmeaeapopfcmbaaGreat
open Go.RowKit Go.Proofs.YtmeaeapopfcmbaaGreatW.PrintWords Go.Proofs.YtmeaeapopfcmbaaGreatW.PrintLast Go.Proofs.YtmeaeapopfcmbaaGreatW.PrintMore PP
set_option linter.unusedVariables false
set_option linter.unusedSimpArgs false
set_option maxHeartbeats 4000000
set_option maxRecDepth 100000
theorem brief_l0 (l : List S61) : ∀ (m i k : Nat), i + m = l.length → m < k → i ≤ 60 → ∃ r, kimberlitelaw08_brief.l0 k l (i : Int) = some r ∧ (r = true → l.length ≤ 60) := by
  intro m
  induction m with
  | zero =>
    intro i k hi hk h60
    obtain ⟨j, rfl⟩ : ∃ j, k = j + 1 := ⟨k - 1, by omega⟩
    exact ⟨true, by rw [kimberlitelaw08_brief.l0, if_neg (by omega)], fun _ => by omega⟩
  | succ m ih =>
    intro i k hi hk h60
    obtain ⟨j, rfl⟩ : ∃ j, k = j + 1 := ⟨k - 1, by omega⟩
    rw [kimberlitelaw08_brief.l0, if_pos (by omega)]
    by_cases h1 : (i : Int) ≥ 60
    · exact ⟨false, by rw [if_pos h1], fun h => absurd h (by simp)⟩
    · rw [if_neg h1, if_pos (by omega)]
      split
      · exact ⟨false, rfl, fun h => absurd h (by simp)⟩
      · have e : wrap64 ((i : Int) + 1) = ((i + 1 : Nat) : Int) := by unfold wrap64; omega
        rw [e]
        exact ih (i + 1) j (by omega) (by omega) (by omega)
theorem brief_ans (l : List S61) : ∃ k r, kimberlitelaw08_brief.f k l = some r ∧ (r = true → l.length ≤ 60) :=
  ⟨l.length + 1, brief_l0 l l.length 0 (l.length + 1) (by omega) (by omega) (by omega)⟩
noncomputable def briefB (l : List S61) : Bool := (brief_ans l).choose_spec.choose
theorem briefB_60 {l : List S61} (h : briefB l = true) : l.length ≤ 60 := (brief_ans l).choose_spec.choose_spec.2 h
theorem brief_v {W : World} {A : Option Addr} {c : Nat} {l : List S61} (hL : Kd.C k61 W A l.length l) (hc : l.length ≤ c) : Calls Tryz.prog 28 #[.slice A l.length c] W fun e w' => e = .returned (.bool (briefB l)) ∧ Below W.heap.size W w' := by
  refine (kimberlitelaw08_brief.calls (brief_ans l).choose A c l _ W hL hc (brief_ans l).choose_spec.choose_spec.1).mono fun e w' hh => ⟨hh.1, ?_⟩
  obtain ⟨m, rfl⟩ := hh.2.out
  exact below_drewN (Below.refl _ _) m
theorem nx {i n : Nat} (h : i < n) (hn : n ≤ 1000000000000) : Value.int .i64 (wrap64 ((i : Int) + 1)) = .int .i64 ((i + 1 : Nat) : Int) := by
  have : wrap64 ((i : Int) + 1) = ((i + 1 : Nat) : Int) := by unfold wrap64; omega
  rw [this]
/-- A step out of the list, as it is handed to step. -/
theorem step_of {w0 : Frm} {w : World} {g n k : Nat} {r : Nat → Nat} {S : Nat → S28} {H : List S28} {md tk : List Int} (hg : GrK w0 w g n r S H md tk) (gi : GI n k S H md tk) (hk : k ≤ 1000) {x : S61} (ox : StepOk x) (A0 A1 A2 A3 A4 : Option Addr) (n0 n1 n2 n3 n4 c0 c1 c2 c3 c4 : Nat) :
    Calls Tryz.prog 31 #[.pointer (some ⟨g, 0, none⟩), .agg #[.int .u8 x.f0, .int .u16 x.f1, .int .u8 x.f2.f0, .int .i64 x.f2.f1, .int .i64 x.f2.f2, .string x.f2.f3, .int .i64 x.f2.f4, .slice A0 n0 c0, .slice A1 n1 c1, .slice A2 n2 c2, .slice A3 n3 c3, .slice A4 n4 c4]] w fun e w' => ∃ S1 md1 tk1, e = .returned (.bool true) ∧ GrK w0 w' g n r (updN S (x.f0.toNat % n) S1) (H ++ [S1]) md1 tk1 ∧ GI n (k + 1) (updN S (x.f0.toNat % n) S1) (H ++ [S1]) md1 tk1 ∧ Act1 (x.f0.toNat % n) (S (x.f0.toNat % n)) H (x.f2.f0 % 10) x.f2.f1 x.f2.f3 S1 := by
  have a0 := ox.w0
  have a1 := ox.w1
  have a2 := ox.s0
  have a3 := ox.s1
  have a4 := ox.act.k0
  have a5 := ox.act.k1
  have h := step_run w0 w g n k r S H md tk hg gi hk x.f0.toNat x.f1.toNat x.f2.f0.toNat (by omega) (by omega) (by omega) x.f2.f1 x.f2.f2 x.f2.f4 x.f2.f3 A0 A1 A2 A3 A4 n0 n1 n2 n3 n4 c0 c1 c2 c3 c4
  rw [show ((x.f0.toNat : Nat) : Int) = x.f0 by omega, show ((x.f1.toNat : Nat) : Int) = x.f1 by omega, show ((x.f2.f0.toNat : Nat) : Int) = x.f2.f0 by omega, show ((x.f2.f0.toNat % 10 : Nat) : Int) = x.f2.f0 % 10 by omega] at h
  exact h
open Classical in
noncomputable def memB (t : S99) (l : List S99) : Bool := decide (t ∈ l)
open Classical in
theorem memB_iff {t : S99} {l : List S99} : memB t l = true ↔ t ∈ l := by unfold memB; exact decide_eq_true_iff
theorem holds_l0 (X : S28) (t : S99) (hl : X.f1.length < 9223372036854775807) : ∀ (m i k : Nat), i + m = X.f1.length → m < k → kimberlitelaw08_holds.l0 k (i : Int) X.f0 X.f1 X.f2 X.f3 X.f4 t.f0 t.f1 t.f2.f0 t.f2.f1 = some (memB t (X.f1.drop i)) := by
  intro m
  induction m with
  | zero =>
    intro i k hi hk
    obtain ⟨j, rfl⟩ : ∃ j, k = j + 1 := ⟨k - 1, by omega⟩
    rw [kimberlitelaw08_holds.l0, if_neg (by omega)]
    congr 1
    rw [eq_comm, Bool.eq_false_iff, Ne, memB_iff, List.drop_of_length_le (by omega)]
    simp
  | succ m ih =>
    intro i k hi hk
    obtain ⟨j, rfl⟩ : ∃ j, k = j + 1 := ⟨k - 1, by omega⟩
    rw [kimberlitelaw08_holds.l0, if_pos (by omega), if_pos (by omega)]
    have e : wrap64 ((i : Int) + 1) = ((i + 1 : Nat) : Int) := by unfold wrap64; omega
    have hd : X.f1.drop i = X.f1.getD i z99 :: X.f1.drop (i + 1) := drop_getD X.f1 i z99 (by omega)
    have he := eq_el1 X.f1 [t] (i : Int)
    have hq : (((rd_T99 X.f1 (i : Int)).f0) == t.f0 && ((((rd_T99 X.f1 (i : Int)).f1).toList) == t.f1.toList && ((((rd_T99 X.f1 (i : Int)).f2.f0) == t.f2.f0 && (((rd_T99 X.f1 (i : Int)).f2.f1) == t.f2.f1))))) = eqL (rd_T99 X.f1 (i : Int)) t := by
      generalize rd_T99 X.f1 (i : Int) = x
      rw [ba_list]
      obtain ⟨x0, x1, ⟨x2, x3⟩⟩ := x
      obtain ⟨y0, y1, ⟨y2, y3⟩⟩ := t
      rw [Bool.eq_iff_iff, eqL_iff]
      simp [eqL_iff]
    rw [hq]
    have hr : rd_T99 X.f1 (i : Int) = X.f1.getD i z99 := rfl
    rw [hr]
    by_cases h1 : eqL (X.f1.getD i z99) t = true
    · rw [if_pos h1]
      congr 1
      rw [eq_comm, memB_iff, hd, eqL_iff.1 h1]
      exact List.mem_cons_self
    · rw [if_neg h1, e, ih (i + 1) j (by omega) (by omega)]
      congr 1
      rw [Bool.eq_iff_iff, memB_iff, memB_iff, hd, List.mem_cons]
      exact ⟨fun h => .inr h, fun h => h.elim (fun h => absurd (eqL_iff.2 h.symm) h1) id⟩
theorem holds_v {W : World} {X : S28} {t : S99} {x0 x1 x2 x3 x4 : Value} (hx : Sk W X x0 x1 x2 x3 x4) (hf : Fit X) : Calls Tryz.prog 50 #[.agg #[x0, x1, x2, x3, x4], .agg #[.int .i64 t.f0, .string t.f1, .int .i64 t.f2.f0, .int .i64 t.f2.f1]] W fun e w' => e = .returned (.bool (memB t X.f1)) ∧ Below W.heap.size W w' := by
  obtain ⟨A0, c0, A1, c1, A2, c2, A3, c3, A4, c4, rfl, rfl, rfl, rfl, rfl, h⟩ := hx
  exact kimberlitelaw08_holds.calls (X.f1.length + 1) A0 c0 X.f0 A1 c1 X.f1 A2 c2 X.f2 A3 c3 X.f3 A4 c4 X.f4 t.f0 t.f1 t.f2.f0 t.f2.f1 _ W h.h0 h.l0 h.h1 h.l1 h.h2 h.l2 h.h3 h.l3 h.h4 h.l4 (holds_l0 X t hf.n1 X.f1.length 0 (X.f1.length + 1) (by omega) (by omega))
end Go.Proofs.YtmeaeapopfcmbaaGreat
