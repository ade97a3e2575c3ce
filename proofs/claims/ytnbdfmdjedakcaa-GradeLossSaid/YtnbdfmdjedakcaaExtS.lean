/- The contracts of Settle and of the reference's atLeast, in the words of the printed texts. No conditions. -/
import Derived.Test.YtnbdfmdjedakcaaExt
import Derived.Test.YtnbdfmdjedakcaaF8
namespace Go.Proofs.Ytnbdfmdjedakcaa
open Go.RowKit Go.Proofs.YtnbdfmdjedakcaaW.PrintWords Go.Proofs.YtnbdfmdjedakcaaW.PrintLast Go.Proofs.YtnbdfmdjedakcaaW.PrintMore PP
set_option linter.unusedVariables false
set_option linter.unusedSimpArgs false
set_option maxRecDepth 100000 in
set_option maxHeartbeats 4000000 in
theorem settle_err (w : World) (A : Option Addr) (c : Nat) (l : List S38) (hC : Kd.C k38 w A l.length l) (hcap : l.length ≤ c) (kq : Nat) (x : Int) (hx : x ≠ 0) (hq : grade_quotes.f kq l = some x) :
    Calls Try.prog 61 #[.slice A l.length c] w fun e w' => e = .returned (.tuple #[.slice none 0 0, .int .i64 0, .int .i64 x]) ∧ Below w.heap.size w w' := by
  have HQ := Hd.mk (grade_quotes.calls kq A c l x w hC hcap hq)
  have d1 : decide (x ≠ 0) = true := decide_eq_true hx
  have d2 : (x != 0) = true := bne_iff_ne.mpr hx
  clear hC hcap hq
  go_enter Try.func61, Try.ntmps61
  go_wp2_with fail
  refine HQ.out.mono ?_
  rintro e w1 ⟨rfl, hb1⟩
  have HB := Hd.mk hb1
  clear hb1 HQ
  go_wp2_with fail
  go_ret3
  exact ⟨rfl, HB.out⟩
end Go.Proofs.Ytnbdfmdjedakcaa
namespace Go.Proofs.Ytnbdfmdjedakcaa.PP
set_option linter.unusedVariables false
open Go.RowKit Go.Proofs.YtnbdfmdjedakcaaW.PrintWords Go.Proofs.YtnbdfmdjedakcaaW.PrintLast Go.Proofs.YtnbdfmdjedakcaaW.PrintMore Go.Proofs.Ytnbdfmdjedakcaa
noncomputable def grade_Settle.f (l0 : List S38) : Option (List Int × Int × Int) := if qErrF l0 = 0 then some ((List.range l0.length).map (fitF l0), lossOf l0, 0) else some ([], 0, qErrF l0)
theorem grade_Settle.calls (A0 : Option Addr) (c0 : Nat) (l0 : List S38) (r1 : List Int) (r2 : Int) (r3 : Int) (w : World) (hr0 : Kd.C k38 w A0 l0.length l0) (hc0 : l0.length ≤ c0) (h : grade_Settle.f l0 = some (r1, r2, r3)) :
    Calls Try.prog 61 #[.slice A0 l0.length c0] w fun e w' => ∃ v0_ : Value, e = .returned (.tuple #[v0_, .int .i64 r2, .int .i64 r3]) ∧ Kd.R (Kd.int .i64) 3 w' w.heap.size (fun _ => True) v0_ r1 ∧ Below w.heap.size w w' := by
  obtain ⟨kq, hk⟩ := quotes_ev l0
  have hkq := hk kq (Nat.le_refl _)
  unfold grade_Settle.f at h
  by_cases hq : qErrF l0 = 0
  · rw [if_pos hq] at h
    have := Option.some.inj h
    simp only [Prod.mk.injEq] at this
    obtain ⟨rfl, rfl, rfl⟩ := this
    obtain ⟨hn, hok⟩ := qErrF_ok hq
    exact settle_any w A0 c0 l0 hr0 hc0 kq (by rw [← hq]; exact hkq) hok hn (FFof l0) (fun z => (FF_spec hok hn z).1) (psS l0) rfl (fitF l0) rfl (lossOf l0) rfl (fun i hi => fitF_range hok i hi)
  · rw [if_neg hq] at h
    have := Option.some.inj h
    simp only [Prod.mk.injEq] at this
    obtain ⟨rfl, rfl, rfl⟩ := this
    refine (settle_err w A0 c0 l0 hr0 hc0 kq _ hq hkq).mono ?_
    rintro e w' ⟨rfl, hb⟩
    exact ⟨_, rfl, Kd.R_nil _ _ _ _ _, hb⟩
open Classical in
noncomputable def kimberliteref02_atLeast.f (l0 : List S38) (v : Int) : Option (List Bool) :=
  if l0.length ≤ 24 ∧ ∃ f r2 f2, fullR (l0.length + 2) l0.length (l0.length + 1) f (hOut l0 v l0.length) = some r2 ∧ snN (l0.length + 2) r2 f2 (upd (fun _ => false) l0.length true) = some (SSof l0 v) then some ((List.range (l0.length + 2)).map (SSof l0 v)) else none
theorem kimberliteref02_atLeast.calls (A0 : Option Addr) (c0 : Nat) (l0 : List S38) (v : Int) (r : List Bool) (w : World) (hr0 : Kd.C k38 w A0 l0.length l0) (hc0 : l0.length ≤ c0) (h : kimberliteref02_atLeast.f l0 v = some r) :
    Calls Try.prog 97 #[.slice A0 l0.length c0, .int .i64 v] w fun e w' => ∃ v0_ : Value, e = .returned v0_ ∧ Kd.R Kd.bool 4 w' w.heap.size (fun _ => True) v0_ r ∧ Below w.heap.size w w' := by
  unfold kimberliteref02_atLeast.f at h
  split at h
  · next hc =>
    obtain ⟨hn, f, r2, f2, h1, h2⟩ := hc
    have := Option.some.inj h
    subst this
    exact atLeast_any w A0 c0 l0 hr0 (by omega) v f r2 h1 f2 (SSof l0 v) h2
  · exact absurd h (by simp)
theorem atLeast_f {l : List S38} (h : qErrF l = 0) (v : Int) : kimberliteref02_atLeast.f l v = some ((List.range (l.length + 2)).map (SSof l v)) := by
  obtain ⟨hn, hok⟩ := qErrF_ok h
  unfold kimberliteref02_atLeast.f
  rw [if_pos ⟨hn, (SS_spec hok hn v).1⟩]
end Go.Proofs.Ytnbdfmdjedakcaa.PP
