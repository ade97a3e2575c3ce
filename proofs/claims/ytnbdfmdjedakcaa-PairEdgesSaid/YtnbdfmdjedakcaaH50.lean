/- Stones: IndexFunc, ContainsFunc with a predicate; stone; what Edges asks of its stones. No conditions. -/
import Derived.Test.YtnbdfmdjedakcaaHA
import Derived.Test.YtnbdfmdjedakcaaExt
import Derived.Test.YtnbdfmdjedakcaaQ51
namespace Go.Proofs.Ytnbdfmdjedakcaa
open Go.RowKit Go.Proofs.YtnbdfmdjedakcaaW.PrintWords Go.Proofs.YtnbdfmdjedakcaaW.PrintLast Go.Proofs.YtnbdfmdjedakcaaW.PrintMore PP
set_option linter.unusedVariables false
set_option linter.unusedSimpArgs false
instance : Inhabited S106 := ⟨z106⟩
/-- A stone as a value. -/
abbrev sv (x : S106) : Value := .agg #[.int .i64 x.f0, .int .i64 x.f1.f0, .int .i64 x.f1.f1, .int .i64 x.f1.f2]
def stB (x : S106) : Bool := decide (0 ≤ x.f0) && (decide (x.f0 ≤ 1073741824) && gok x.f1)
def PredS (g : Nat) (lb : Array Value) (p : S106 → Bool) (w : World) : Prop :=
  ∀ (W : World) (x : S106), Below w.heap.size w W → Calls Try.prog g (#[sv x] ++ lb) W fun e w' => e = .returned (.bool (p x)) ∧ Below w.heap.size w w'
theorem getS (zs : List S106) (j : Nat) : rd_T106 zs (j : Int) = zs[j]! := by
  unfold rd_T106
  rw [Int.toNat_natCast, List.getElem!_eq_getElem?_getD, List.getD_eq_getElem?_getD]
  rfl
set_option maxRecDepth 100000 in
set_option maxHeartbeats 2000000 in
theorem indexS_any (w : World) (g : Nat) (lb : Array Value) (p : S106 → Bool) (eg : ∀ args w, (callFunc g args).run Try.prog w = .ok (.enter g args) w) (A : Option Addr) (c : Nat) (zs : List S106) (hC : Kd.C k106 w A zs.length zs) (hp : PredS g lb p w) :
    Calls Try.prog 123 #[.slice A zs.length c, .func (.func g) #[] lb] w fun e w' => e = .returned (.int .i64 (Lib.idxBy (fun _ y => p y) zs default)) ∧ Below w.heap.size w w' := by
  have hu106 := Try.underlying106
  have hu36 := Try.underlying36
  have HC := Hd.mk hC
  have HP := Hd.mk hp
  have hbig : zs.length ≤ 9223372036854775807 := hC.2.1
  clear hC hp
  go_enter Try.func123, Try.ntmps123
  go_wp2
  go_loopg [5, 8] zs.length (fun gg _ s8 wr => ∃ kk : Nat, kk ≤ zs.length ∧ zs.length - kk ≤ gg ∧ s8 = .int .i64 kk ∧ Hd (Below w.heap.size w wr) ∧ Hd (∀ j, j < kk → p zs[j]! = false))
  case atStart => exact ⟨0, Nat.zero_le _, by omega, rfl, ⟨Below.refl _ w⟩, ⟨fun j hj => absurd hj (Nat.not_lt_zero _)⟩⟩
  case round =>
    obtain ⟨kk, hkk, hg, rfl, BW, HA⟩ := hrel
    by_cases hlt : kk < zs.length
    · have hltz : (kk : Int) < (zs.length : Int) := by omega
      obtain ⟨ad, rfl, x0, x1, x2, x3⟩ := at_T106 (Kd.C_below HC.out BW.out) (kk : Int) (by omega) hltz
      have hcall := HP.out wr zs[kk]! BW.out
      rw [getS, Int.toNat_natCast] at x0 x1 x2 x3
      generalize hy : zs[kk]! = y at x0 x1 x2 x3 hcall
      have B := Hd.mk hy
      clear hy
      cases hq : p y with
      | true =>
        rw [hq] at hcall
        go_wp2_with (go_at_fn g; refine hcall.mono ?_; rintro e w' ⟨rfl, hb'⟩)
        go_ret
        refine ⟨?_, hb'⟩
        have h9 := Lib.idxBy_hit (fun _ y => p y) zs zs.length kk default hlt (Nat.le_refl _) (by show p zs[kk]! = true; rw [B.out]; exact hq) HA.out
        rw [List.take_length] at h9
        rw [h9]
        rfl
      | false =>
        rw [hq] at hcall
        go_wp2_with (go_at_fn g; refine hcall.mono ?_; rintro e w' ⟨rfl, hb'⟩)
        go_roundg (zs.length - (kk + 1))
        case measure => omega
        case rel =>
          refine ⟨kk + 1, by omega, by omega, by go_num, ⟨hb'⟩, ⟨fun j hj => ?_⟩⟩
          by_cases e : j = kk
          · subst e
            rw [B.out]; exact hq
          · exact HA.out j (by omega)
    · have hltz : ¬ (kk : Int) < (zs.length : Int) := by omega
      have e1 : kk = zs.length := by omega
      have HE := Hd.mk e1
      clear e1 hlt
      go_wp2
      go_ret
      refine ⟨?_, BW.out⟩
      have h9 := Lib.idxBy_miss (fun _ y => p y) zs zs.length default (by rw [← HE.out]; exact HA.out)
      rw [List.take_length] at h9
      rw [h9]
      rfl
theorem containsS_any (w : World) (g : Nat) (lb : Array Value) (p : S106 → Bool) (eg : ∀ args w, (callFunc g args).run Try.prog w = .ok (.enter g args) w) (A : Option Addr) (c : Nat) (zs : List S106) (hC : Kd.C k106 w A zs.length zs) (hp : PredS g lb p w) (r : Bool) (hr : zs.any p = r) :
    Calls Try.prog 101 #[.slice A zs.length c, .func (.func g) #[] lb] w fun e w' => e = .returned (.bool r) ∧ Below w.heap.size w w' := by
  have h0 : r = decide (0 ≤ Lib.idxBy (fun _ y => p y) zs default) := by
    rw [Lib.idxBy_nonneg_iff (fun _ y => p y) zs default, hr]
  rw [h0]
  clear h0 hr
  have hcon := indexS_any w g lb p eg A c zs hC hp
  generalize Lib.idxBy (fun _ y => p y) zs default = z at hcon ⊢
  clear hC hp
  go_enter Try.func101, Try.ntmps101
  go_wp2_with (go_at_call 123; refine hcon.mono ?_; rintro e w' ⟨rfl, hb'⟩)
  go_ret
  exact ⟨rfl, hb'⟩
theorem in_nil (x : S36) : ∃ b, grade_In.f 5 [] x.f0 x.f1 x.f2 = some (b, if gok x = true then 0 else 2) := by
  have h1 : grade_antichain.f 5 [] = some true := by
    have e1 : grade_listed.f ([] : List S36) 256 = some 0 := by unfold grade_listed.f lsF; rfl
    have e2 : grade_least.f ([] : List S36) = some [] := by
      unfold grade_least.f
      rw [if_pos (by decide)]
      have : (exF belowG []).length = 0 := by unfold exF; simp [exGo, sortG]
      rw [List.length_eq_zero_iff.1 this]
    unfold grade_antichain.f
    rw [e1]
    simp only [Option.bind_some, if_true]
    rw [e2]
    simp only [Option.bind_some]
    unfold api_Grade_111.f
    rw [if_pos rfl, api_Grade_111.l0]
    rfl
  unfold grade_In.f
  rw [h1]
  simp only [Option.bind_some, if_true]
  unfold grade_valid.f gok
  simp only [Option.bind_some]
  cases gokB x.f0 x.f1 x.f2 with
  | true => exact ⟨_, rfl⟩
  | false => exact ⟨_, rfl⟩
theorem inN_any (W : World) (x : S36) : Calls Try.prog 51 #[.slice none 0 0, gv x] W fun e w' => ∃ b, e = .returned (.tuple #[.bool b, .int .i64 (if gok x = true then 0 else 2)]) ∧ Below W.heap.size W w' := by
  obtain ⟨b, hb⟩ := in_nil x
  refine (grade_In.calls 5 none 0 [] x.f0 x.f1 x.f2 b _ W (Kd.R_reads' (Kd.R_nil k36 36 W 0 (fun _ => True))).2.2 (Nat.le_refl _) hb).mono ?_
  rintro e w' ⟨rfl, hb'⟩
  exact ⟨b, rfl, hb'⟩
set_option maxHeartbeats 2000000 in
theorem stone_any (W : World) (x : S106) : Calls Try.prog 103 #[sv x] W fun e w' => e = .returned (.bool (stB x)) ∧ Below W.heap.size W w' := by
  have HI := Hd.mk (fun W => inN_any W x.f1)
  have hu106 := Try.underlying106
  have hu36 := Try.underlying36
  by_cases h1 : x.f0 < 0
  · have e : stB x = false := by unfold stB; rw [decide_eq_false (by omega : ¬ 0 ≤ x.f0)]; rfl
    have d1 : decide (x.f0 < 0) = true := decide_eq_true h1
    rw [e]
    clear e HI
    go_enter Try.func103, Try.ntmps103
    go_wp2_with fail
    go_ret
    exact ⟨rfl, (Below.refl _ _).alloc (Nat.le_refl _) _⟩
  · have d1 : decide (x.f0 < 0) = false := decide_eq_false h1
    by_cases h2 : x.f0 > 1073741824
    · have e : stB x = false := by unfold stB; rw [decide_eq_false (by omega : ¬ x.f0 ≤ 1073741824)]; simp
      have d2 : decide (x.f0 > 1073741824) = true := decide_eq_true h2
      rw [e]
      clear e HI
      go_enter Try.func103, Try.ntmps103
      go_wp2_with fail
      go_ret
      exact ⟨rfl, (Below.refl _ _).alloc (Nat.le_refl _) _⟩
    · have d2 : decide (x.f0 > 1073741824) = false := decide_eq_false h2
      have e : stB x = gok x.f1 := by unfold stB; rw [decide_eq_true (by omega : 0 ≤ x.f0), decide_eq_true (by omega : x.f0 ≤ 1073741824)]; rfl
      rw [e]
      clear e
      cases hg : gok x.f1 with
      | true =>
        rw [hg] at HI
        simp only [if_true] at HI
        clear hg
        go_enter Try.func103, Try.ntmps103
        go_wp2_with (go_at_call 51; refine (HI.out _).mono ?_; rintro e w' ⟨b, rfl, hb'⟩)
        go_ret
        exact ⟨rfl, ((Below.refl _ _).alloc (Nat.le_refl _) _).trans (hb'.mono (by simp))⟩
      | false =>
        rw [hg] at HI
        simp only [Bool.false_eq_true, if_false] at HI
        clear hg
        go_enter Try.func103, Try.ntmps103
        go_wp2_with (go_at_call 51; refine (HI.out _).mono ?_; rintro e w' ⟨b, rfl, hb'⟩)
        go_ret
        exact ⟨rfl, ((Below.refl _ _).alloc (Nat.le_refl _) _).trans (hb'.mono (by simp))⟩
/-- Edges' closure. -/
theorem pred102 (w : World) : PredS 102 #[] (fun x => !stB x) w := fun W x hb => by
  have hv := fun W => stone_any W x
  show Calls Try.prog 102 #[sv x] W fun e w' => e = .returned (.bool (!stB x)) ∧ Below w.heap.size w w'
  have hz := hb.size
  have hu106 := Try.underlying106
  have hu36 := Try.underlying36
  generalize stB x = r at hv ⊢
  go_enter Try.func102, Try.ntmps102
  go_wp2_with (go_at_call 103; refine (hv _).mono ?_; rintro e w' ⟨rfl, hb'⟩)
  go_ret
  refine ⟨rfl, ?_⟩
  exact (hb.alloc hb.size _).trans (hb'.mono (by simp; omega))
end Go.Proofs.Ytnbdfmdjedakcaa
