/- No conditions. -/
import Derived.Test.YtnbdfmdjedakcaaQ0
import Derived.WalkLawsBesides
import Derived.WalkSpells
import Derived.Deep.DeepMust
import Derived.Deep.DeepFit
import Derived.Deep.RegionWith
import Derived.Deep.RegionLaw
import Derived.LoopTactic
import Derived.Lib.SlBy
import Derived.Shelf.SlicesQ.IndexFunc
import Derived.Test.YtnbdfmdjedakcaaQ1
import Derived.Maps.OwnOps
import Derived.MapKept
import Derived.Test.YtnbdfmdjedakcaaQ108
import Derived.Sort.Grow
import Derived.Test.YtnbdfmdjedakcaaQ26
namespace Go.Proofs.Ytnbdfmdjedakcaa
open Go.RowKit
set_option linter.unusedVariables false
set_option linter.unusedSimpArgs false
structure Hd (p : Prop) : Prop where mk :: (out : p)
def lvB (x : Int) : Bool := decide (0 ≤ x) && decide (x ≤ 11)
def gokB (a b c : Int) : Bool := lvB a && (lvB b && lvB c)
theorem lvB_true {x : Int} : lvB x = true ↔ 0 ≤ x ∧ x ≤ 11 := by unfold lvB; simp
theorem lvB_false {x : Int} : lvB x = false ↔ x < 0 ∨ 11 < x := by unfold lvB; simp; omega
def n3 (a b c : Int) (k : Nat) : Int := if k = 0 then a else if k = 1 then b else c
theorem gokB_true {a b c : Int} : gokB a b c = true ↔ ∀ k, k < 3 → lvB (n3 a b c k) = true := by
 unfold gokB
 simp only [Bool.and_eq_true]
 constructor
 ·rintro ⟨h1, h2, h3⟩ k hk
  match k, hk with
  | 0, _ => exact h1
  | 1, _ => exact h2
  | 2, _ => exact h3
 ·intro h
  exact ⟨h 0 (by omega), h 1 (by omega), h 2 (by omega)⟩
theorem gokB_not {a b c : Int} {k : Nat} (hk : k < 3) (h : lvB (n3 a b c k) = false) : gokB a b c = false := by
 cases hh : gokB a b c with
 | false => rfl
 | true => rw [gokB_true.mp hh k hk] at h; exact absurd h (by decide)
set_option maxHeartbeats 2000000 in
theorem valid_any (w : World) (a b c : Int) : Calls Try.prog 88 #[.agg #[.int .i64 a, .int .i64 b, .int .i64 c]] w fun e w' => e = .returned (.bool (gokB a b c)) ∧ Below w.heap.size w w' := by
 obtain ⟨r, hr⟩ : ∃ r, gokB a b c = r := ⟨_, rfl⟩
 rw [hr]
 have HR := Hd.mk hr
 clear hr
 have i0 : ∀ w, (Instr.index 36 (.agg #[.int .i64 a, .int .i64 b, .int .i64 c]) (.int .i64 0)).run Try.prog w = .ok (.int .i64 a) w := fun _ => by kernel_rfl
 have i1 : ∀ w, (Instr.index 36 (.agg #[.int .i64 a, .int .i64 b, .int .i64 c]) (.int .i64 1)).run Try.prog w = .ok (.int .i64 b) w := fun _ => by kernel_rfl
 have i2 : ∀ w, (Instr.index 36 (.agg #[.int .i64 a, .int .i64 b, .int .i64 c]) (.int .i64 2)).run Try.prog w = .ok (.int .i64 c) w := fun _ => by kernel_rfl
 go_enter Try.func88, Try.ntmps88
 go_wp2
 go_loop [6] (fun v => ∃ k : Nat, k ≤ 3 ∧ v = .int .i64 k ∧ Hd (∀ j, j < k → lvB (n3 a b c j) = true)) (fun v => 3 - (intOf v).toNat)
 case atStart => exact ⟨0, by omega, rfl, ⟨fun j hj => absurd hj (by omega)⟩⟩
 case round =>
  obtain ⟨k, hk, rfl, HK⟩ := hrel
  by_cases h3 : k = 3
  ·subst h3
   have hg : r = true := by rw [← HR.out]; exact gokB_true.mpr HK.out
   subst hg
   go_wp2
   go_ret
   exact ⟨rfl, (Below.refl _ _).alloc (Nat.le_refl _) _⟩
  ·have one : ∀ x : Int, n3 a b c k = x → (lvB x = true ∧ (decide (x < 0) = false ∧ decide (11 < x) = false)) ∨ (r = false ∧ ((decide (x < 0) = true) ∨ (decide (x < 0) = false ∧ decide (11 < x) = true))) := fun x hx => by
    cases hl : lvB x with
    | true =>
     left
     have := lvB_true.mp hl
     exact ⟨rfl, by simp; omega, by simp; omega⟩
    | false =>
     right
     refine ⟨by rw [← HR.out]; exact gokB_not (k := k) (by omega) (by rw [hx]; exact hl), ?_⟩
     rcases lvB_false.mp hl with h | h
     ·left; simp; omega
     ·by_cases h0 : x < 0
      ·left; simp; omega
      ·right; exact ⟨by simp; omega, by simp; omega⟩
   have next : lvB (n3 a b c k) = true → Hd (∀ j, j < k + 1 → lvB (n3 a b c j) = true) := fun h => ⟨fun j hj => by
    by_cases e : j = k
    ·rw [e]; exact h
    ·exact HK.out j (by omega)⟩
   have NX := Hd.mk next
   clear next
   have hkk : k = 0 ∨ k = 1 ∨ k = 2 := by omega
   clear h3 hk
   rcases hkk with rfl | rfl | rfl
   all_goals
    rcases one _ rfl with ⟨h1, h2, h3⟩ | ⟨rfl, h1 | ⟨h1, h2⟩⟩
    all_goals
     have ON := Hd.mk one
     clear one
   ·have NX1 := Hd.mk (NX.out h1)
    simp only [n3, if_true] at h2 h3
    clear h1
    go_wp2
    go_round
    case rel => exact ⟨1, by omega, by go_num, NX1.out⟩
    case measure => simp [intOf]
   ·simp only [n3, if_true] at h1
    go_wp2
    go_ret
    exact ⟨rfl, (Below.refl _ _).alloc (Nat.le_refl _) _⟩
   ·simp only [n3, if_true] at h1 h2
    go_wp2
    go_ret
    exact ⟨rfl, (Below.refl _ _).alloc (Nat.le_refl _) _⟩
   ·have NX1 := Hd.mk (NX.out h1)
    simp only [n3, if_true, if_neg (show ¬ (1 = 0) by decide)] at h2 h3
    clear h1
    go_wp2
    go_round
    case rel => exact ⟨2, by omega, by go_num, NX1.out⟩
    case measure => simp [intOf]
   ·simp only [n3, if_true, if_neg (show ¬ (1 = 0) by decide)] at h1
    go_wp2
    go_ret
    exact ⟨rfl, (Below.refl _ _).alloc (Nat.le_refl _) _⟩
   ·simp only [n3, if_true, if_neg (show ¬ (1 = 0) by decide)] at h1 h2
    go_wp2
    go_ret
    exact ⟨rfl, (Below.refl _ _).alloc (Nat.le_refl _) _⟩
   ·have NX1 := Hd.mk (NX.out h1)
    simp only [n3, if_neg (show ¬ (2 = 0) by decide), if_neg (show ¬ (2 = 1) by decide)] at h2 h3
    clear h1
    go_wp2
    go_round
    case rel => exact ⟨3, by omega, by go_num, NX1.out⟩
    case measure => simp [intOf]
   ·simp only [n3, if_neg (show ¬ (2 = 0) by decide), if_neg (show ¬ (2 = 1) by decide)] at h1
    go_wp2
    go_ret
    exact ⟨rfl, (Below.refl _ _).alloc (Nat.le_refl _) _⟩
   ·simp only [n3, if_neg (show ¬ (2 = 0) by decide), if_neg (show ¬ (2 = 1) by decide)] at h1 h2
    go_wp2
    go_ret
    exact ⟨rfl, (Below.refl _ _).alloc (Nat.le_refl _) _⟩
set_option maxHeartbeats 2000000 in
theorem good_any (w : World) (a b c : Int) : Calls Try.prog 52 #[.agg #[.int .i64 a, .int .i64 b, .int .i64 c]] w fun e w' => e = .returned (.bool (gokB a b c)) ∧ Below w.heap.size w w' := by
 obtain ⟨r, hr⟩ : ∃ r, gokB a b c = r := ⟨_, rfl⟩
 rw [hr]
 have HR := Hd.mk hr
 clear hr
 go_enter Try.func52, Try.ntmps52
 go_wp2
 go_loop [3] (fun v => ∃ k : Nat, k ≤ 3 ∧ v = .int .i64 k ∧ Hd (∀ j, j < k → lvB (n3 a b c j) = true)) (fun v => 3 - (intOf v).toNat)
 case atStart => exact ⟨0, by omega, rfl, ⟨fun j hj => absurd hj (by omega)⟩⟩
 case round =>
  obtain ⟨k, hk, rfl, HK⟩ := hrel
  by_cases h3 : k = 3
  ·subst h3
   have hg : r = true := by rw [← HR.out]; exact gokB_true.mpr HK.out
   subst hg
   go_wp2
   go_ret
   exact ⟨rfl, (Below.refl _ _).alloc (Nat.le_refl _) _⟩
  ·have one : ∀ x : Int, n3 a b c k = x → (lvB x = true ∧ (decide (x < 0) = false ∧ decide (11 < x) = false)) ∨ (r = false ∧ ((decide (x < 0) = true) ∨ (decide (x < 0) = false ∧ decide (11 < x) = true))) := fun x hx => by
    cases hl : lvB x with
    | true =>
     left
     have := lvB_true.mp hl
     exact ⟨rfl, by simp; omega, by simp; omega⟩
    | false =>
     right
     refine ⟨by rw [← HR.out]; exact gokB_not (k := k) (by omega) (by rw [hx]; exact hl), ?_⟩
     rcases lvB_false.mp hl with h | h
     ·left; simp; omega
     ·by_cases h0 : x < 0
      ·left; simp; omega
      ·right; exact ⟨by simp; omega, by simp; omega⟩
   have next : lvB (n3 a b c k) = true → Hd (∀ j, j < k + 1 → lvB (n3 a b c j) = true) := fun h => ⟨fun j hj => by
    by_cases e : j = k
    ·rw [e]; exact h
    ·exact HK.out j (by omega)⟩
   have NX := Hd.mk next
   clear next
   have hkk : k = 0 ∨ k = 1 ∨ k = 2 := by omega
   clear h3 hk
   rcases hkk with rfl | rfl | rfl
   all_goals
    rcases one _ rfl with ⟨h1, h2, h3⟩ | ⟨rfl, h1 | ⟨h1, h2⟩⟩
    all_goals
     have ON := Hd.mk one
     clear one
   ·have NX1 := Hd.mk (NX.out h1)
    simp only [n3, if_true] at h2 h3
    clear h1
    go_wp2
    go_round
    case rel => exact ⟨1, by omega, by go_num, NX1.out⟩
    case measure => simp [intOf]
   ·simp only [n3, if_true] at h1
    go_wp2
    go_ret
    exact ⟨rfl, (Below.refl _ _).alloc (Nat.le_refl _) _⟩
   ·simp only [n3, if_true] at h1 h2
    go_wp2
    go_ret
    exact ⟨rfl, (Below.refl _ _).alloc (Nat.le_refl _) _⟩
   ·have NX1 := Hd.mk (NX.out h1)
    simp only [n3, if_true, if_neg (show ¬ (1 = 0) by decide)] at h2 h3
    clear h1
    go_wp2
    go_round
    case rel => exact ⟨2, by omega, by go_num, NX1.out⟩
    case measure => simp [intOf]
   ·simp only [n3, if_true, if_neg (show ¬ (1 = 0) by decide)] at h1
    go_wp2
    go_ret
    exact ⟨rfl, (Below.refl _ _).alloc (Nat.le_refl _) _⟩
   ·simp only [n3, if_true, if_neg (show ¬ (1 = 0) by decide)] at h1 h2
    go_wp2
    go_ret
    exact ⟨rfl, (Below.refl _ _).alloc (Nat.le_refl _) _⟩
   ·have NX1 := Hd.mk (NX.out h1)
    simp only [n3, if_neg (show ¬ (2 = 0) by decide), if_neg (show ¬ (2 = 1) by decide)] at h2 h3
    clear h1
    go_wp2
    go_round
    case rel => exact ⟨3, by omega, by go_num, NX1.out⟩
    case measure => simp [intOf]
   ·simp only [n3, if_neg (show ¬ (2 = 0) by decide), if_neg (show ¬ (2 = 1) by decide)] at h1
    go_wp2
    go_ret
    exact ⟨rfl, (Below.refl _ _).alloc (Nat.le_refl _) _⟩
   ·simp only [n3, if_neg (show ¬ (2 = 0) by decide), if_neg (show ¬ (2 = 1) by decide)] at h1 h2
    go_wp2
    go_ret
    exact ⟨rfl, (Below.refl _ _).alloc (Nat.le_refl _) _⟩
end Go.Proofs.Ytnbdfmdjedakcaa
namespace Go.Proofs.Ytnbdfmdjedakcaa
open Go.RowKit Go.Proofs.YtnbdfmdjedakcaaW.PrintWords Go.Proofs.YtnbdfmdjedakcaaW.PrintLast Go.Proofs.YtnbdfmdjedakcaaW.PrintMore PP
set_option linter.unusedVariables false
set_option linter.unusedSimpArgs false
instance : Inhabited S36 := ⟨z36⟩
abbrev gv (x : S36) : Value := .agg #[.int .i64 x.f0, .int .i64 x.f1, .int .i64 x.f2]
def gok (x : S36) : Bool := gokB x.f0 x.f1 x.f2
def PredB (g : Nat) (lb : Array Value) (p : S36 → Bool) (w : World) : Prop :=
 ∀ (W : World) (x : S36), Below w.heap.size w W → Calls Try.prog g (#[gv x] ++ lb) W fun e w' => e = .returned (.bool (p x)) ∧ Below w.heap.size w w'
theorem getB (zs : List S36) (j : Nat) : rd_T36 zs (j : Int) = zs[j]! := by
 unfold rd_T36
 rw [Int.toNat_natCast, List.getElem!_eq_getElem?_getD, List.getD_eq_getElem?_getD]
 rfl
set_option maxRecDepth 100000 in
set_option maxHeartbeats 2000000 in
theorem indexF_any (w : World) (g : Nat) (lb : Array Value) (p : S36 → Bool) (eg : ∀ args w, (callFunc g args).run Try.prog w = .ok (.enter g args) w) (A : Option Addr) (c : Nat) (zs : List S36) (hC : Kd.C k36 w A zs.length zs) (hp : PredB g lb p w) :
  Calls Try.prog 113 #[.slice A zs.length c, .func (.func g) #[] lb] w fun e w' => e = .returned (.int .i64 (Lib.idxBy (fun _ y => p y) zs default)) ∧ Below w.heap.size w w' := by
 have hu36 := Try.underlying36
 have HC := Hd.mk hC
 have HP := Hd.mk hp
 have hbig : zs.length ≤ 9223372036854775807 := hC.2.1
 clear hC hp
 go_enter Try.func113, Try.ntmps113
 go_wp2
 go_loopg [5, 8] zs.length (fun gg _ s8 wr => ∃ kk : Nat, kk ≤ zs.length ∧ zs.length - kk ≤ gg ∧ s8 = .int .i64 kk ∧ Hd (Below w.heap.size w wr) ∧ Hd (∀ j, j < kk → p zs[j]! = false))
 case atStart => exact ⟨0, Nat.zero_le _, by omega, rfl, ⟨Below.refl _ w⟩, ⟨fun j hj => absurd hj (Nat.not_lt_zero _)⟩⟩
 case round =>
  obtain ⟨kk, hkk, hg, rfl, BW, HA⟩ := hrel
  by_cases hlt : kk < zs.length
  ·have hltz : (kk : Int) < (zs.length : Int) := by omega
   obtain ⟨ad, rfl, x0, x1, x2⟩ := at_T36 (Kd.C_below HC.out BW.out) (kk : Int) (by omega) hltz
   have hcall := HP.out wr zs[kk]! BW.out
   rw [getB, Int.toNat_natCast] at x0 x1 x2
   generalize hy : zs[kk]! = y at x0 x1 x2 hcall
   have B := Hd.mk hy
   clear hy
   cases hq : p y with
   | true =>
    rw [hq] at hcall
    go_wp2_with (go_at_fn g; refine hcall.mono ?_; rintro e w' ⟨rfl, hb'⟩)
    go_ret
    refine ⟨?_, hb'⟩
    have h9 := Lib.idxBy_hit (fun _ y => p y) zs zs.length kk default hlt (Nat.le_refl _) (by show p zs[kk]! = true; rw [B.out]; exact hq) HA.out
    rw [List.take_length] at h9
    rw [h9]
    rfl
   | false =>
    rw [hq] at hcall
    go_wp2_with (go_at_fn g; refine hcall.mono ?_; rintro e w' ⟨rfl, hb'⟩)
    go_roundg (zs.length - (kk + 1))
    case measure => omega
    case rel =>
     refine ⟨kk + 1, by omega, by omega, by go_num, ⟨hb'⟩, ⟨fun j hj => ?_⟩⟩
     by_cases e : j = kk
     ·subst e
      rw [B.out]; exact hq
     ·exact HA.out j (by omega)
  ·have hltz : ¬ (kk : Int) < (zs.length : Int) := by omega
   have e1 : kk = zs.length := by omega
   have HE := Hd.mk e1
   clear e1 hlt
   go_wp2
   go_ret
   refine ⟨?_, BW.out⟩
   have h9 := Lib.idxBy_miss (fun _ y => p y) zs zs.length default (by rw [← HE.out]; exact HA.out)
   rw [List.take_length] at h9
   rw [h9]
   rfl
theorem containsF_any (w : World) (g : Nat) (lb : Array Value) (p : S36 → Bool) (eg : ∀ args w, (callFunc g args).run Try.prog w = .ok (.enter g args) w) (A : Option Addr) (c : Nat) (zs : List S36) (hC : Kd.C k36 w A zs.length zs) (hp : PredB g lb p w) (r : Bool) (hr : zs.any p = r) :
  Calls Try.prog 85 #[.slice A zs.length c, .func (.func g) #[] lb] w fun e w' => e = .returned (.bool r) ∧ Below w.heap.size w w' := by
 have h0 : r = decide (0 ≤ Lib.idxBy (fun _ y => p y) zs default) := by
  rw [Lib.idxBy_nonneg_iff (fun _ y => p y) zs default, hr]
 rw [h0]
 clear h0 hr
 have hcon := indexF_any w g lb p eg A c zs hC hp
 generalize Lib.idxBy (fun _ y => p y) zs default = z at hcon ⊢
 clear hC hp
 go_enter Try.func85, Try.ntmps85
 go_wp2_with (go_at_call 113; refine hcon.mono ?_; rintro e w' ⟨rfl, hb'⟩)
 go_ret
 exact ⟨rfl, hb'⟩
theorem pred105 (w : World) : PredB 105 #[] (fun x => !gok x) w := fun W x hb => by
 have hv := fun w => valid_any w x.f0 x.f1 x.f2
 show Calls Try.prog 105 #[.agg #[.int .i64 x.f0, .int .i64 x.f1, .int .i64 x.f2]] W fun e w' => e = .returned (.bool (!gokB x.f0 x.f1 x.f2)) ∧ Below w.heap.size w w'
 have hz := hb.size
 generalize gokB x.f0 x.f1 x.f2 = r at hv ⊢
 go_enter Try.func105, Try.ntmps105
 go_wp2_with (go_at_call 88; refine (hv _).mono ?_; rintro e w' ⟨rfl, hb'⟩)
 go_ret
 refine ⟨rfl, ?_⟩
 exact (hb.alloc hb.size _).trans (hb'.mono (by simp; omega))
def lsF (zs : List S36) (most : Int) : Int := if most < (zs.length : Int) then 3 else if zs.any (fun x => !gok x) = true then 2 else 0
set_option maxHeartbeats 1000000 in
theorem listed_any (w : World) (A : Option Addr) (c : Nat) (zs : List S36) (most : Int) (hC : Kd.C k36 w A zs.length zs) (r : Int) (hr : lsF zs most = r) :
  Calls Try.prog 70 #[.slice A zs.length c, .int .i64 most] w fun e w' => e = .returned (.int .i64 r) ∧ Below w.heap.size w w' := by
 have eg : ∀ args w, (callFunc 105 args).run Try.prog w = .ok (.enter 105 args) w := enters_of Try.func105 (by kernel_rfl) rfl
 unfold lsF at hr
 by_cases h1 : most < (zs.length : Int)
 ·rw [if_pos h1] at hr
  subst hr
  have h2 : decide (most < (zs.length : Int)) = true := decide_eq_true h1
  clear hC
  go_enter Try.func70, Try.ntmps70
  go_wp2
  go_ret
  exact ⟨rfl, Below.refl _ _⟩
 ·rw [if_neg h1] at hr
  have h2 : decide (most < (zs.length : Int)) = false := decide_eq_false h1
  clear h1
  cases hq : zs.any (fun x => !gok x) with
  | true =>
   rw [hq, if_pos rfl] at hr
   subst hr
   have hcon := containsF_any w 105 #[] _ eg A c zs hC (pred105 w) true hq
   clear hC hq
   go_enter Try.func70, Try.ntmps70
   go_wp2_with (go_at_call 85; refine hcon.mono ?_; rintro e w' ⟨rfl, hb'⟩)
   go_ret
   exact ⟨rfl, hb'⟩
  | false =>
   rw [hq, if_neg (by decide)] at hr
   subst hr
   have hcon := containsF_any w 105 #[] _ eg A c zs hC (pred105 w) false hq
   clear hC hq
   go_enter Try.func70, Try.ntmps70
   go_wp2_with (go_at_call 85; refine hcon.mono ?_; rintro e w' ⟨rfl, hb'⟩)
   go_ret
   exact ⟨rfl, hb'⟩
end Go.Proofs.Ytnbdfmdjedakcaa
namespace Go.Proofs.Ytnbdfmdjedakcaa
open Go.RowKit Go.Proofs.YtnbdfmdjedakcaaW.PrintWords Go.Proofs.YtnbdfmdjedakcaaW.PrintLast Go.Proofs.YtnbdfmdjedakcaaW.PrintMore PP
set_option linter.unusedVariables false
set_option linter.unusedSimpArgs false
def eqG (x y : S36) : Bool := x.f0 == y.f0 && (x.f1 == y.f1 && (x.f2 == y.f2))
theorem eqG_iff {x y : S36} : eqG x y = true ↔ x = y := by
 obtain ⟨a, b, c⟩ := x
 obtain ⟨d, e, f⟩ := y
 unfold eqG
 simp
def MapAt (w : World) (mb : Nat) (seen : List S36) : Prop := ∃ es ck, w.heap[mb]? = some (.map es ck) ∧ es.toList.map (fun e => (e.key, e.val)) = seen.map (fun x => (gv x, Value.bool true))
theorem MapAt.of_heap {w w' : World} {mb : Nat} {seen : List S36} (h : MapAt w mb seen) (he : w'.heap[mb]? = w.heap[mb]?) : MapAt w' mb seen := by
 obtain ⟨es, ck, h1, h2⟩ := h
 exact ⟨es, ck, by rw [he]; exact h1, h2⟩
theorem MapAt.lt {w : World} {mb : Nat} {seen : List S36} (h : MapAt w mb seen) : mb < w.heap.size := by
 obtain ⟨es, ck, h1, h2⟩ := h
 exact (Array.getElem?_eq_some_iff.1 h1).1
theorem check3 (W : World) (n : Nat) (x : Int) : (Instr.checkKey false (n + 1) 3 (.int .i64 x)).run Try.prog W = .ok () W ∧ (Instr.checkKey true (n + 1) 3 (.int .i64 x)).run Try.prog W = .ok () W := by
 constructor <;> simp [Instr.checkKey, run_underlying Try.underlying3]
theorem check36 (W : World) (b : Bool) (n : Nat) (x : S36) : (Instr.checkKey b (n + 2) 36 (gv x)).run Try.prog W = .ok () W := by
 obtain ⟨i, hi⟩ : ∃ i, Try.prog.info? 3 = some i := by
  cases h : Try.prog.info? 3 with
  | some i => exact ⟨i, rfl⟩
  | none =>
   exfalso
   have h2 : (Try.prog.info? 3).isSome = true := by kernel_rfl
   rw [h] at h2
   exact absurd h2 (by decide)
 have hs : (Go.sizeOf 3).run Try.prog W = .ok (Try.prog.cellsOf 3) W := run_sizeOf W hi
 have hc : Try.prog.cellsOf 3 = 1 := by kernel_rfl
 have c3 : ∀ y : Int, (Instr.checkKey b (n + 1) 3 (.int .i64 y)).run Try.prog W = .ok () W := fun y => by cases b; exact (check3 W n y).1; exact (check3 W n y).2
 have r3 : List.range' 0 3 = [0, 1, 2] := by decide
 unfold gv
 rw [Instr.checkKey]
 simp only [Sem.run_bind, run_underlying Try.underlying36, Result.andThen_ok, Std.Legacy.Range.forIn_eq_forIn_range', Std.Legacy.Range.size, Nat.sub_zero, Nat.add_one_sub_one, Nat.div_one, r3, List.forIn_cons, List.forIn_nil, hs, hc, Nat.zero_mul, Nat.one_mul, Nat.mul_one]
 rw [part3 W _ 0 .i64 x.f0 rfl]
 simp only [Result.andThen_ok, c3, Sem.run_pure]
 simp only [Sem.run_bind, hs, hc, Result.andThen_ok, Nat.one_mul, Nat.mul_one]
 rw [part3 W _ 1 .i64 x.f1 rfl]
 simp only [Result.andThen_ok, c3, Sem.run_pure]
 simp only [Sem.run_bind, hs, hc, Result.andThen_ok, Nat.one_mul, Nat.mul_one]
 rw [part3 W _ 2 .i64 x.f2 rfl]
 simp only [Result.andThen_ok, c3, Sem.run_pure]
theorem eq36 (W : World) (x y : S36) : (Op.equal 36 (gv x) (gv y)).run Try.prog W = .ok (eqG x y) W := eqA36 9998 W x.f0 y.f0 x.f1 y.f1 x.f2 y.f2
theorem asking (W : World) (x : S36) : ∀ (es : List MapEntry) (seen : List S36) (i : Nat), es.map (fun e => (e.key, e.val)) = seen.map (fun x => (gv x, Value.bool true)) →
  (seen.any (fun y => eqG x y) = true → ∃ j, (Instr.findAsking 36 (gv x) es i).run Try.prog W = .ok (some (j, .bool true)) W) ∧ (seen.any (fun y => eqG x y) = false → (Instr.findAsking 36 (gv x) es i).run Try.prog W = .ok none W)
 | [], [], i, _ => ⟨fun h => absurd h (by simp), fun _ => by simp [Instr.findAsking]⟩
 | [], _ :: _, i, h => absurd h (by simp)
 | _ :: _, [], i, h => absurd h (by simp)
 | e :: es, y :: seen, i, h => by
  simp only [List.map_cons, List.cons.injEq, Prod.mk.injEq] at h
  obtain ⟨⟨h1, h2⟩, h3⟩ := h
  obtain ⟨i1, i2⟩ := asking W x es seen (i + 1) h3
  rw [Instr.findAsking]
  simp only [Sem.run_bind, h1, eq36, Result.andThen_ok]
  cases hq : eqG x y with
  | true => exact ⟨fun _ => ⟨i, by simp [h2]⟩, fun h => by simp [hq] at h⟩
  | false =>
   simp only [List.any_cons, hq, Bool.false_or]
   exact ⟨fun h => by simpa using i1 h, fun h => by simpa using i2 h⟩
theorem findKey36 (W : World) (x : S36) (es : List MapEntry) : (Instr.findKey 36 (gv x) es).run Try.prog W = (Instr.findAsking 36 (gv x) es).run Try.prog W := by
 unfold Instr.findKey
 simp only [Sem.run_bind, run_underlying Try.underlying36, Result.andThen_ok]
 cases es with
 | nil => simp [Instr.findNow, Instr.findAsking]
 | cons e es => simp [Instr.findNow, Instr.sameNow]
theorem zero4 (W : World) : (zeroValue 4).run Try.prog W = .ok (.bool false) W := by kernel_rfl
theorem look_run (W : World) (mb : Nat) (seen : List S36) (x : S36) (h : MapAt W mb seen) : (Instr.lookup 89 (.map (some mb)) (gv x) false).run Try.prog W = .ok (.bool (seen.any fun y => eqG x y)) W := by
 obtain ⟨es, ck, h1, h2⟩ := h
 obtain ⟨i1, i2⟩ := asking W x es.toList seen 0 h2
 have hg : (getObj mb).run Try.prog W = .ok (.map es ck) W := run_getObj_map W mb es ck h1
 unfold Instr.lookup
 simp only [Sem.run_bind, run_underlying Try.underlying89, Result.andThen_ok, hg, Sem.run_pure]
 rw [check36 W es.isEmpty 9998 x]
 simp only [Result.andThen_ok, Sem.run_bind, findKey36]
 cases hq : seen.any (fun y => eqG x y) with
 | true =>
  obtain ⟨j, hj⟩ := i1 hq
  rw [hj]
  simp
 | false =>
  rw [i2 hq]
  simp only [Result.andThen_ok, Sem.run_bind, zero4, Sem.run_pure]
  simp
def mapPut (W : World) (mb : Nat) (x : S36) : World := { W with heap := W.heap.modify mb fun
 | .map es ck => .map (es.push { key := gv x, val := .bool true, born := ck }) (ck + 1)
 | o => o }
theorem put_run (W : World) (mb : Nat) (seen : List S36) (x : S36) (h : MapAt W mb seen) (hn : seen.any (fun y => eqG x y) = false) : ∃ W', (Instr.mapUpdate 89 (.map (some mb)) (gv x) (.bool true)).run Try.prog W = .ok () W' ∧ MapAt W' mb (seen ++ [x]) ∧ W'.heap.size = W.heap.size ∧ W'.os = W.os ∧ W'.tape = W.tape ∧ W'.output = W.output ∧ ∀ i, i ≠ mb → W'.heap[i]? = W.heap[i]? := by
 have hlt := h.lt
 obtain ⟨es, ck, h1, h2⟩ := h
 obtain ⟨i1, i2⟩ := asking W x es.toList seen 0 h2
 have hg : (getObj mb).run Try.prog W = .ok (.map es ck) W := run_getObj_map W mb es ck h1
 refine ⟨{ W with heap := W.heap.setIfInBounds mb (.map (es.push { key := gv x, val := .bool true, born := ck }) (ck + 1)) }, ?_, ?_, ?_, rfl, rfl, rfl, fun i hi => ?_⟩
 ·unfold Instr.mapUpdate
  simp only [Sem.run_bind, run_underlying Try.underlying89, Result.andThen_ok, hg]
  rw [check36 W false 9998 x]
  simp only [Result.andThen_ok, Sem.run_bind, findKey36]
  rw [i2 hn]
  simp only [Result.andThen_ok]
  exact MapKept.run_setObj_map _ h1
 ·refine ⟨es.push { key := gv x, val := .bool true, born := ck }, ck + 1, ?_, ?_⟩
  ·simp [hlt]
  ·simp [h2]
 ·simp
 ·show (W.heap.setIfInBounds mb _)[i]? = _
  rw [Array.getElem?_setIfInBounds, if_neg (fun e => hi e.symm)]
end Go.Proofs.Ytnbdfmdjedakcaa
namespace Go.Proofs.Ytnbdfmdjedakcaa
open Go.RowKit Go.Proofs.YtnbdfmdjedakcaaW.PrintWords Go.Proofs.YtnbdfmdjedakcaaW.PrintLast Go.Proofs.YtnbdfmdjedakcaaW.PrintMore PP
set_option linter.unusedVariables false
set_option linter.unusedSimpArgs false
def Gr (w W : World) : Prop := ∃ q os, W = Sort.grow (w.drewN q) os
theorem Gr.refl (w : World) : Gr w w := ⟨0, #[], by simp [World.drewN]⟩
theorem Gr.drewN {w W : World} (h : Gr w W) (n : Nat) : Gr w (W.drewN n) := by
 obtain ⟨q, os, rfl⟩ := h
 exact ⟨q + n, os, by rw [← World.drewN_drewN]; rfl⟩
theorem Gr.drew {w W : World} (h : Gr w W) : Gr w W.drew := h.drewN 1
theorem Gr.alloc {w W : World} (h : Gr w W) (o : Obj) : Gr w (W.alloc o) := by
 obtain ⟨q, os, rfl⟩ := h
 refine ⟨q, os.push o, ?_⟩
 show ({ (w.drewN q) with heap := ((w.drewN q).heap ++ os).push o } : World) = { (w.drewN q) with heap := (w.drewN q).heap ++ os.push o }
 rw [Array.append_push]
theorem lit3 (w : World) (x y z : Int) : Kd.C (Kd.int .i64) (w.alloc (.cells #[.int .i64 x, .int .i64 y, .int .i64 z] 3)) (some ⟨w.heap.size, 0, none⟩) 3 [x, y, z] := by
 refine ⟨rfl, by decide, fun _ => ⟨_, rfl, fun j p hp => ?_⟩⟩
 have hb := blk_new w (.cells #[.int .i64 x, .int .i64 y, .int .i64 z] 3)
 refine ⟨[.int .i64 p], rfl, rfl, fun i u hu => ?_⟩
 match i, hu with
 | 0, hu =>
  obtain rfl := Option.some.inj hu
  show World.cell? _ (Addr.add ⟨w.heap.size, 0, none⟩ (j * 1 + 0)) = _
  rw [Addr.add_lit]
  match j, hp with
  | 0, hp => obtain rfl := Option.some.inj hp; exact (blk_cell hb 0).trans rfl
  | 1, hp => obtain rfl := Option.some.inj hp; exact (blk_cell hb 1).trans rfl
  | 2, hp => obtain rfl := Option.some.inj hp; exact (blk_cell hb 2).trans rfl
  | j + 3, hp => exact absurd hp (by simp)
 | i + 1, hu => exact absurd hu (by simp)
set_option maxHeartbeats 8000000 in
set_option maxRecDepth 100000 in
theorem compare_gr (k : Nat) (a0_0 a0_1 a0_2 a1_0 a1_1 a1_2 t132 t133 t134 t138 : Int) (w : World) (h0 : cmp_Compare_int.f a0_0 a1_0 = some t132) (h1 : cmp_Compare_int.f a0_1 a1_1 = some t133) (h2 : cmp_Compare_int.f a0_2 a1_2 = some t134) (h3 : cmp_Or_int.f k [t132, t133, t134] = some t138) :
  Calls Try.prog 108 #[.agg #[.int .i64 a0_0, .int .i64 a0_1, .int .i64 a0_2], .agg #[.int .i64 a1_0, .int .i64 a1_1, .int .i64 a1_2]] w fun e w' => e = .returned (.int .i64 t138) ∧ Gr w w' := by
 have hu36 := Try.underlying36
 have A3 := Aside0.mk h0
 have A4 := Aside0.mk h1
 have A5 := Aside0.mk h2
 have A6 := Aside0.mk h3
 clear h0 h1 h2 h3
 have HG0 := Aside0.mk (Gr.refl w)
 go_enter Try.func108, Try.ntmps108
 go_wp2
 obtain ⟨W0, hW0⟩ : ∃ W0, W0 = (w.alloc (.cells #[.int .i64 a0_0, .int .i64 a0_1, .int .i64 a0_2] 36)).alloc (.cells #[.int .i64 a1_0, .int .i64 a1_1, .int .i64 a1_2] 36) := ⟨_, rfl⟩
 obtain ⟨gb130, hgb130⟩ : ∃ g, g = w.heap.size := ⟨_, rfl⟩
 have BK130 : Aside0 (W0.heap[gb130]? = some (.cells #[.int .i64 a0_0, .int .i64 a0_1, .int .i64 a0_2] 36 (0, 0))) := ⟨by rw [hW0, hgb130]; exact blk_alloc (blk_new w _) _⟩
 have BK131 : Aside0 (W0.heap[gb130 + 1]? = some (.cells #[.int .i64 a1_0, .int .i64 a1_1, .int .i64 a1_2] 36 (0, 0))) := ⟨by rw [hW0, hgb130]; exact (by simpa using blk_new (w.alloc (.cells #[.int .i64 a0_0, .int .i64 a0_1, .int .i64 a0_2] 36)) (.cells #[.int .i64 a1_0, .int .i64 a1_1, .int .i64 a1_2] 36))⟩
 have HG : Aside0 (Gr w W0) := ⟨by rw [hW0]; exact (HG0.out.alloc _).alloc _⟩
 rw [← hW0, ← hgb130]
 clear hW0 HG0 hgb130
 have n0_ := Aside0.mk (blk_drew BK130.out)
 have n1_ := Aside0.mk (blk_drew BK131.out)
 have n2_ := Aside0.mk HG.out.drew
 clear BK130 BK131 HG
 have BK130 := n0_
 have BK131 := n1_
 have HG := n2_
 clear n0_ n1_ n2_
 refine start_ (n := 18) (S := fun w' => w'.cell? ⟨gb130, 0, none⟩ = some (.int .i64 a0_0) ∧ w'.cell? ⟨gb130, 1, none⟩ = some (.int .i64 a0_1) ∧ w'.cell? ⟨gb130, 2, none⟩ = some (.int .i64 a0_2) ∧ w'.cell? ⟨gb130 + 1, 0, none⟩ = some (.int .i64 a1_0) ∧ w'.cell? ⟨gb130 + 1, 1, none⟩ = some (.int .i64 a1_1) ∧ w'.cell? ⟨gb130 + 1, 2, none⟩ = some (.int .i64 a1_2)) (ds := []) #[false, false, false, false, false, false, false, false, false, false, false, false, false, false, false, false, false, false] (by kernel_rfl) rfl rfl ⟨(blk_cell BK130.out 0).trans rfl, (blk_cell BK130.out 1).trans rfl, (blk_cell BK130.out 2).trans rfl, (blk_cell BK131.out 0).trans rfl, (blk_cell BK131.out 1).trans rfl, (blk_cell BK131.out 2).trans rfl⟩ (fun hHeld => ?_); refine with_tabW PP.grade_compare.tab1 PP.grade_compare.bits1 (fun HT_ HW_ => ?_)
 generalize W0.drew = w9 at BK130 BK131 HG hHeld ⊢
 refine pure_ (i := 0) (N := some 5) (v := ?_) (a' := ?_) #[true, false, false, false, false, false, false, false, false, false, false, false, false, false, false, false, false, false] rfl rfl (any_of HT_.out (by kernel_rfl)) (fun _ _ _ h => h) (Or.inl ⟨by rfl, ?_⟩) ?_ ?_
 rotate_left
 ·intro w'
  go_simp
  with_reducible rfl
 rotate_left
 ·simp only [Act.put, List.setIfInBounds_toArray, List.set_cons_zero, List.set_cons_succ, i64_w, i32_w]
  rfl
 refine pure_ (i := 2) (N := some 7) (v := ?_) (a' := ?_) #[true, false, true, false, false, false, false, false, false, false, false, false, false, false, false, false, false, false] rfl rfl (any_of HT_.out (by kernel_rfl)) (fun _ _ _ h => h) (Or.inl ⟨by rfl, ?_⟩) ?_ ?_
 rotate_left
 ·intro w'
  go_simp
  with_reducible rfl
 rotate_left
 ·simp only [Act.put, List.setIfInBounds_toArray, List.set_cons_zero, List.set_cons_succ, i64_w, i32_w]
  rfl
 refine pure_ (i := 5) (N := some 10) (v := ?_) (a' := ?_) #[true, false, true, false, false, true, false, false, false, false, false, false, false, false, false, false, false, false] rfl rfl (any_of HT_.out (by kernel_rfl)) (fun _ _ _ h => h) (Or.inl ⟨by rfl, ?_⟩) ?_ ?_
 rotate_left
 ·intro w'
  go_simp
  with_reducible rfl
 rotate_left
 ·simp only [Act.put, List.setIfInBounds_toArray, List.set_cons_zero, List.set_cons_succ, i64_w, i32_w]
  rfl
 refine pure_ (i := 7) (N := some 12) (v := ?_) (a' := ?_) #[true, false, true, false, false, true, false, true, false, false, false, false, false, false, false, false, false, false] rfl rfl (any_of HT_.out (by kernel_rfl)) (fun _ _ _ h => h) (Or.inl ⟨by rfl, ?_⟩) ?_ ?_
 rotate_left
 ·intro w'
  go_simp
  with_reducible rfl
 rotate_left
 ·simp only [Act.put, List.setIfInBounds_toArray, List.set_cons_zero, List.set_cons_succ, i64_w, i32_w]
  rfl
 refine pure_ (i := 10) (N := some 15) (v := ?_) (a' := ?_) #[true, false, true, false, false, true, false, true, false, false, true, false, false, false, false, false, false, false] rfl rfl (any_of HT_.out (by kernel_rfl)) (fun _ _ _ h => h) (Or.inl ⟨by rfl, ?_⟩) ?_ ?_
 rotate_left
 ·intro w'
  go_simp
  with_reducible rfl
 rotate_left
 ·simp only [Act.put, List.setIfInBounds_toArray, List.set_cons_zero, List.set_cons_succ, i64_w, i32_w]
  rfl
 refine pure_ (i := 12) (N := some 17) (v := ?_) (a' := ?_) #[true, false, true, false, false, true, false, true, false, false, true, false, true, false, false, false, false, false] rfl rfl (any_of HT_.out (by kernel_rfl)) (fun _ _ _ h => h) (Or.inl ⟨by rfl, ?_⟩) ?_ ?_
 rotate_left
 ·intro w'
  go_simp
  with_reducible rfl
 rotate_left
 ·simp only [Act.put, List.setIfInBounds_toArray, List.set_cons_zero, List.set_cons_succ, i64_w, i32_w]
  rfl
 refine take_ (i := 1) (N := some 6) (v := ?_) (a' := ?_) #[true, true, true, false, false, true, false, true, false, false, true, false, true, false, false, false, false, false] rfl rfl (take_ofW HT_.out HW_.out (by kernel_rfl)) (fun _ _ _ h => h) (Or.inl ⟨by rfl, ?_⟩) hHeld ?_ ?_
 rotate_left
 ·rintro w' ⟨s0, s1, s2, s3, s4, s5⟩
  go_simp
  with_reducible rfl
 rotate_left
 ·simp only [Act.put, List.setIfInBounds_toArray, List.set_cons_zero, List.set_cons_succ, i64_w, i32_w]
  rfl
 refine take_ (i := 3) (N := some 8) (v := ?_) (a' := ?_) #[true, true, true, true, false, true, false, true, false, false, true, false, true, false, false, false, false, false] rfl rfl (take_ofW HT_.out HW_.out (by kernel_rfl)) (fun _ _ _ h => h) (Or.inl ⟨by rfl, ?_⟩) hHeld ?_ ?_
 rotate_left
 ·rintro w' ⟨s0, s1, s2, s3, s4, s5⟩
  go_simp
  with_reducible rfl
 rotate_left
 ·simp only [Act.put, List.setIfInBounds_toArray, List.set_cons_zero, List.set_cons_succ, i64_w, i32_w]
  rfl
 refine take_ (i := 6) (N := some 11) (v := ?_) (a' := ?_) #[true, true, true, true, false, true, true, true, false, false, true, false, true, false, false, false, false, false] rfl rfl (take_ofW HT_.out HW_.out (by kernel_rfl)) (fun _ _ _ h => h) (Or.inl ⟨by rfl, ?_⟩) hHeld ?_ ?_
 rotate_left
 ·rintro w' ⟨s0, s1, s2, s3, s4, s5⟩
  go_simp
  with_reducible rfl
 rotate_left
 ·simp only [Act.put, List.setIfInBounds_toArray, List.set_cons_zero, List.set_cons_succ, i64_w, i32_w]
  rfl
 refine take_ (i := 8) (N := some 13) (v := ?_) (a' := ?_) #[true, true, true, true, false, true, true, true, true, false, true, false, true, false, false, false, false, false] rfl rfl (take_ofW HT_.out HW_.out (by kernel_rfl)) (fun _ _ _ h => h) (Or.inl ⟨by rfl, ?_⟩) hHeld ?_ ?_
 rotate_left
 ·rintro w' ⟨s0, s1, s2, s3, s4, s5⟩
  go_simp
  with_reducible rfl
 rotate_left
 ·simp only [Act.put, List.setIfInBounds_toArray, List.set_cons_zero, List.set_cons_succ, i64_w, i32_w]
  rfl
 refine take_ (i := 11) (N := some 16) (v := ?_) (a' := ?_) #[true, true, true, true, false, true, true, true, true, false, true, true, true, false, false, false, false, false] rfl rfl (take_ofW HT_.out HW_.out (by kernel_rfl)) (fun _ _ _ h => h) (Or.inl ⟨by rfl, ?_⟩) hHeld ?_ ?_
 rotate_left
 ·rintro w' ⟨s0, s1, s2, s3, s4, s5⟩
  go_simp
  with_reducible rfl
 rotate_left
 ·simp only [Act.put, List.setIfInBounds_toArray, List.set_cons_zero, List.set_cons_succ, i64_w, i32_w]
  rfl
 refine take_ (i := 13) (N := some 18) (v := ?_) (a' := ?_) #[true, true, true, true, false, true, true, true, true, false, true, true, true, true, false, false, false, false] rfl rfl (take_ofW HT_.out HW_.out (by kernel_rfl)) (fun _ _ _ h => h) (Or.inl ⟨by rfl, ?_⟩) hHeld ?_ ?_
 rotate_left
 ·rintro w' ⟨s0, s1, s2, s3, s4, s5⟩
  go_simp
  with_reducible rfl
 rotate_left
 ·simp only [Act.put, List.setIfInBounds_toArray, List.set_cons_zero, List.set_cons_succ, i64_w, i32_w]
  rfl
 refine one_ (i := 4) (N := some 9) #[true, true, true, true, true, true, true, true, true, false, true, true, true, true, false, false, false, false] rfl rfl (one_of HT_.out (by kernel_rfl)) (by decide) (fun K hK => ?_)
 refine goes_ Try.func126 (by kernel_rfl) rfl #[.int .i64 a0_0, .int .i64 a1_0] (by rfl) rfl rfl (by (try simp only [List.map_toArray, List.map_cons, List.map_nil]); first | done | rfl | (simp only [List.length_drop, List.length_take]; rfl)) ?_
 with_reducible refine (cmp_Compare_int.calls a0_0 a1_0 t132 _ A3.out).mono ?_
 rintro e w' ⟨rfl, ⟨n0, rfl⟩⟩
 refine ⟨_, rfl, ?_⟩
 refine hK.out _ _ ⟨(blk_cell BK130.out 0).trans rfl, (blk_cell BK130.out 1).trans rfl, (blk_cell BK130.out 2).trans rfl, (blk_cell BK131.out 0).trans rfl, (blk_cell BK131.out 1).trans rfl, (blk_cell BK131.out 2).trans rfl⟩ (fun hHeld => ?_)
 clear hK K
 refine norm_ (a' := ?_) ?_ ?_
 rotate_left
 ·show Act.put _ (some 9) _ = _
  simp only [Act.put, List.setIfInBounds_toArray, List.set_cons_zero, List.set_cons_succ, i64_w, i32_w]
  rfl
 refine one_ (i := 9) (N := some 14) #[true, true, true, true, true, true, true, true, true, true, true, true, true, true, false, false, false, false] rfl rfl (one_of HT_.out (by kernel_rfl)) (by decide) (fun K hK => ?_)
 refine goes_ Try.func126 (by kernel_rfl) rfl #[.int .i64 a0_1, .int .i64 a1_1] (by rfl) rfl rfl (by (try simp only [List.map_toArray, List.map_cons, List.map_nil]); first | done | rfl | (simp only [List.length_drop, List.length_take]; rfl)) ?_
 with_reducible refine (cmp_Compare_int.calls a0_1 a1_1 t133 _ A4.out).mono ?_
 rintro e w' ⟨rfl, ⟨n1, rfl⟩⟩
 refine ⟨_, rfl, ?_⟩
 refine hK.out _ _ ⟨(blk_cell BK130.out 0).trans rfl, (blk_cell BK130.out 1).trans rfl, (blk_cell BK130.out 2).trans rfl, (blk_cell BK131.out 0).trans rfl, (blk_cell BK131.out 1).trans rfl, (blk_cell BK131.out 2).trans rfl⟩ (fun hHeld => ?_)
 clear hK K
 refine norm_ (a' := ?_) ?_ ?_
 rotate_left
 ·show Act.put _ (some 14) _ = _
  simp only [Act.put, List.setIfInBounds_toArray, List.set_cons_zero, List.set_cons_succ, i64_w, i32_w]
  rfl
 refine one_ (i := 14) (N := some 19) #[true, true, true, true, true, true, true, true, true, true, true, true, true, true, true, false, false, false] rfl rfl (one_of HT_.out (by kernel_rfl)) (by decide) (fun K hK => ?_)
 refine goes_ Try.func126 (by kernel_rfl) rfl #[.int .i64 a0_2, .int .i64 a1_2] (by rfl) rfl rfl (by (try simp only [List.map_toArray, List.map_cons, List.map_nil]); first | done | rfl | (simp only [List.length_drop, List.length_take]; rfl)) ?_
 with_reducible refine (cmp_Compare_int.calls a0_2 a1_2 t134 _ A5.out).mono ?_
 rintro e w' ⟨rfl, ⟨n2, rfl⟩⟩
 refine ⟨_, rfl, ?_⟩
 refine hK.out _ _ ⟨(blk_cell BK130.out 0).trans rfl, (blk_cell BK130.out 1).trans rfl, (blk_cell BK130.out 2).trans rfl, (blk_cell BK131.out 0).trans rfl, (blk_cell BK131.out 1).trans rfl, (blk_cell BK131.out 2).trans rfl⟩ (fun hHeld => ?_)
 clear hK K
 refine norm_ (a' := ?_) ?_ ?_
 rotate_left
 ·show Act.put _ (some 19) _ = _
  simp only [Act.put, List.setIfInBounds_toArray, List.set_cons_zero, List.set_cons_succ, i64_w, i32_w]
  rfl
 refine one_ (i := 15) (N := some 20) #[true, true, true, true, true, true, true, true, true, true, true, true, true, true, true, true, false, false] rfl rfl (one_of HT_.out (by kernel_rfl)) (by decide) (fun K hK => ?_)
 refine event_step (by rfl) (v := .slice (some ⟨w9.heap.size, 0, none⟩) 3 3) (w1 := World.alloc (w9.drewN (n0 + n1 + n2)) (.cells #[.int .i64 t132, .int .i64 t133, .int .i64 t134] 3)) (by first | (go_simp; done) | (go_simp; rfl)) ?_
 have n0_ := Aside0.mk (blk_alloc (blk_drewN BK130.out (n0 + n1 + n2)) (.cells #[.int .i64 t132, .int .i64 t133, .int .i64 t134] 3))
 have n1_ := Aside0.mk (blk_alloc (blk_drewN BK131.out (n0 + n1 + n2)) (.cells #[.int .i64 t132, .int .i64 t133, .int .i64 t134] 3))
 have n2_ := Aside0.mk ((HG.out.drewN (n0 + n1 + n2)).alloc (.cells #[.int .i64 t132, .int .i64 t133, .int .i64 t134] 3))
 have n3_ := Aside0.mk (lit3 (w9.drewN (n0 + n1 + n2)) t132 t133 t134)
 clear BK130 BK131 HG
 have BK130 := n0_
 have BK131 := n1_
 have HG := n2_
 have HC3 := n3_
 clear n0_ n1_ n2_ n3_
 refine hK.out _ _ ⟨(blk_cell BK130.out 0).trans rfl, (blk_cell BK130.out 1).trans rfl, (blk_cell BK130.out 2).trans rfl, (blk_cell BK131.out 0).trans rfl, (blk_cell BK131.out 1).trans rfl, (blk_cell BK131.out 2).trans rfl⟩ (fun hHeld => ?_)
 clear hK K
 refine norm_ (a' := ?_) ?_ ?_
 rotate_left
 ·show Act.put _ (some 20) _ = _
  simp only [Act.put, List.setIfInBounds_toArray, List.set_cons_zero, List.set_cons_succ, i64_w, i32_w]
  rfl
 refine one_ (i := 16) (N := some 21) #[true, true, true, true, true, true, true, true, true, true, true, true, true, true, true, true, true, false] rfl rfl (one_of HT_.out (by kernel_rfl)) (by decide) (fun K hK => ?_)
 refine goes_ Try.func125 (by kernel_rfl) rfl #[.slice (some ⟨w9.heap.size, 0, none⟩) 3 3] (by rfl) rfl rfl (by first | rfl | (simp only [List.map_toArray, List.map_cons, List.map_nil]; rfl)) ?_
 refine Calls.mono (show Calls Try.prog 125 #[.slice (some ⟨w9.heap.size, 0, none⟩) 3 3] ((w9.drewN (n0 + n1 + n2)).alloc (.cells #[.int .i64 t132, .int .i64 t133, .int .i64 t134] 3)) (fun e w' => e = .returned (.int .i64 t138) ∧ Drawn0 ((w9.drewN (n0 + n1 + n2)).alloc (.cells #[.int .i64 t132, .int .i64 t133, .int .i64 t134] 3)) w') from cmp_Or_int.calls k _ 3 [t132, t133, t134] t138 _ HC3.out (Nat.le_refl _) A6.out) ?_
 rintro e w' ⟨rfl, ⟨n3, rfl⟩⟩
 refine ⟨_, rfl, ?_⟩
 refine hK.out _ _ ⟨(blk_cell BK130.out 0).trans rfl, (blk_cell BK130.out 1).trans rfl, (blk_cell BK130.out 2).trans rfl, (blk_cell BK131.out 0).trans rfl, (blk_cell BK131.out 1).trans rfl, (blk_cell BK131.out 2).trans rfl⟩ (fun hHeld => ?_)
 clear hK K
 refine norm_ (a' := ?_) ?_ ?_
 rotate_left
 ·show Act.put _ (some 21) _ = _
  simp only [Act.put, List.setIfInBounds_toArray, List.set_cons_zero, List.set_cons_succ, i64_w, i32_w]
  rfl
 refine pure_ (i := 17) (N := some 4) (v := ?_) (a' := ?_) #[true, true, true, true, true, true, true, true, true, true, true, true, true, true, true, true, true, true] rfl rfl (any_of HT_.out (by kernel_rfl)) (fun _ _ _ h => h) (Or.inl ⟨by rfl, ?_⟩) ?_ ?_
 rotate_left
 ·intro w'
  go_simp
  with_reducible rfl
 rotate_left
 ·simp only [Act.put, List.setIfInBounds_toArray, List.set_cons_zero, List.set_cons_succ, i64_w, i32_w]
  rfl
 refine done_ (done_of HT_.out (by kernel_rfl)) ?_
 try go_wp2
 go_ret
 exact ⟨rfl, HG.out.drewN _⟩
end Go.Proofs.Ytnbdfmdjedakcaa
namespace Go.Proofs.Ytnbdfmdjedakcaa
open Go.RowKit Go.Proofs.YtnbdfmdjedakcaaW.PrintWords Go.Proofs.YtnbdfmdjedakcaaW.PrintLast Go.Proofs.YtnbdfmdjedakcaaW.PrintMore PP
attribute [local go_sem high] eqA36
set_option linter.unusedVariables false
set_option linter.unusedSimpArgs false
def belowG (x y : S36) : Bool := decide (x.f0 ≤ y.f0) && (decide (x.f1 ≤ y.f1) && decide (x.f2 ≤ y.f2))
def RuleB (g : Nat) (rule : S36 → S36 → Bool) : Prop := ∀ (W : World) (x y : S36), Calls Try.prog g #[gv x, gv y] W fun e w' => e = .returned (.bool (rule x y)) ∧ Below W.heap.size W w'
theorem below_f (x y : S36) : grade_Below.f x.f0 x.f1 x.f2 y.f0 y.f1 y.f2 = some (belowG x y) := by
 unfold grade_Below.f belowG
 by_cases h0 : x.f0 ≤ y.f0 <;> by_cases h1 : x.f1 ≤ y.f1 <;> simp [h0, h1]
theorem rule26 : RuleB 26 belowG := fun W x y => grade_Below.calls x.f0 x.f1 x.f2 y.f0 y.f1 y.f2 _ W (below_f x y)
set_option maxHeartbeats 1000000 in
theorem rule76 : RuleB 76 (fun x y => belowG y x) := fun W x y => by
 have hb := fun W => rule26 W y x
 unfold gv at hb ⊢
 show Calls Try.prog 76 #[.agg #[.int .i64 x.f0, .int .i64 x.f1, .int .i64 x.f2], .agg #[.int .i64 y.f0, .int .i64 y.f1, .int .i64 y.f2]] W fun e w' => e = .returned (.bool (belowG y x)) ∧ Below W.heap.size W w'
 generalize belowG y x = r at hb ⊢
 go_enter Try.func76, Try.ntmps76
 go_wp2_with (go_at_call 26; refine (hb _).mono ?_; rintro e w' ⟨rfl, hb'⟩)
 go_ret
 refine ⟨rfl, ?_⟩
 exact (((Below.refl _ W).alloc (Nat.le_refl _) _).alloc (by simp) _).trans (hb'.mono (by simp; omega))
set_option maxHeartbeats 4000000 in
theorem pred106 (w : World) (gb rb rg : Nat) (rule : S36 → S36 → Bool) (x : S36) (eg : ∀ args w, (callFunc rg args).run Try.prog w = .ok (.enter rg args) w) (hR : RuleB rg rule) (hgb : w.heap[gb]? = some (.cells #[.int .i64 x.f0, .int .i64 x.f1, .int .i64 x.f2] 36 (0, 0))) (hrb : w.heap[rb]? = some (.cells #[.func (.func rg) #[] #[]] 34 (0, 0))) :
  PredB 106 #[.pointer (some ⟨gb, 0, none⟩), .pointer (some ⟨rb, 0, none⟩)] (fun o => !eqG o x && rule o x) w := fun W o hb => by
 have l1 : gb < w.heap.size := (Array.getElem?_eq_some_iff.1 hgb).1
 have l2 : rb < w.heap.size := (Array.getElem?_eq_some_iff.1 hrb).1
 have hz := hb.size
 have g1 : W.heap[gb]? = _ := (hb.block gb l1).trans hgb
 have g2 : W.heap[rb]? = _ := (hb.block rb l2).trans hrb
 have c0 : W.cell? ⟨gb, 0, none⟩ = some (.int .i64 x.f0) := (blk_cell g1 0).trans rfl
 have c1 : W.cell? ⟨gb, 1, none⟩ = some (.int .i64 x.f1) := (blk_cell g1 1).trans rfl
 have c2 : W.cell? ⟨gb, 2, none⟩ = some (.int .i64 x.f2) := (blk_cell g1 2).trans rfl
 have c3 : W.cell? ⟨rb, 0, none⟩ = some (.func (.func rg) #[] #[]) := (blk_cell g2 0).trans rfl
 have n1 : gb ≠ W.heap.size := by omega
 have n2 : rb ≠ W.heap.size := by omega
 have n3 : gb < W.heap.size := by omega
 have n4 : rb < W.heap.size := by omega
 have hru := fun W => hR W o x
 have HB := Hd.mk hb
 have HZ := Hd.mk hz
 clear g1 g2 hgb hrb hR hb hz l1 l2
 show Calls Try.prog 106 #[.agg #[.int .i64 o.f0, .int .i64 o.f1, .int .i64 o.f2], .pointer (some ⟨gb, 0, none⟩), .pointer (some ⟨rb, 0, none⟩)] W fun e w' => e = .returned (.bool (!eqG o x && rule o x)) ∧ Below w.heap.size w w'
 have stop : eqG o x = true → ∀ r, (!eqG o x && rule o x) = r → r = false := fun h r hr => by rw [h] at hr; exact hr.symm
 obtain ⟨r, hr⟩ : ∃ r, (!eqG o x && rule o x) = r := ⟨_, rfl⟩
 rw [hr]
 have goes : eqG o x = false → rule o x = r := fun h => by rw [h] at hr; exact hr
 have same : eqG o x = true → r = false := fun h => stop h r hr
 have GO := Hd.mk goes
 have SA := Hd.mk same
 clear goes same stop hr
 cases e0 : o.f0 == x.f0 with
 | false =>
  have hq : rule o x = r := GO.out (by unfold eqG; rw [e0]; rfl)
  rw [hq] at hru
  clear hq
  go_enter Try.func106, Try.ntmps106
  go_wp2_with (go_at_fn rg; refine (hru _).mono ?_; rintro e w' ⟨rfl, hb'⟩)
  go_ret
  exact ⟨rfl, (HB.out.alloc HZ.out _).trans (hb'.mono (by simp; have := HZ.out; omega))⟩
 | true =>
  cases e1 : o.f1 == x.f1 with
  | false =>
   have hq : rule o x = r := GO.out (by unfold eqG; rw [e0, e1]; rfl)
   rw [hq] at hru
   clear hq
   go_enter Try.func106, Try.ntmps106
   go_wp2_with (go_at_fn rg; refine (hru _).mono ?_; rintro e w' ⟨rfl, hb'⟩)
   go_ret
   exact ⟨rfl, (HB.out.alloc HZ.out _).trans (hb'.mono (by simp; have := HZ.out; omega))⟩
  | true =>
   cases e2 : o.f2 == x.f2 with
   | false =>
    have hq : rule o x = r := GO.out (by unfold eqG; rw [e0, e1, e2]; rfl)
    rw [hq] at hru
    clear hq
    go_enter Try.func106, Try.ntmps106
    go_wp2_with (go_at_fn rg; refine (hru _).mono ?_; rintro e w' ⟨rfl, hb'⟩)
    go_ret
    exact ⟨rfl, (HB.out.alloc HZ.out _).trans (hb'.mono (by simp; have := HZ.out; omega))⟩
   | true =>
    have hq : r = false := SA.out (by unfold eqG; rw [e0, e1, e2]; rfl)
    subst hq
    clear hru
    go_enter Try.func106, Try.ntmps106
    go_wp2
    go_ret
    exact ⟨rfl, HB.out.alloc HZ.out _⟩
end Go.Proofs.Ytnbdfmdjedakcaa
