-- PRINTED by print.py (a twelfth state) out of the translation. Not trusted: Lean checks it.
import Derived.Test.YthhgdndjnflklaaQ0
import Derived.Test.YthhgdndjnflklaaQ2
import Derived.Test.YthhgdndjnflklaaQ15
import Derived.Test.YthhgdndjnflklaaQ17
import Derived.Test.YthhgdndjnflklaaQ21
import Derived.Test.YthhgdndjnflklaaExt
namespace Go.Proofs.Ythhgdndjnflklaa.PP
open Go.RowKit Go.Proofs.YthhgdndjnflklaaW.PrintWords Go.Proofs.YthhgdndjnflklaaW.PrintLast Go.Proofs.YthhgdndjnflklaaW.PrintMore
attribute [local go_sem] max2_int min2_int max_two min_two max_three min_three max_four min_four   -- for this text's walks alone
set_option linter.unusedVariables false
set_option linter.unusedSimpArgs false

/-! ### kimberlitelaw04_PairGallai: function 4 -/
mutual
def kimberlitelaw04_PairGallai.j0 : Nat → Int → List (S41) → List Int → Int → List Int → Int → Bool → Option (Bool)
  | 0, _, _, _, _, _, _, _ => none
  | k + 1, x0, x1, x5, x7, x8, x9, x43 => if x43 = true then (if x7 = x9 then ((kimberlitelaw04_alive.f k).bind fun t210 => (some t210)) else (some false)) else ((kimberliteref04_Pairs.f k x0 x1 x5).bind fun bt211 => (if bt211.2 = true then (kimberlitelaw04_PairGallai.j1 k x0 x1 x5 x8 ((x8.length : Int) != x0)) else (kimberlitelaw04_PairGallai.j1 k x0 x1 x5 x8 true)))
def kimberlitelaw04_PairGallai.j1 : Nat → Int → List (S41) → List Int → List Int → Bool → Option (Bool)
  | 0, _, _, _, _, _ => none
  | k + 1, x0, x1, x5, x8, x64 => if x64 = true then (some false) else ((kimberliteref04_Near.f k x0 x1).bind fun t213 => (if 0 ≤ x0 then (if (x0 : Int).toNat ≤ 281474976710656 then (kimberlitelaw04_PairGallai.l0 k x0 x5 x8 t213 (List.replicate (x0 : Int).toNat false) 0) else (none)) else (none)))
def kimberlitelaw04_PairGallai.l0 : Nat → Int → List Int → List Int → List (List Bool) → List Bool → Int → Option (Bool)
  | 0, _, _, _, _, _, _ => none
  | k + 1, x0, x5, x8, x12, x13, x14 => if x14 < x0 then (if 0 ≤ x14 then (if x14 < (x8.length : Int) then (if (rd x8 x14) = 1 then (if x14 < (x5.length : Int) then (if (rd x5 x14) = x0 then (kimberlitelaw04_PairGallai.j3 k x0 x5 x8 x12 x13 x14 true) else (if 0 ≤ (rd x5 x14) then (if (rd x5 x14) < (x8.length : Int) then (if (rd x8 (rd x5 x14)) = 0 then (if (rd x8 x14) = 2 then (kimberlitelaw04_PairGallai.j3 k x0 x5 x8 x12 x13 x14 ((rd x8 (rd x5 x14)) != 2)) else (kimberlitelaw04_PairGallai.j3 k x0 x5 x8 x12 x13 x14 false)) else (kimberlitelaw04_PairGallai.j3 k x0 x5 x8 x12 x13 x14 true)) else (none)) else (none))) else (none)) else (if (rd x8 x14) = 2 then (if x14 < (x5.length : Int) then (if (rd x5 x14) = x0 then (kimberlitelaw04_PairGallai.j3 k x0 x5 x8 x12 x13 x14 true) else (if 0 ≤ (rd x5 x14) then (if (rd x5 x14) < (x8.length : Int) then (kimberlitelaw04_PairGallai.j3 k x0 x5 x8 x12 x13 x14 ((rd x8 (rd x5 x14)) != 2)) else (none)) else (none))) else (none)) else (kimberlitelaw04_PairGallai.j3 k x0 x5 x8 x12 x13 x14 false))) else (none)) else (none)) else ((kimberlitelaw04_alive.f k).bind fun t219 => (some t219))
def kimberlitelaw04_PairGallai.j3 : Nat → Int → List Int → List Int → List (List Bool) → List Bool → Int → Bool → Option (Bool)
  | 0, _, _, _, _, _, _, _ => none
  | k + 1, x0, x5, x8, x12, x13, x14, x122 => if x122 = true then (some false) else (if 0 ≤ x14 then (if x14 < (x8.length : Int) then (if (rd x8 x14) = 0 then (if x14 < (x13.length : Int) then (kimberlitelaw04_PairGallai.j4 k x0 x5 x8 x12 x13 x14 (rdOf false x13 x14)) else (none)) else (kimberlitelaw04_PairGallai.j4 k x0 x5 x8 x12 x13 x14 true)) else (none)) else (none))
def kimberlitelaw04_PairGallai.j4 : Nat → Int → List Int → List Int → List (List Bool) → List Bool → Int → Bool → Option (Bool)
  | 0, _, _, _, _, _, _, _ => none
  | k + 1, x0, x5, x8, x12, x13, x14, x133 => if x133 = true then (kimberlitelaw04_PairGallai.l0 k x0 x5 x8 x12 x13 (wrap64 (x14 + 1))) else (if 0 ≤ x0 then (if (x0 : Int).toNat ≤ 281474976710656 then ((some (List.replicate (x0 : Int).toNat false : List Bool)).bind fun y237 => (if 0 ≤ x14 then (if x14 < (y237.length : Int) then (kimberlitelaw04_PairGallai.l1 k x0 x5 x8 x12 x13 x14 (([x14] : List Int)) (y237.set (x14 : Int).toNat true) 0) else (none)) else (none))) else (none)) else (none))
def kimberlitelaw04_PairGallai.l1 : Nat → Int → List Int → List Int → List (List Bool) → List Bool → Int → List Int → List Bool → Int → Option (Bool)
  | 0, _, _, _, _, _, _, _, _, _ => none
  | k + 1, x0, x5, x8, x12, x13, x14, x15, x16, x17 => if x17 < (x15.length : Int) then (kimberlitelaw04_PairGallai.l2 k x0 x5 x8 x12 x13 x14 x15 x16 x17 0) else (kimberlitelaw04_PairGallai.l3 k x0 x5 x8 x12 x13 x14 x15 x16 0 0)
def kimberlitelaw04_PairGallai.l2 : Nat → Int → List Int → List Int → List (List Bool) → List Bool → Int → List Int → List Bool → Int → Int → Option (Bool)
  | 0, _, _, _, _, _, _, _, _, _, _ => none
  | k + 1, x0, x5, x8, x12, x13, x14, x15, x16, x17, x18 => if x18 < x0 then (if 0 ≤ x17 then (if x17 < (x15.length : Int) then (if 0 ≤ (rd x15 x17) then (if (rd x15 x17) < (x12.length : Int) then (if 0 ≤ x18 then (if x18 < ((rd_L5 x12 (rd x15 x17)).length : Int) then (if rdOf false (rd_L5 x12 (rd x15 x17)) x18 = true then (if x18 < (x8.length : Int) then (if (rd x8 x18) = 0 then (if x18 < (x16.length : Int) then (if rdOf false x16 x18 = true then (kimberlitelaw04_PairGallai.l2 k x0 x5 x8 x12 x13 x14 x15 x16 x17 (wrap64 (x18 + 1))) else (if x15.length < 17592186044416 then (kimberlitelaw04_PairGallai.l2 k x0 x5 x8 x12 x13 x14 (x15 ++ [x18]) (x16.set (x18 : Int).toNat true) x17 (wrap64 (x18 + 1))) else (none))) else (none)) else (kimberlitelaw04_PairGallai.l2 k x0 x5 x8 x12 x13 x14 x15 x16 x17 (wrap64 (x18 + 1)))) else (none)) else (kimberlitelaw04_PairGallai.l2 k x0 x5 x8 x12 x13 x14 x15 x16 x17 (wrap64 (x18 + 1)))) else (none)) else (none)) else (none)) else (none)) else (none)) else (none)) else (kimberlitelaw04_PairGallai.l1 k x0 x5 x8 x12 x13 x14 x15 x16 (wrap64 (x17 + 1)))
def kimberlitelaw04_PairGallai.l3 : Nat → Int → List Int → List Int → List (List Bool) → List Bool → Int → List Int → List Bool → Int → Int → Option (Bool)
  | 0, _, _, _, _, _, _, _, _, _, _ => none
  | k + 1, x0, x5, x8, x12, x13, x14, x15, x16, x19, x20 => if x20 < (x15.length : Int) then (if 0 ≤ x20 then (if 0 ≤ (rd x15 x20) then (if (rd x15 x20) < (x13.length : Int) then ((some (x13.set ((rd x15 x20) : Int).toNat true : List Bool)).bind fun y251 => (if (rd x15 x20) < (x5.length : Int) then (if (rd x5 (rd x15 x20)) = x0 then (kimberlitelaw04_PairGallai.l3 k x0 x5 x8 x12 y251 x14 x15 x16 (wrap64 (x19 + 1)) (wrap64 (x20 + 1))) else (if 0 ≤ (rd x5 (rd x15 x20)) then (if (rd x5 (rd x15 x20)) < (x16.length : Int) then (if (rdOf false x16 (rd x5 (rd x15 x20)) = true) then (kimberlitelaw04_PairGallai.l3 k x0 x5 x8 x12 y251 x14 x15 x16 x19 (wrap64 (x20 + 1))) else (kimberlitelaw04_PairGallai.l3 k x0 x5 x8 x12 y251 x14 x15 x16 (wrap64 (x19 + 1)) (wrap64 (x20 + 1)))) else (none)) else (none))) else (none))) else (none)) else (none)) else (none)) else (if x19 = 1 then (kimberlitelaw04_PairGallai.l0 k x0 x5 x8 x12 x13 (wrap64 (x14 + 1))) else (some false))
end
def kimberlitelaw04_PairGallai.f (k : Nat) (a0 : Int) (l1 : List (S41)) : Option (Bool) := (kimberlitelaw04_few.f l1 ([] : List Int)).bind fun t199 => (if t199 = true then ((pair_Match.f a0 l1).bind fun bt201 => ((pair_Parts.f a0 l1).bind fun bt206 => (if bt201.2.2 = 0 then (kimberlitelaw04_PairGallai.j0 k a0 l1 bt201.1 bt201.2.2 bt206.1 bt206.2 (bt206.2 != 0)) else (kimberlitelaw04_PairGallai.j0 k a0 l1 bt201.1 bt201.2.2 bt206.1 bt206.2 true)))) else ((kimberlitelaw04_alive.f k).bind fun t200 => (some t200)))
theorem kimberlitelaw04_PairGallai.mono_l : ∀ k, (∀ y0 y1 y2 y3 y4 y5 y6, LeO (kimberlitelaw04_PairGallai.j0 k y0 y1 y2 y3 y4 y5 y6) (kimberlitelaw04_PairGallai.j0 (k + 1) y0 y1 y2 y3 y4 y5 y6)) ∧ (∀ y0 y1 y2 y3 y4, LeO (kimberlitelaw04_PairGallai.j1 k y0 y1 y2 y3 y4) (kimberlitelaw04_PairGallai.j1 (k + 1) y0 y1 y2 y3 y4)) ∧ (∀ y0 y1 y2 y3 y4 y5, LeO (kimberlitelaw04_PairGallai.l0 k y0 y1 y2 y3 y4 y5) (kimberlitelaw04_PairGallai.l0 (k + 1) y0 y1 y2 y3 y4 y5)) ∧ (∀ y0 y1 y2 y3 y4 y5 y6, LeO (kimberlitelaw04_PairGallai.j3 k y0 y1 y2 y3 y4 y5 y6) (kimberlitelaw04_PairGallai.j3 (k + 1) y0 y1 y2 y3 y4 y5 y6)) ∧ (∀ y0 y1 y2 y3 y4 y5 y6, LeO (kimberlitelaw04_PairGallai.j4 k y0 y1 y2 y3 y4 y5 y6) (kimberlitelaw04_PairGallai.j4 (k + 1) y0 y1 y2 y3 y4 y5 y6)) ∧ (∀ y0 y1 y2 y3 y4 y5 y6 y7 y8, LeO (kimberlitelaw04_PairGallai.l1 k y0 y1 y2 y3 y4 y5 y6 y7 y8) (kimberlitelaw04_PairGallai.l1 (k + 1) y0 y1 y2 y3 y4 y5 y6 y7 y8)) ∧ (∀ y0 y1 y2 y3 y4 y5 y6 y7 y8 y9, LeO (kimberlitelaw04_PairGallai.l2 k y0 y1 y2 y3 y4 y5 y6 y7 y8 y9) (kimberlitelaw04_PairGallai.l2 (k + 1) y0 y1 y2 y3 y4 y5 y6 y7 y8 y9)) ∧ (∀ y0 y1 y2 y3 y4 y5 y6 y7 y8 y9, LeO (kimberlitelaw04_PairGallai.l3 k y0 y1 y2 y3 y4 y5 y6 y7 y8 y9) (kimberlitelaw04_PairGallai.l3 (k + 1) y0 y1 y2 y3 y4 y5 y6 y7 y8 y9))
  | 0 => ⟨fun _ _ _ _ _ _ _ r h => by simp [kimberlitelaw04_PairGallai.j0] at h, fun _ _ _ _ _ r h => by simp [kimberlitelaw04_PairGallai.j1] at h, fun _ _ _ _ _ _ r h => by simp [kimberlitelaw04_PairGallai.l0] at h, fun _ _ _ _ _ _ _ r h => by simp [kimberlitelaw04_PairGallai.j3] at h, fun _ _ _ _ _ _ _ r h => by simp [kimberlitelaw04_PairGallai.j4] at h, fun _ _ _ _ _ _ _ _ _ r h => by simp [kimberlitelaw04_PairGallai.l1] at h, fun _ _ _ _ _ _ _ _ _ _ r h => by simp [kimberlitelaw04_PairGallai.l2] at h, fun _ _ _ _ _ _ _ _ _ _ r h => by simp [kimberlitelaw04_PairGallai.l3] at h⟩
  | k + 1 => by
    obtain ⟨ih0, ih1, ih2, ih3, ih4, ih5, ih6, ih7⟩ := kimberlitelaw04_PairGallai.mono_l k
    refine ⟨?_, ?_, ?_, ?_, ?_, ?_, ?_, ?_⟩
    · intro y0 y1 y2 y3 y4 y5 y6
      unfold kimberlitelaw04_PairGallai.j0
      repeat' first
      | (with_reducible exact ih0 _ _ _ _ _ _ _)
      | (with_reducible exact ih1 _ _ _ _ _)
      | (with_reducible exact ih2 _ _ _ _ _ _)
      | (with_reducible exact ih3 _ _ _ _ _ _ _)
      | (with_reducible exact ih4 _ _ _ _ _ _ _)
      | (with_reducible exact ih5 _ _ _ _ _ _ _ _ _)
      | (with_reducible exact ih6 _ _ _ _ _ _ _ _ _ _)
      | (with_reducible exact ih7 _ _ _ _ _ _ _ _ _ _)
      | (with_reducible exact kimberlitelaw04_alive.mono _)
      | (with_reducible exact kimberliteref04_Near.mono _ _ _)
      | (with_reducible exact kimberliteref04_Pairs.mono _ _ _ _)
      | (with_reducible exact LeO.refl _)
      | (with_reducible exact LeO.none _)
      | (with_reducible refine LeO.ite ?_ ?_)
      | (with_reducible refine LeO.bind ?_ (fun _ => ?_))
      | exact ih0 _ _ _ _ _ _ _
      | exact ih1 _ _ _ _ _
      | exact ih2 _ _ _ _ _ _
      | exact ih3 _ _ _ _ _ _ _
      | exact ih4 _ _ _ _ _ _ _
      | exact ih5 _ _ _ _ _ _ _ _ _
      | exact ih6 _ _ _ _ _ _ _ _ _ _
      | exact ih7 _ _ _ _ _ _ _ _ _ _
      | exact kimberlitelaw04_alive.mono _
      | exact kimberliteref04_Near.mono _ _ _
      | exact kimberliteref04_Pairs.mono _ _ _ _
      | exact LeO.none _
      | refine LeO.ite ?_ ?_
      | refine LeO.bind ?_ (fun _ => ?_)
    · intro y0 y1 y2 y3 y4
      unfold kimberlitelaw04_PairGallai.j1
      repeat' first
      | (with_reducible exact ih0 _ _ _ _ _ _ _)
      | (with_reducible exact ih1 _ _ _ _ _)
      | (with_reducible exact ih2 _ _ _ _ _ _)
      | (with_reducible exact ih3 _ _ _ _ _ _ _)
      | (with_reducible exact ih4 _ _ _ _ _ _ _)
      | (with_reducible exact ih5 _ _ _ _ _ _ _ _ _)
      | (with_reducible exact ih6 _ _ _ _ _ _ _ _ _ _)
      | (with_reducible exact ih7 _ _ _ _ _ _ _ _ _ _)
      | (with_reducible exact kimberlitelaw04_alive.mono _)
      | (with_reducible exact kimberliteref04_Near.mono _ _ _)
      | (with_reducible exact kimberliteref04_Pairs.mono _ _ _ _)
      | (with_reducible exact LeO.refl _)
      | (with_reducible exact LeO.none _)
      | (with_reducible refine LeO.ite ?_ ?_)
      | (with_reducible refine LeO.bind ?_ (fun _ => ?_))
      | exact ih0 _ _ _ _ _ _ _
      | exact ih1 _ _ _ _ _
      | exact ih2 _ _ _ _ _ _
      | exact ih3 _ _ _ _ _ _ _
      | exact ih4 _ _ _ _ _ _ _
      | exact ih5 _ _ _ _ _ _ _ _ _
      | exact ih6 _ _ _ _ _ _ _ _ _ _
      | exact ih7 _ _ _ _ _ _ _ _ _ _
      | exact kimberlitelaw04_alive.mono _
      | exact kimberliteref04_Near.mono _ _ _
      | exact kimberliteref04_Pairs.mono _ _ _ _
      | exact LeO.none _
      | refine LeO.ite ?_ ?_
      | refine LeO.bind ?_ (fun _ => ?_)
    · intro y0 y1 y2 y3 y4 y5
      unfold kimberlitelaw04_PairGallai.l0
      repeat' first
      | (with_reducible exact ih0 _ _ _ _ _ _ _)
      | (with_reducible exact ih1 _ _ _ _ _)
      | (with_reducible exact ih2 _ _ _ _ _ _)
      | (with_reducible exact ih3 _ _ _ _ _ _ _)
      | (with_reducible exact ih4 _ _ _ _ _ _ _)
      | (with_reducible exact ih5 _ _ _ _ _ _ _ _ _)
      | (with_reducible exact ih6 _ _ _ _ _ _ _ _ _ _)
      | (with_reducible exact ih7 _ _ _ _ _ _ _ _ _ _)
      | (with_reducible exact kimberlitelaw04_alive.mono _)
      | (with_reducible exact kimberliteref04_Near.mono _ _ _)
      | (with_reducible exact kimberliteref04_Pairs.mono _ _ _ _)
      | (with_reducible exact LeO.refl _)
      | (with_reducible exact LeO.none _)
      | (with_reducible refine LeO.ite ?_ ?_)
      | (with_reducible refine LeO.bind ?_ (fun _ => ?_))
      | exact ih0 _ _ _ _ _ _ _
      | exact ih1 _ _ _ _ _
      | exact ih2 _ _ _ _ _ _
      | exact ih3 _ _ _ _ _ _ _
      | exact ih4 _ _ _ _ _ _ _
      | exact ih5 _ _ _ _ _ _ _ _ _
      | exact ih6 _ _ _ _ _ _ _ _ _ _
      | exact ih7 _ _ _ _ _ _ _ _ _ _
      | exact kimberlitelaw04_alive.mono _
      | exact kimberliteref04_Near.mono _ _ _
      | exact kimberliteref04_Pairs.mono _ _ _ _
      | exact LeO.none _
      | refine LeO.ite ?_ ?_
      | refine LeO.bind ?_ (fun _ => ?_)
    · intro y0 y1 y2 y3 y4 y5 y6
      unfold kimberlitelaw04_PairGallai.j3
      repeat' first
      | (with_reducible exact ih0 _ _ _ _ _ _ _)
      | (with_reducible exact ih1 _ _ _ _ _)
      | (with_reducible exact ih2 _ _ _ _ _ _)
      | (with_reducible exact ih3 _ _ _ _ _ _ _)
      | (with_reducible exact ih4 _ _ _ _ _ _ _)
      | (with_reducible exact ih5 _ _ _ _ _ _ _ _ _)
      | (with_reducible exact ih6 _ _ _ _ _ _ _ _ _ _)
      | (with_reducible exact ih7 _ _ _ _ _ _ _ _ _ _)
      | (with_reducible exact kimberlitelaw04_alive.mono _)
      | (with_reducible exact kimberliteref04_Near.mono _ _ _)
      | (with_reducible exact kimberliteref04_Pairs.mono _ _ _ _)
      | (with_reducible exact LeO.refl _)
      | (with_reducible exact LeO.none _)
      | (with_reducible refine LeO.ite ?_ ?_)
      | (with_reducible refine LeO.bind ?_ (fun _ => ?_))
      | exact ih0 _ _ _ _ _ _ _
      | exact ih1 _ _ _ _ _
      | exact ih2 _ _ _ _ _ _
      | exact ih3 _ _ _ _ _ _ _
      | exact ih4 _ _ _ _ _ _ _
      | exact ih5 _ _ _ _ _ _ _ _ _
      | exact ih6 _ _ _ _ _ _ _ _ _ _
      | exact ih7 _ _ _ _ _ _ _ _ _ _
      | exact kimberlitelaw04_alive.mono _
      | exact kimberliteref04_Near.mono _ _ _
      | exact kimberliteref04_Pairs.mono _ _ _ _
      | exact LeO.none _
      | refine LeO.ite ?_ ?_
      | refine LeO.bind ?_ (fun _ => ?_)
    · intro y0 y1 y2 y3 y4 y5 y6
      unfold kimberlitelaw04_PairGallai.j4
      repeat' first
      | (with_reducible exact ih0 _ _ _ _ _ _ _)
      | (with_reducible exact ih1 _ _ _ _ _)
      | (with_reducible exact ih2 _ _ _ _ _ _)
      | (with_reducible exact ih3 _ _ _ _ _ _ _)
      | (with_reducible exact ih4 _ _ _ _ _ _ _)
      | (with_reducible exact ih5 _ _ _ _ _ _ _ _ _)
      | (with_reducible exact ih6 _ _ _ _ _ _ _ _ _ _)
      | (with_reducible exact ih7 _ _ _ _ _ _ _ _ _ _)
      | (with_reducible exact kimberlitelaw04_alive.mono _)
      | (with_reducible exact kimberliteref04_Near.mono _ _ _)
      | (with_reducible exact kimberliteref04_Pairs.mono _ _ _ _)
      | (with_reducible exact LeO.refl _)
      | (with_reducible exact LeO.none _)
      | (with_reducible refine LeO.ite ?_ ?_)
      | (with_reducible refine LeO.bind ?_ (fun _ => ?_))
      | exact ih0 _ _ _ _ _ _ _
      | exact ih1 _ _ _ _ _
      | exact ih2 _ _ _ _ _ _
      | exact ih3 _ _ _ _ _ _ _
      | exact ih4 _ _ _ _ _ _ _
      | exact ih5 _ _ _ _ _ _ _ _ _
      | exact ih6 _ _ _ _ _ _ _ _ _ _
      | exact ih7 _ _ _ _ _ _ _ _ _ _
      | exact kimberlitelaw04_alive.mono _
      | exact kimberliteref04_Near.mono _ _ _
      | exact kimberliteref04_Pairs.mono _ _ _ _
      | exact LeO.none _
      | refine LeO.ite ?_ ?_
      | refine LeO.bind ?_ (fun _ => ?_)
    · intro y0 y1 y2 y3 y4 y5 y6 y7 y8
      unfold kimberlitelaw04_PairGallai.l1
      repeat' first
      | (with_reducible exact ih0 _ _ _ _ _ _ _)
      | (with_reducible exact ih1 _ _ _ _ _)
      | (with_reducible exact ih2 _ _ _ _ _ _)
      | (with_reducible exact ih3 _ _ _ _ _ _ _)
      | (with_reducible exact ih4 _ _ _ _ _ _ _)
      | (with_reducible exact ih5 _ _ _ _ _ _ _ _ _)
      | (with_reducible exact ih6 _ _ _ _ _ _ _ _ _ _)
      | (with_reducible exact ih7 _ _ _ _ _ _ _ _ _ _)
      | (with_reducible exact kimberlitelaw04_alive.mono _)
      | (with_reducible exact kimberliteref04_Near.mono _ _ _)
      | (with_reducible exact kimberliteref04_Pairs.mono _ _ _ _)
      | (with_reducible exact LeO.refl _)
      | (with_reducible exact LeO.none _)
      | (with_reducible refine LeO.ite ?_ ?_)
      | (with_reducible refine LeO.bind ?_ (fun _ => ?_))
      | exact ih0 _ _ _ _ _ _ _
      | exact ih1 _ _ _ _ _
      | exact ih2 _ _ _ _ _ _
      | exact ih3 _ _ _ _ _ _ _
      | exact ih4 _ _ _ _ _ _ _
      | exact ih5 _ _ _ _ _ _ _ _ _
      | exact ih6 _ _ _ _ _ _ _ _ _ _
      | exact ih7 _ _ _ _ _ _ _ _ _ _
      | exact kimberlitelaw04_alive.mono _
      | exact kimberliteref04_Near.mono _ _ _
      | exact kimberliteref04_Pairs.mono _ _ _ _
      | exact LeO.none _
      | refine LeO.ite ?_ ?_
      | refine LeO.bind ?_ (fun _ => ?_)
    · intro y0 y1 y2 y3 y4 y5 y6 y7 y8 y9
      unfold kimberlitelaw04_PairGallai.l2
      repeat' first
      | (with_reducible exact ih0 _ _ _ _ _ _ _)
      | (with_reducible exact ih1 _ _ _ _ _)
      | (with_reducible exact ih2 _ _ _ _ _ _)
      | (with_reducible exact ih3 _ _ _ _ _ _ _)
      | (with_reducible exact ih4 _ _ _ _ _ _ _)
      | (with_reducible exact ih5 _ _ _ _ _ _ _ _ _)
      | (with_reducible exact ih6 _ _ _ _ _ _ _ _ _ _)
      | (with_reducible exact ih7 _ _ _ _ _ _ _ _ _ _)
      | (with_reducible exact kimberlitelaw04_alive.mono _)
      | (with_reducible exact kimberliteref04_Near.mono _ _ _)
      | (with_reducible exact kimberliteref04_Pairs.mono _ _ _ _)
      | (with_reducible exact LeO.refl _)
      | (with_reducible exact LeO.none _)
      | (with_reducible refine LeO.ite ?_ ?_)
      | (with_reducible refine LeO.bind ?_ (fun _ => ?_))
      | exact ih0 _ _ _ _ _ _ _
      | exact ih1 _ _ _ _ _
      | exact ih2 _ _ _ _ _ _
      | exact ih3 _ _ _ _ _ _ _
      | exact ih4 _ _ _ _ _ _ _
      | exact ih5 _ _ _ _ _ _ _ _ _
      | exact ih6 _ _ _ _ _ _ _ _ _ _
      | exact ih7 _ _ _ _ _ _ _ _ _ _
      | exact kimberlitelaw04_alive.mono _
      | exact kimberliteref04_Near.mono _ _ _
      | exact kimberliteref04_Pairs.mono _ _ _ _
      | exact LeO.none _
      | refine LeO.ite ?_ ?_
      | refine LeO.bind ?_ (fun _ => ?_)
    · intro y0 y1 y2 y3 y4 y5 y6 y7 y8 y9
      unfold kimberlitelaw04_PairGallai.l3
      repeat' first
      | (with_reducible exact ih0 _ _ _ _ _ _ _)
      | (with_reducible exact ih1 _ _ _ _ _)
      | (with_reducible exact ih2 _ _ _ _ _ _)
      | (with_reducible exact ih3 _ _ _ _ _ _ _)
      | (with_reducible exact ih4 _ _ _ _ _ _ _)
      | (with_reducible exact ih5 _ _ _ _ _ _ _ _ _)
      | (with_reducible exact ih6 _ _ _ _ _ _ _ _ _ _)
      | (with_reducible exact ih7 _ _ _ _ _ _ _ _ _ _)
      | (with_reducible exact kimberlitelaw04_alive.mono _)
      | (with_reducible exact kimberliteref04_Near.mono _ _ _)
      | (with_reducible exact kimberliteref04_Pairs.mono _ _ _ _)
      | (with_reducible exact LeO.refl _)
      | (with_reducible exact LeO.none _)
      | (with_reducible refine LeO.ite ?_ ?_)
      | (with_reducible refine LeO.bind ?_ (fun _ => ?_))
      | exact ih0 _ _ _ _ _ _ _
      | exact ih1 _ _ _ _ _
      | exact ih2 _ _ _ _ _ _
      | exact ih3 _ _ _ _ _ _ _
      | exact ih4 _ _ _ _ _ _ _
      | exact ih5 _ _ _ _ _ _ _ _ _
      | exact ih6 _ _ _ _ _ _ _ _ _ _
      | exact ih7 _ _ _ _ _ _ _ _ _ _
      | exact kimberlitelaw04_alive.mono _
      | exact kimberliteref04_Near.mono _ _ _
      | exact kimberliteref04_Pairs.mono _ _ _ _
      | exact LeO.none _
      | refine LeO.ite ?_ ?_
      | refine LeO.bind ?_ (fun _ => ?_)
theorem kimberlitelaw04_PairGallai.mono : ∀ a0 a1 k, LeO (kimberlitelaw04_PairGallai.f k a0 a1) (kimberlitelaw04_PairGallai.f (k + 1) a0 a1) := by
  intro a0 a1 k
  obtain ⟨ih0, ih1, ih2, ih3, ih4, ih5, ih6, ih7⟩ := kimberlitelaw04_PairGallai.mono_l k
  unfold kimberlitelaw04_PairGallai.f
  repeat' first
      | (with_reducible exact ih0 _ _ _ _ _ _ _)
      | (with_reducible exact ih1 _ _ _ _ _)
      | (with_reducible exact ih2 _ _ _ _ _ _)
      | (with_reducible exact ih3 _ _ _ _ _ _ _)
      | (with_reducible exact ih4 _ _ _ _ _ _ _)
      | (with_reducible exact ih5 _ _ _ _ _ _ _ _ _)
      | (with_reducible exact ih6 _ _ _ _ _ _ _ _ _ _)
      | (with_reducible exact ih7 _ _ _ _ _ _ _ _ _ _)
      | (with_reducible exact kimberlitelaw04_alive.mono _)
      | (with_reducible exact kimberliteref04_Near.mono _ _ _)
      | (with_reducible exact kimberliteref04_Pairs.mono _ _ _ _)
      | (with_reducible exact LeO.refl _)
      | (with_reducible exact LeO.none _)
      | (with_reducible refine LeO.ite ?_ ?_)
      | (with_reducible refine LeO.bind ?_ (fun _ => ?_))
      | exact ih0 _ _ _ _ _ _ _
      | exact ih1 _ _ _ _ _
      | exact ih2 _ _ _ _ _ _
      | exact ih3 _ _ _ _ _ _ _
      | exact ih4 _ _ _ _ _ _ _
      | exact ih5 _ _ _ _ _ _ _ _ _
      | exact ih6 _ _ _ _ _ _ _ _ _ _
      | exact ih7 _ _ _ _ _ _ _ _ _ _
      | exact kimberlitelaw04_alive.mono _
      | exact kimberliteref04_Near.mono _ _ _
      | exact kimberliteref04_Pairs.mono _ _ _ _
      | exact LeO.none _
      | refine LeO.ite ?_ ?_
      | refine LeO.bind ?_ (fun _ => ?_)

end Go.Proofs.Ythhgdndjnflklaa.PP
