/- slices.Sort and slices.Compact on a slice of the call's own. No conditions. -/
import Derived.Test.YtnbdfmdjedakcaaH36
import Derived.Test.YtnbdfmdjedakcaaLayI
import Derived.Lib.OwnBridge
namespace Go.Proofs.Ytnbdfmdjedakcaa
open Go.RowKit Go.Proofs.YtnbdfmdjedakcaaW.PrintWords Go.Proofs.YtnbdfmdjedakcaaW.PrintLast Go.Proofs.YtnbdfmdjedakcaaW.PrintMore PP
set_option linter.unusedVariables false
set_option linter.unusedSimpArgs false
def srtI (zs : List Int) : List Int := zs.mergeSort fun x y => decide (x ≤ y)
theorem srtI_len (zs : List Int) : (srtI zs).length = zs.length := List.length_mergeSort zs
theorem bel_grow {B : Nat} {a w : World} (h : Below B a w) (hB : B ≤ w.heap.size) (os : Array Obj) : Below B a (Go.Sort.grow w os) :=
  ⟨h.os, h.tape, h.output, by rw [show (Go.Sort.grow w os).heap = w.heap ++ os from rfl, Array.size_append]; have := h.size; omega, fun k hk => by
    rw [← h.block k hk, show (Go.Sort.grow w os).heap = w.heap ++ os from rfl, Array.getElem?_append_left (by omega)]⟩
theorem own_grow {w : World} {base e : Nat} {v : Value} {n : Nat} {xs : List Value} (h : w.ownsRow base e 1 v n xs) (os : Array Obj) : (Go.Sort.grow w os).ownsRow base e 1 v n xs := by
  refine ⟨h.1, h.2.imp id ?_⟩
  rintro ⟨g, cap, cur, e0, hb, hg, r⟩
  refine ⟨g, cap, cur, e0, hb, ?_, r⟩
  have hlt := (Array.getElem?_eq_some_iff.1 hg).1
  rw [show (Go.Sort.grow w os).heap = w.heap ++ os from rfl, Array.getElem?_append_left hlt]
  exact hg
theorem encs_map (zs : List Int) : encs (Value.int .i64) zs = zs.map (Value.int .i64) := by
  simp [encs]
theorem sort_own {w : World} {base : Nat} {ok : Nat → Prop} {v : Value} {zs : List Int} (h : Kd.R qI 3 w base ok v zs) (hb : base ≤ w.heap.size) (hz : zs.length ≤ 1000000) :
    Calls Try.prog 94 #[v] w fun e w' => e = .returned (.tuple #[]) ∧ Kd.R qI 3 w' base ok v (srtI zs) ∧ (∀ w0, Below base w0 w → Below base w0 w') ∧ base ≤ w'.heap.size := by
  obtain ⟨A, c, rfl⟩ := Kd.R_slice h
  by_cases h0 : zs.length = 0
  · have e0 : zs = [] := List.length_eq_zero_iff.1 h0
    subst e0
    have e1 : srtI [] = [] := List.length_eq_zero_iff.1 (by rw [srtI_len]; rfl)
    refine (Any.slices_Sort_int_none Try.sortI A c w).mono ?_
    rintro e w' ⟨rfl, rfl⟩
    exact ⟨rfl, by rw [e1]; exact h, fun _ hh => hh, hb⟩
  · have ho := Kd.own_of_R h
    rw [encs_map] at ho
    obtain ⟨g, cap, e2, hbg, hlt, hnc, _, _, hH⟩ := Go.Lib.holds_of_ownsRow ho (fun hh => by injection hh with _ h2 _; exact h0 h2)
    injection e2 with e3 _ e4
    subst e3; subst e4
    refine (Any.slices_Sort_int Try.sortI g 0 c zs w hH hlt (by omega)).mono ?_
    rintro e w' ⟨rfl, n, os, rfl⟩
    have ho2 := Go.Lib.ownsRow_putRow (q := n) (k := zs.length) (ys := srtI zs) ho (srtI_len zs) (Nat.le_refl _)
    rw [← srtI_len zs, List.take_length, srtI_len] at ho2
    have hb2 : ∀ w0, Below base w0 w → Below base w0 (Go.Sort.putRow (Value.int .i64) (Sort.ahead w n) g 0 (srtI zs).toArray) := fun w0 hh => Go.Lib.below_putRow hh hbg
    have hs : base ≤ (Go.Sort.putRow (Value.int .i64) (Sort.ahead w n) g 0 (srtI zs).toArray).heap.size := Nat.le_trans hb (hb2 w (Below.refl _ _)).size
    refine ⟨rfl, Kd.R_of_own (enc := Value.int .i64) (by rw [encs_map, srtI_len]; exact own_grow ho2 os) (fun k hk => h.1 k hk), fun w0 hh => bel_grow (hb2 w0 hh) hs os, ?_⟩
    exact Nat.le_trans hs (bel_grow (Below.refl base _) hs os).size
theorem comp_own {w : World} {base : Nat} {ok : Nat → Prop} {v : Value} {zs : List Int} (h : Kd.R qI 3 w base ok v zs) (hb : base ≤ w.heap.size) (hz : zs.length ≤ 1000000) :
    Calls Try.prog 95 #[v] w fun e w' => ∃ v', e = .returned v' ∧ Kd.R qI 3 w' base ok v' (Go.Lib.compact zs) ∧ (∀ w0, Below base w0 w → Below base w0 w') ∧ base ≤ w'.heap.size := by
  obtain ⟨A, c, rfl⟩ := Kd.R_slice h
  by_cases h0 : zs.length = 0
  · have e0 : zs = [] := List.length_eq_zero_iff.1 h0
    subst e0
    refine (Any.slices_Compact_int_empty Try.compI A c w).mono ?_
    rintro e w' ⟨rfl, rfl⟩
    exact ⟨_, rfl, h, fun _ hh => hh, hb⟩
  · have ho := Kd.own_of_R h
    rw [encs_map] at ho
    obtain ⟨g, cap, e2, hbg, hlt, hnc, _, _, hH⟩ := Go.Lib.holds_of_ownsRow ho (fun hh => by injection hh with _ h2 _; exact h0 h2)
    injection e2 with e3 _ e4
    subst e3; subst e4
    have hle := Go.Lib.compact_length_le zs
    refine (Any.slices_Compact_int Try.compI g 0 c zs w hH (by omega) hnc).mono ?_
    rintro e w' ⟨rfl, q, rfl⟩
    have ho2 := Go.Lib.ownsRow_putRow (q := q) (k := (Go.Lib.compact zs).length) (ys := Go.Lib.compact zs ++ List.replicate (zs.length - (Go.Lib.compact zs).length) 0) ho (by simp; omega) hle
    rw [List.take_left] at ho2
    have hb2 : ∀ w0, Below base w0 w → Below base w0 (Go.Sort.putRow (Value.int .i64) (Sort.ahead w q) g 0 (Go.Lib.compact zs ++ List.replicate (zs.length - (Go.Lib.compact zs).length) 0).toArray) := fun w0 hh => Go.Lib.below_putRow hh hbg
    refine ⟨_, rfl, Kd.R_of_own (enc := Value.int .i64) (by rw [encs_map]; exact ho2) (fun k hk => h.1 k hk), hb2, Nat.le_trans hb (hb2 w (Below.refl _ _)).size⟩
