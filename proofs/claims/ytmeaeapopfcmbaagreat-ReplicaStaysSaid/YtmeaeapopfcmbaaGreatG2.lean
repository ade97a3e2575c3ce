/- Several texts in one: B4 B5 B6 B7 B8 B9 B10. No conditions. -/
import Derived.Test.YtmeaeapopfcmbaaGreatG1
import Derived.Test.YtmeaeapopfcmbaaGreatQ98
import Derived.Test.YtmeaeapopfcmbaaGreatQ122
import Derived.Test.YtmeaeapopfcmbaaGreatQ107
import Derived.Test.YtmeaeapopfcmbaaGreatQ111
import Derived.Laws.Externs
import Derived.MapKept
import Derived.Test.YtmeaeapopfcmbaaGreatQ105
import Derived.Laws.IdiomStrings
import Derived.Shelf.Abstract
import Derived.StillTailTactics
import Derived.Deep.DeepCutAuto
import Derived.BigQuiet
namespace Go.Proofs.YtmeaeapopfcmbaaGreat
open Go.RowKit Go.Proofs.YtmeaeapopfcmbaaGreatW.PrintWords Go.Proofs.YtmeaeapopfcmbaaGreatW.PrintLast Go.Proofs.YtmeaeapopfcmbaaGreatW.PrintMore PP
set_option linter.unusedVariables false
set_option linter.unusedSimpArgs false
set_option maxHeartbeats 2000000
set_option maxRecDepth 100000
theorem compare_f (a b : Int) : cmp_Compare_int.f a b = some (cmpI a b) := by
  unfold cmp_Compare_int.f cmp_isNaN_int.f cmpI
  simp
  split <;> (try split) <;> rfl
theorem or_f2 (a b : Int) : cmp_Or_int.f 9 [a, b] = some (or2 a b) := by
  simp [cmp_Or_int.f, cmp_Or_int.l0, rd, wrap64, or2]
  split <;> (try split) <;> simp_all
theorem or_f3 (a b c : Int) : cmp_Or_int.f 9 [a, b, c] = some (or2 a (or2 b c)) := by
  simp [cmp_Or_int.f, cmp_Or_int.l0, rd, wrap64, or2]
  split <;> (try split) <;> (try split) <;> simp_all
theorem or_f4 (a b c d : Int) : cmp_Or_int.f 9 [a, b, c, d] = some (or2 a (or2 b (or2 c d))) := by
  simp [cmp_Or_int.f, cmp_Or_int.l0, rd, wrap64, or2]
  split <;> (try split) <;> (try split) <;> (try split) <;> simp_all
theorem compareTags_run (x y : S99) (w : World) : Calls Tryz.prog 98 #[vT x, vT y] w fun e w' => e = .returned (.int .i64 (cmpT x y)) ∧ Below w.heap.size w w' :=
  replica_compareTags.calls 9 _ _ _ _ _ _ _ _ _ w (by
    unfold replica_compareTags.f strings_Compare.f
    simp only [compare_f, Option.bind_some, or_f4]
    rfl)
theorem compareNotes_run (x y : S102) (w : World) : Calls Tryz.prog 122 #[vN x, vN y] w fun e w' => e = .returned (.int .i64 (cmpN x y)) ∧ Below w.heap.size w w' :=
  replica_compareNotes.calls 9 _ _ _ _ _ _ _ _ _ w (by
    unfold replica_compareNotes.f strings_Compare.f
    simp only [compare_f, Option.bind_some, or_f3]
    rfl)
def vR (x : S108) : Value := .agg #[.int .i64 x.f0, .int .i64 x.f1, .int .i64 x.f2, .int .i64 x.f3]
def vU (x : S111) : Value := .agg #[.int .i64 x.f0, .int .i64 x.f1, .int .i64 x.f2]
theorem compareRights_run (x y : S108) (w : World) : Calls Tryz.prog 107 #[vR x, vR y] w fun e w' => e = .returned (.int .i64 (cmpR x y)) ∧ Below w.heap.size w w' :=
  replica_compareRights.calls 9 _ _ _ _ _ _ _ _ _ w (by
    unfold replica_compareRights.f
    simp only [compare_f, Option.bind_some, or_f3]
    rfl)
theorem compareUsed_run (x y : S111) (w : World) : Calls Tryz.prog 111 #[vU x, vU y] w fun e w' => e = .returned (.int .i64 (cmpU x y)) ∧ Below w.heap.size w w' :=
  replica_compareUsed.calls 9 _ _ _ _ _ _ _ w (by
    unfold replica_compareUsed.f
    simp only [compare_f, Option.bind_some, or_f2]
    rfl)
theorem compareInt_run (x y : Int) (w : World) : Calls Tryz.prog 102 #[.int .i64 x, .int .i64 y] w fun e w' => e = .returned (.int .i64 (cmpI x y)) ∧ Below w.heap.size w w' :=
  (cmp_Compare_int.calls x y _ w (compare_f x y)).mono fun e w' h => ⟨h.1, h.2.below⟩
end Go.Proofs.YtmeaeapopfcmbaaGreat

namespace Go.Proofs.YtmeaeapopfcmbaaGreat
open Go.RowKit Go.Proofs.YtmeaeapopfcmbaaGreatW.PrintWords Go.Proofs.YtmeaeapopfcmbaaGreatW.PrintLast Go.Proofs.YtmeaeapopfcmbaaGreatW.PrintMore PP
set_option linter.unusedVariables false
set_option linter.unusedSimpArgs false
set_option maxHeartbeats 4000000
section
variable {w : World} {k mt mn mw : Nat} {s : List Int} {T : List (S97 × S99)} {N : List (Int × S102)} {Y : List (S131 × Int)}
theorem KnowAt.cell (h : KnowAt w k mt mn mw s T N Y) (i : Nat) {v : Value} (hv : (knowCells s mt mn mw)[i]? = some v) : w.cell? ⟨k, i, none⟩ = some v := cell_of h.blk i hv
theorem KnowAt.s8 (h : KnowAt w k mt mn mw s T N Y) : ∃ a0 a1 a2 a3 a4 a5 a6 a7 : Int, s = [a0, a1, a2, a3, a4, a5, a6, a7] := by
  have hl := h.len
  match s, hl with
  | [a0, a1, a2, a3, a4, a5, a6, a7], _ => exact ⟨_, _, _, _, _, _, _, _, rfl⟩
theorem KnowAt.seen (h : KnowAt w k mt mn mw s T N Y) (i : Nat) (hi : i < 8) : w.cell? ⟨k, i, none⟩ = some (.int .i64 (s.getD i 0)) := by
  refine h.cell i ?_
  obtain ⟨a0, a1, a2, a3, a4, a5, a6, a7, rfl⟩ := h.s8
  match i, hi with
  | 0, _ | 1, _ | 2, _ | 3, _ | 4, _ | 5, _ | 6, _ | 7, _ => rfl
theorem KnowAt.ct (h : KnowAt w k mt mn mw s T N Y) : w.cell? ⟨k, 8, none⟩ = some (.map (some mt)) := by
  refine h.cell 8 ?_
  obtain ⟨a0, a1, a2, a3, a4, a5, a6, a7, rfl⟩ := h.s8
  rfl
theorem KnowAt.cn (h : KnowAt w k mt mn mw s T N Y) : w.cell? ⟨k, 9, none⟩ = some (.map (some mn)) := by
  refine h.cell 9 ?_
  obtain ⟨a0, a1, a2, a3, a4, a5, a6, a7, rfl⟩ := h.s8
  rfl
theorem KnowAt.cnf (h : KnowAt w k mt mn mw s T N Y) : w.cell? ⟨k, 10, none⟩ = some (.func (.func 122) #[] #[]) := by
  refine h.cell 10 ?_
  obtain ⟨a0, a1, a2, a3, a4, a5, a6, a7, rfl⟩ := h.s8
  rfl
theorem KnowAt.cw (h : KnowAt w k mt mn mw s T N Y) : w.cell? ⟨k, 11, none⟩ = some (.map (some mw)) := by
  refine h.cell 11 ?_
  obtain ⟨a0, a1, a2, a3, a4, a5, a6, a7, rfl⟩ := h.s8
  rfl
theorem KnowAt.cwf (h : KnowAt w k mt mn mw s T N Y) : w.cell? ⟨k, 12, none⟩ = some (.func (.func 102) #[] #[]) := by
  refine h.cell 12 ?_
  obtain ⟨a0, a1, a2, a3, a4, a5, a6, a7, rfl⟩ := h.s8
  rfl
end
theorem w64 {x : Int} (h0 : -9223372036854775808 ≤ x) (h1 : x ≤ 9223372036854775807) : wrap64 x = x := by unfold wrap64; omega
theorem sub_len {α : Type} [DecidableEq α] : ∀ {l m : List α}, l.Nodup → (∀ x ∈ l, x ∈ m) → l.length ≤ m.length
  | [], m, _, _ => by simp
  | x :: l, m, hn, h => by
    have hn2 := List.nodup_cons.1 hn
    have h1 := sub_len (l := l) (m := m.erase x) hn2.2 fun y hy => (List.mem_erase_of_ne (fun e => hn2.1 (by rw [← e]; exact hy))).2 (h y (by simp [hy]))
    have h2 := List.length_erase_of_mem (h x (by simp))
    have h3 : 0 < m.length := List.length_pos_of_mem (h x (by simp))
    simp
    omega
/-- What the pairs of a part add up to, is small. -/
theorem part_bound {f : S131 × Int → Int} {outs Y : List (S131 × Int)} (hY : Y.length ≤ 576) (hn : outs.Nodup) (hs : ∀ p ∈ outs, p ∈ Y) (hf : ∀ p ∈ Y, -MC ≤ f p ∧ f p ≤ MC) : -(576 * MC) ≤ sumF f outs ∧ sumF f outs ≤ 576 * MC := by
  have h1 := sumF_bound (f := f) (M := MC) (by decide) (l := outs) fun p hp => hf p (hs p hp)
  have h2 := sub_len hn hs
  simp only [MC] at *
  omega
theorem free_run (w : World) (k mt mn mw : Nat) (s : List Int) (T : List (S97 × S99)) (N : List (Int × S102)) (Y : List (S131 × Int)) (h : KnowAt w k mt mn mw s T N Y) (hY : ∀ p ∈ Y, wayB p = true) (st o : Int) :
    Calls Tryz.prog 67 #[.pointer (some ⟨k, 0, none⟩), .int .i64 st, .int .i64 o] w fun e w' => e = .returned (.int .i64 (freeY Y st o)) ∧ Below w.heap.size w w' := by
  have c1 := h.cw
  have HY := Hd.mk h.y
  have hl := ways_len hY h.y.nodup
  have BD := Hd.mk (fun (outs : List (S131 × Int)) (hn : outs.Nodup) (hs : ∀ p ∈ outs, p ∈ Y) => part_bound (f := conF st o) hl hn hs (fun p hp => conF_bound (hY p hp) st o))
  have LT := Hd.mk h.y.lt
  clear h hl hY
  go_enter Tryz.func67, Tryz.ntmps67
  go_wp2_with (at_range; refine wpL_range w CW rfl _ rfl mw Y rfl HY.out ?_; intro w1 hr hg hs; have RG := Hd.mk hr; have BW := Hd.mk (show Below w.heap.size w w1 from (Below.refl _ _).grown hg (Nat.le_refl _) (by simp)); clear hr hg hs)
  go_frame
  go_loopg [7] Y.length (fun gg v7 wq => ∃ (outs : List (S131 × Int)) (cn : Nat), cn ≤ gg ∧ Hd (Rng CW wq mw w.heap.size Y outs cn) ∧ Hd (Below w.heap.size w wq) ∧ v7 = .int .i64 (sumF (conF st o) outs))
  case atStart => exact ⟨[], Y.length, Nat.le_refl _, RG, BW, rfl⟩
  case round =>
    clear RG BW
    obtain ⟨outs, cn, hg, RG, BQ, rfl⟩ := hrel
    go_wp2_with (at_next; refine wpL_next _ CW rfl _ rfl mw w.heap.size Y outs cn rfl RG.out ?gd ?gm)
    case gd =>
      intro hd
      have e := sumF_perm (conF st o) hd
      rw [e]
      go_wp2_with fail
      go_ret
      exact ⟨rfl, BQ.out⟩
    case gm =>
      intro x y w2 c5 hp hno hr2 hlt hg2 hs2 hen
      obtain ⟨x0, x1, x2⟩ := x
      change (Instr.entry _).run _ _ = .ok (.tuple #[.agg #[.int .i64 x0, .int .i64 x1, .int .i64 x2], .int .i64 y]) w2 at hen
      have R2 := Hd.mk hr2
      have B2 := Hd.mk (show Below w.heap.size w w2 from BQ.out.grown hg2 BQ.out.size (by simp))
      have b1 := BD.out outs RG.out.nodup RG.out.sub
      have b2 := BD.out _ hr2.nodup hr2.sub
      have e2 : sumF (conF st o) (outs ++ [((⟨x0, x1, x2⟩ : S131), y)]) = sumF (conF st o) outs + conF st o (⟨x0, x1, x2⟩, y) := by rw [sumF_app]; simp [sumF]
      rw [e2] at b2
      have C2 : conF st o (⟨x0, x1, x2⟩, y) = if x0 = st then (if x2 = o then y else 0) - (if x1 = o ∧ x2 ≠ o then y else 0) else 0 := rfl
      rw [C2] at b2 e2
      have E2 := Hd.mk e2
      clear hr2 hg2 hs2 hp hno e2 C2
      have NX := Hd.mk (show Below w.heap.size w (w2.alloc (.cells #[.int .i64 x0, .int .i64 x1, .int .i64 x2] 131)) from below_alloc B2.out _)
      have R3 := Hd.mk (R2.out.kept (World.grownBy_alloc w2 (.cells #[.int .i64 x0, .int .i64 x1, .int .i64 x2] 131) none) (by simp) (by simp))
      generalize hn0 : sumF (conF st o) outs = n at *
      generalize hn1 : sumF (conF st o) (outs ++ [((⟨x0, x1, x2⟩ : S131), y)]) = n' at *
      clear hn0
      by_cases q0 : x0 = st
      · subst q0
        rw [if_pos rfl] at b2
        have E2 := Hd.mk (show n' = n + ((if x2 = o then y else 0) - (if x1 = o ∧ x2 ≠ o then y else 0)) by rw [E2.out, if_pos rfl])
        have f1 : (x0 == x0) = true := by simp
        have f2 : (x0 != x0) = false := by simp
        by_cases q2 : x2 = o
        · subst q2
          have g1 : (x2 == x2) = true := by simp
          have g2 : (x2 != x2) = false := by simp
          simp only [ne_eq, not_true_eq_false, and_false, if_false, if_true, Int.sub_zero] at b2 E2
          have e3 := E2.out
          have hw : wrap64 (n + y) = n + y := by simp only [MC] at b1 b2; exact w64 (by omega) (by omega)
          by_cases q1 : x1 = x2
          · have h1 : (x1 == x2) = true := by simp [q1]
            clear q1
            go_wp2_with fail
            go_roundg c5
            case measure => omega
            case rel => exact ⟨_, c5, Nat.le_refl _, R3, NX, by rw [hn1, e3]⟩
          · have h1 : (x1 == x2) = false := by simp [q1]
            go_wp2_with fail
            go_roundg c5
            case measure => omega
            case rel => exact ⟨_, c5, Nat.le_refl _, R3, NX, by rw [hn1, e3]⟩
        · have g1 : (x2 == o) = false := by simp [q2]
          have g2 : (x2 != o) = true := by simp [q2]
          by_cases q1 : x1 = o
          · subst q1
            have h1 : (x1 == x1) = true := by simp
            have E3 := Hd.mk (show n' = n - y by rw [E2.out, if_neg q2, if_pos ⟨rfl, q2⟩]; omega)
            rw [if_neg q2, if_pos ⟨rfl, q2⟩] at b2
            have e3 := E3.out
            have hw : wrap64 (n - y) = n - y := by simp only [MC] at b1 b2; exact w64 (by omega) (by omega)
            go_wp2_with fail
            go_roundg c5
            case measure => omega
            case rel => exact ⟨_, c5, Nat.le_refl _, R3, NX, by rw [hn1, e3]⟩
          · have h1 : (x1 == o) = false := by simp [q1]
            have e3 : n' = n := by rw [E2.out, if_neg q2, if_neg (fun h => q1 h.1)]; omega
            go_wp2_with fail
            go_roundg c5
            case measure => omega
            case rel => exact ⟨_, c5, Nat.le_refl _, R3, NX, by rw [hn1, e3]⟩
      · have f1 : (x0 == st) = false := by simp [q0]
        have f2 : (x0 != st) = true := by simp [q0]
        have e3 : n' = n := by rw [E2.out, if_neg q0]; omega
        go_wp2_with fail
        go_roundg c5
        case measure => omega
        case rel => exact ⟨_, c5, Nat.le_refl _, R3, NX, by rw [hn1, e3]⟩
/-- Nothing is overdrawn. -/
def Fund (Y : List (S131 × Int)) : Prop := ∀ s o : Int, 0 ≤ s → s ≤ 7 → 0 ≤ o → o ≤ 7 → 0 ≤ freeY Y s o
theorem funded_run (w : World) (k mt mn mw : Nat) (s : List Int) (T : List (S97 × S99)) (N : List (Int × S102)) (Y : List (S131 × Int)) (h : KnowAt w k mt mn mw s T N Y) (hY : ∀ p ∈ Y, wayB p = true) :
    Calls Tryz.prog 113 #[.pointer (some ⟨k, 0, none⟩)] w fun e w' => ∃ b : Bool, e = .returned (.bool b) ∧ (b = true ↔ Fund Y) ∧ Below w.heap.size w w' := by
  have FR := Hd.mk (fun (wq : World) (hb : Below w.heap.size w wq) (i j : Int) => (free_run wq k mt mn mw s T N Y (h.below hb) hY i j).mono fun e w' hh => (⟨hh.1, hb.trans (hh.2.mono hb.size)⟩ : e = .returned (.int .i64 (freeY Y i j)) ∧ Below w.heap.size w w'))
  clear h hY
  go_enter Tryz.func113, Tryz.ntmps113
  go_wp2_with fail
  go_loopg [5] 8 (fun gg v5 wq => ∃ i : Nat, v5 = .int .i64 i ∧ i + gg = 8 ∧ Hd (∀ s o : Int, 0 ≤ s → s < i → 0 ≤ o → o ≤ 7 → 0 ≤ freeY Y s o) ∧ Hd (Below w.heap.size w wq))
  case atStart => exact ⟨0, rfl, by omega, ⟨fun s o h0 h1 => by omega⟩, ⟨Below.refl _ _⟩⟩
  case round =>
    obtain ⟨i, rfl, hi, HA, BQ⟩ := hrel
    by_cases hlt : i < 8
    · have hz : ((i : Int) < 8) := by omega
      go_wp2_with fail
      go_loopg [8] 8 (fun gg v8 wq => ∃ j : Nat, v8 = .int .i64 j ∧ j + gg = 8 ∧ Hd (∀ o : Int, 0 ≤ o → o < j → 0 ≤ freeY Y i o) ∧ Hd (Below w.heap.size w wq))
      case atStart => exact ⟨0, rfl, by omega, ⟨fun o h0 h1 => by omega⟩, BQ⟩
      case round =>
        obtain ⟨j, rfl, hj, HB, BR⟩ := hrel
        by_cases hlj : j < 8
        · have hzj : ((j : Int) < 8) := by omega
          go_wp2_with fail
          refine (FR.out _ BR.out i j).mono ?_
          rintro e w4 ⟨rfl, hb4⟩
          have B4 := Hd.mk hb4
          clear hb4
          by_cases hf : freeY Y i j < 0
          · have HN := Hd.mk (show ¬ Fund Y by intro hh; have := hh i j (by omega) (by omega) (by omega) (by omega); omega)
            go_wp2_with fail
            go_ret
            exact ⟨false, rfl, ⟨fun h => absurd h (by simp), fun h => absurd h HN.out⟩, B4.out⟩
          · have HB2 := Hd.mk (show ∀ o : Int, 0 ≤ o → o < ((j + 1 : Nat) : Int) → 0 ≤ freeY Y i o by
              intro o h0 h1
              by_cases e : o = j
              · subst e; omega
              · exact HB.out o h0 (by omega))
            go_wp2_with fail
            go_roundg (8 - (j + 1))
            case measure => omega
            case rel => exact ⟨j + 1, by go_num, by omega, HB2, B4⟩
        · have hzj : ¬ ((j : Int) < 8) := by omega
          have HA2 := Hd.mk (show ∀ s o : Int, 0 ≤ s → s < ((i + 1 : Nat) : Int) → 0 ≤ o → o ≤ 7 → 0 ≤ freeY Y s o by
            intro s o h0 h1 h2 h3
            by_cases e : s = i
            · subst e; exact HB.out o h2 (by omega)
            · exact HA.out s o h0 (by omega) h2 h3)
          go_wp2_with fail
          go_roundg (8 - (i + 1))
          case measure => omega
          case rel => exact ⟨i + 1, by go_num, by omega, HA2, BR⟩
    · have hz : ¬ ((i : Int) < 8) := by omega
      have HT := Hd.mk (show Fund Y from fun s o h0 h1 h2 h3 => HA.out s o h0 (by omega) h2 h3)
      go_wp2_with fail
      go_ret
      exact .inr ⟨rfl, HT.out, BQ.out⟩
end Go.Proofs.YtmeaeapopfcmbaaGreat

namespace Go.Proofs.YtmeaeapopfcmbaaGreat
open Go.RowKit Go.Proofs.YtmeaeapopfcmbaaGreatW.PrintWords Go.Proofs.YtmeaeapopfcmbaaGreatW.PrintLast Go.Proofs.YtmeaeapopfcmbaaGreatW.PrintMore PP
set_option linter.unusedVariables false
set_option linter.unusedSimpArgs false
/-- w' is w below B, but for the blocks D. -/
structure Chg (B : Nat) (D : Nat → Prop) (w w' : World) : Prop where
  os : w'.os = w.os
  tape : w'.tape = w.tape
  output : w'.output = w.output
  size : w.heap.size ≤ w'.heap.size
  block : ∀ k, k < B → ¬ D k → w'.heap[k]? = w.heap[k]?
namespace Chg
variable {B : Nat} {D : Nat → Prop} {a b c w w' : World}
theorem refl (B : Nat) (D : Nat → Prop) (w : World) : Chg B D w w := ⟨rfl, rfl, rfl, Nat.le_refl _, fun _ _ _ => rfl⟩
theorem of (h : Below B w w') : Chg B D w w' := ⟨h.os, h.tape, h.output, h.size, fun k hk _ => h.block k hk⟩
theorem below (h : Chg B (fun _ => False) w w') : Below B w w' := ⟨h.os, h.tape, h.output, h.size, fun k hk => h.block k hk id⟩
theorem trans (h : Chg B D a b) (k : Chg B D b c) : Chg B D a c :=
  ⟨k.os.trans h.os, k.tape.trans h.tape, k.output.trans h.output, Nat.le_trans h.size k.size, fun i hi hd => (k.block i hi hd).trans (h.block i hi hd)⟩
theorem mono (h : Chg B D w w') {B' : Nat} {D' : Nat → Prop} (hB : B' ≤ B) (hD : ∀ k, k < B' → D k → D' k) : Chg B' D' w w' :=
  ⟨h.os, h.tape, h.output, h.size, fun k hk hd => h.block k (Nat.lt_of_lt_of_le hk hB) fun e => hd (hD k hk e)⟩
theorem fresh (h : Chg B D w w') {B' : Nat} (hB : B' ≤ B) (hD : ∀ k, D k → B' ≤ k) : Below B' w w' :=
  ⟨h.os, h.tape, h.output, h.size, fun k hk => h.block k (Nat.lt_of_lt_of_le hk hB) fun e => absurd (hD k e) (by omega)⟩
theorem step (h : Chg B D a b) (k : Chg b.heap.size D b c) (hB : B ≤ a.heap.size) : Chg B D a c := h.trans (k.mono (Nat.le_trans hB h.size) fun _ _ hd => hd)
theorem below_step (h : Chg B D a b) (k : Below b.heap.size b c) (hB : B ≤ a.heap.size) : Chg B D a c := h.step (.of k) hB
theorem alloc (h : Chg B D a w) (hB : B ≤ w.heap.size) (o : Obj) : Chg B D a (w.alloc o) := h.trans (.of ((Below.refl _ _).alloc hB o))
theorem grown (h : Chg B D a w) {row : Option Nat} (hg : w.grownBy w' row) (hB : B ≤ w.heap.size) (hr : ∀ k, row = some k → k < B → D k) : Chg B D a w' := by
  refine h.trans ?_
  obtain ⟨h1, h2, h3, h4, h5⟩ := hg
  exact ⟨h1, h2, h3, h4, fun k hk hd => h5 k (Nat.lt_of_lt_of_le hk hB) fun e => hd (hr k e.symm hk)⟩
theorem turned (h : Chg B D a w) {k : Nat} (ht : w.mapTurned w' k) (hB : B ≤ w.heap.size) (hr : k < B → D k) : Chg B D a w' :=
  h.grown ht.grown hB fun i e => by injection e with e; subst e; exact hr
theorem setCell (h : Chg B D a w) {p : Addr} (hp : p.block < B → D p.block) (u : Value) : Chg B D a (w.setCell p u) := by
  refine h.trans ⟨rfl, rfl, rfl, ?_, fun k hk hd => ?_⟩
  · simp
  · exact Below.heap_setCell _ _ _ _ fun e => hd (by subst e; exact hp hk)
theorem map {α β : Type} {C : MK Tryz.prog α β} {m : Nat} {L : List (α × β)} (h : Chg B D w w') (hm : MapIs C w m L) (hB : m < B) (hD : ¬ D m) : MapIs C w' m L := hm.at (h.block m hB hD)
theorem know {k mt mn mw : Nat} {s : List Int} {T : List (S97 × S99)} {N : List (Int × S102)} {Y : List (S131 × Int)} (h : Chg w.heap.size D w w') (hk : KnowAt w k mt mn mw s T N Y) (hD : ∀ i, i = k ∨ i = mt ∨ i = mn ∨ i = mw → ¬ D i) : KnowAt w' k mt mn mw s T N Y := by
  refine hk.at fun i hi => h.block i ?_ (hD i hi)
  obtain ⟨h1, h2, h3, h4⟩ := hk.lt
  rcases hi with rfl | rfl | rfl | rfl <;> assumption
end Chg
theorem alloc_at (w : World) (o : Obj) (n : Nat) (h : n = w.heap.size) : (w.alloc o).heap[n]? = some o := by
  subst h
  exact (MapKept.heap_alloc w o).1
theorem MapIs.box {α β : Type} {C : MK Tryz.prog α β} {w : World} {b : Nat} {L : List (α × β)} (h : MapIs C w b L) (o : Obj) : b ≠ w.heap.size := by
  have := h.lt
  omega
set_option maxHeartbeats 4000000
set_option maxRecDepth 100000
theorem putN_run (w : World) (m : Nat) (L : List (Int × S102)) (x : Int) (v : S102) (hx : okI x) (h : MapIs CN w m L) (hl : L.length < 9223372036854775807) :
    Calls Tryz.prog 104 #[.agg #[.map (some m), .func (.func 122) #[] #[]], .int .i64 x, vN v] w fun e w' => e = .returned (.tuple #[]) ∧ MapIs CN w' m (tput cmpN L x v) ∧ Chg w.heap.size (· = m) w w' := by
  obtain ⟨v0, v1, v2, v3⟩ := v
  have hlt := h.lt
  have M2 := (h.al (.cells #[.map (some m), .func (.func 122) #[] #[]] 123)).al (.cells #[.int .i64 v0, .string v1, .int .i64 v2, .int .i64 v3] 102)
  have lk := M2.look_ok hx
  have HM := Hd.mk M2
  have CM := Hd.mk (fun (a b : S102) (W : World) => compareNotes_run a b W)
  have HX := Hd.mk hx
  have HL := Hd.mk hl
  have BW := Hd.mk (show Below w.heap.size w ((w.alloc (.cells #[.map (some m), .func (.func 122) #[] #[]] 123)).alloc (.cells #[.int .i64 v0, .string v1, .int .i64 v2, .int .i64 v3] 102)) from below_alloc (below_alloc (Below.refl _ _) _) _)
  clear h hx hl M2
  simp only [vN]
  go_enter Tryz.func104, Tryz.ntmps104
  cases hg : mget L x with
  | none =>
    have e1 := Hd.mk (show tput cmpN L x (⟨v0, v1, v2, v3⟩ : S102) = mput L x (⟨v0, v1, v2, v3⟩ : S102) by unfold tput; rw [hg])
    rw [hg] at lk
    simp only [Option.getD_none, Option.isSome_none] at lk
    generalize CN.z = z at lk
    obtain ⟨z0, z1, z2, z3⟩ := z
    change (Instr.lookup 120 _ (.int .i64 x) true).run _ _ = .ok (.tuple #[.agg #[.int .i64 z0, .string z1, .int .i64 z2, .int .i64 z3], .bool false]) _ at lk
    go_wp2_with (at_mapUpdate; refine wpL_mput _ CN rfl _ _ _ rfl m L x (⟨v0, v1, v2, v3⟩ : S102) HX.out rfl rfl rfl (HM.out.al _) HL.out ?_; intro w2 hm2 ht2; have M3 := Hd.mk hm2; have T3 := Hd.mk ht2; clear hm2 ht2)
    go_end0
    refine ⟨rfl, ?_, (Chg.of (below_alloc BW.out _)).turned T3.out (by simp; omega) (fun _ => rfl)⟩
    rw [e1.out]
    exact M3.out
  | some y =>
    rw [hg] at lk
    simp only [Option.getD_some, Option.isSome_some] at lk
    have LT := Hd.mk (show m < w.heap.size from hlt)
    have B3 := Hd.mk (fun W (h : Below (w.heap.size + 2) (((w.alloc (.cells #[.map (some m), .func (.func 122) #[] #[]] 123)).alloc (.cells #[.int .i64 v0, .string v1, .int .i64 v2, .int .i64 v3] 102)).alloc (.cells #[.int .i64 y.f0, .string y.f1, .int .i64 y.f2, .int .i64 y.f3] 102)) W) => show MapIs CN W m L ∧ Below w.heap.size w W from ⟨(HM.out.al _).below h (by omega), (below_alloc BW.out _).trans (h.mono (by omega))⟩)
    have CV := Hd.mk (fun W => CM.out (⟨v0, v1, v2, v3⟩ : S102) y W)
    obtain ⟨y0, y1, y2, y3⟩ := y
    change (Instr.lookup 120 _ (.int .i64 x) true).run _ _ = .ok (.tuple #[.agg #[.int .i64 y0, .string y1, .int .i64 y2, .int .i64 y3], .bool true]) _ at lk
    go_wp2_with fail
    refine (CV.out _).mono ?_
    rintro e w4 ⟨rfl, hb4⟩
    have B4 := Hd.mk (B3.out _ (hb4.mono (by simp)))
    have S4 := Hd.mk (show w.heap.size + 2 < w4.heap.size by have := hb4.size; simp at this; omega)
    have D1 := Hd.mk ((hb4.block w.heap.size (by simp; omega)).trans ((Below.heap_alloc _ _ _ (by simp; omega)).trans ((Below.heap_alloc _ _ _ (by simp)).trans (MapKept.heap_alloc w _).1)))
    have D2 := Hd.mk ((hb4.block (w.heap.size + 1) (by simp)).trans ((Below.heap_alloc _ _ _ (by simp)).trans (alloc_at _ _ _ (by simp))))
    have q0 := cell_of D1.out 0 rfl
    have q1 := cell_of D2.out 0 rfl
    have q2 := cell_of D2.out 1 rfl
    have q3 := cell_of D2.out 2 rfl
    have q4 := cell_of D2.out 3 rfl
    clear hb4 lk
    have e1 := Hd.mk (show tput cmpN L x (⟨v0, v1, v2, v3⟩ : S102) = if 0 < cmpN (⟨v0, v1, v2, v3⟩ : S102) (⟨y0, y1, y2, y3⟩ : S102) then mput L x (⟨v0, v1, v2, v3⟩ : S102) else L by unfold tput; rw [hg])
    simp only
    generalize cmpN (⟨v0, v1, v2, v3⟩ : S102) (⟨y0, y1, y2, y3⟩ : S102) = c at *
    by_cases hc : 0 < c
    · go_wp2_with (at_mapUpdate; refine wpL_mput _ CN rfl _ _ _ rfl m L x (⟨v0, v1, v2, v3⟩ : S102) HX.out rfl rfl rfl B4.out.1 HL.out ?_; intro w2 hm2 ht2; have M3 := Hd.mk hm2; have T3 := Hd.mk ht2; clear hm2 ht2)
      go_end0
      refine ⟨rfl, ?_, (Chg.of B4.out.2).turned T3.out (by have := S4.out; omega) (fun _ => rfl)⟩
      rw [e1.out, if_pos hc]
      exact M3.out
    · have hc' := Hd.mk hc
      go_wp2_with fail
      go_end0
      refine ⟨rfl, ?_, .of B4.out.2⟩
      rw [e1.out, if_neg (Int.not_lt.2 hc'.out)]
      exact B4.out.1
theorem putW_run (w : World) (m : Nat) (L : List (S131 × Int)) (x : S131) (v : Int) (hx : okW x) (h : MapIs CW w m L) (hl : L.length < 9223372036854775807) :
    Calls Tryz.prog 109 #[.agg #[.map (some m), .func (.func 102) #[] #[]], vW x, .int .i64 v] w fun e w' => e = .returned (.tuple #[]) ∧ MapIs CW w' m (tput cmpI L x v) ∧ Chg w.heap.size (· = m) w w' := by
  obtain ⟨x0, x1, x2⟩ := x
  have hlt := h.lt
  have M2 := (h.al (.cells #[.map (some m), .func (.func 102) #[] #[]] 127)).al (.cells #[.int .i64 x0, .int .i64 x1, .int .i64 x2] 131)
  have lk := M2.look_ok hx
  have HM := Hd.mk M2
  have CM := Hd.mk (fun (a b : Int) (W : World) => compareInt_run a b W)
  have HX := Hd.mk hx
  have HL := Hd.mk hl
  have BW := Hd.mk (show Below w.heap.size w ((w.alloc (.cells #[.map (some m), .func (.func 102) #[] #[]] 127)).alloc (.cells #[.int .i64 x0, .int .i64 x1, .int .i64 x2] 131)) from below_alloc (below_alloc (Below.refl _ _) _) _)
  clear h hx hl M2
  simp only [vW]
  go_enter Tryz.func109, Tryz.ntmps109
  cases hg : mget L (⟨x0, x1, x2⟩ : S131) with
  | none =>
    have e1 := Hd.mk (show tput cmpI L (⟨x0, x1, x2⟩ : S131) v = mput L (⟨x0, x1, x2⟩ : S131) v by unfold tput; rw [hg])
    rw [hg] at lk
    simp only [Option.getD_none, Option.isSome_none] at lk
    generalize CW.z = z at lk
    change (Instr.lookup 124 _ (.agg #[.int .i64 x0, .int .i64 x1, .int .i64 x2]) true).run _ _ = .ok (.tuple #[.int .i64 z, .bool false]) _ at lk
    go_wp2_with (at_mapUpdate; refine wpL_mput _ CW rfl _ _ _ rfl m L (⟨x0, x1, x2⟩ : S131) v HX.out rfl rfl rfl HM.out HL.out ?_; intro w2 hm2 ht2; have M3 := Hd.mk hm2; have T3 := Hd.mk ht2; clear hm2 ht2)
    go_end0
    refine ⟨rfl, ?_, (Chg.of BW.out).turned T3.out (by simp; omega) (fun _ => rfl)⟩
    rw [e1.out]
    exact M3.out
  | some y =>
    rw [hg] at lk
    simp only [Option.getD_some, Option.isSome_some] at lk
    have LT := Hd.mk (show m < w.heap.size from hlt)
    have B3 := Hd.mk (fun W (h : Below (w.heap.size + 2) ((w.alloc (.cells #[.map (some m), .func (.func 102) #[] #[]] 127)).alloc (.cells #[.int .i64 x0, .int .i64 x1, .int .i64 x2] 131)) W) => show MapIs CW W m L ∧ Below w.heap.size w W from ⟨HM.out.below h (by omega), BW.out.trans (h.mono (by omega))⟩)
    have CV := Hd.mk (fun W => CM.out v y W)
    change (Instr.lookup 124 _ (.agg #[.int .i64 x0, .int .i64 x1, .int .i64 x2]) true).run _ _ = .ok (.tuple #[.int .i64 y, .bool true]) _ at lk
    go_wp2_with fail
    refine (CV.out _).mono ?_
    rintro e w4 ⟨rfl, hb4⟩
    have B4 := Hd.mk (B3.out _ (hb4.mono (by simp)))
    have S4 := Hd.mk (show w.heap.size + 1 < w4.heap.size by have := hb4.size; simp at this; omega)
    have D1 := Hd.mk ((hb4.block w.heap.size (by simp; omega)).trans ((Below.heap_alloc _ _ _ (by simp)).trans (MapKept.heap_alloc w _).1))
    have D2 := Hd.mk ((hb4.block (w.heap.size + 1) (by simp)).trans (alloc_at _ _ _ (by simp)))
    have q0 := cell_of D1.out 0 rfl
    have q1 := cell_of D2.out 0 rfl
    have q2 := cell_of D2.out 1 rfl
    have q3 := cell_of D2.out 2 rfl
    clear hb4 lk
    have e1 := Hd.mk (show tput cmpI L (⟨x0, x1, x2⟩ : S131) v = if 0 < cmpI v y then mput L (⟨x0, x1, x2⟩ : S131) v else L by unfold tput; rw [hg])
    simp only
    generalize cmpI v y = c at *
    by_cases hc : 0 < c
    · go_wp2_with (at_mapUpdate; refine wpL_mput _ CW rfl _ _ _ rfl m L (⟨x0, x1, x2⟩ : S131) v HX.out rfl rfl rfl B4.out.1 HL.out ?_; intro w2 hm2 ht2; have M3 := Hd.mk hm2; have T3 := Hd.mk ht2; clear hm2 ht2)
      go_end0
      refine ⟨rfl, ?_, (Chg.of B4.out.2).turned T3.out (by have := S4.out; omega) (fun _ => rfl)⟩
      rw [e1.out, if_pos hc]
      exact M3.out
    · have hc' := Hd.mk hc
      go_wp2_with fail
      go_end0
      refine ⟨rfl, ?_, .of B4.out.2⟩
      rw [e1.out, if_neg (Int.not_lt.2 hc'.out)]
      exact B4.out.1
/-! ### maps.Clone -/
section
open Go.ChangeMaps
theorem run_equalIn_mapnil {P : Program} (w : World) (d : Nat) (t k e : TypeId) (p : Option Nat) (h : P.underlying t = some (.map k e)) : (Op.equalIn (d + 1) t (.map p) (.map none)).run P w = .ok p.isNone w := by
  cases p <;> simp [Op.equalIn, run_underlying h]
theorem run_eql_mapnil {P : Program} (w : World) (t k e : TypeId) (p : Option Nat) (h : P.underlying t = some (.map k e)) : (binOp .eql t (.map p) (.map none)).run P w = .ok (.bool p.isNone) w := by
  simp only [binOp]
  simp [show Op.equal t (.map p) (.map none) = Op.equalIn (9999 + 1) t (.map p) (.map none) from rfl, run_equalIn_mapnil w 9999 t k e p h]
theorem run_typeAssert_map {P : Program} (w : World) (t xT k e : TypeId) (v : Value) (h : P.underlying t = some (.map k e)) : (Instr.typeAssert (.iface t v) xT t false).run P w = .ok v w := by
  simp [Instr.typeAssert, run_underlying h, go_sem, Result.andThen]
theorem run_maps_clone {P : Program} (w : World) {r : Nat} {es : Array MapEntry} {clock : Nat} (t : TypeId) (hb : w.heap[r]? = some (.map es clock)) :
    (Extern.MapsClone.clone #[.iface t (.map (some r))]).run P w = .ok (.iface t (.map (some w.heap.size))) (w.alloc (.map es clock)) := by
  have e : Extern.MapsClone.clone #[.iface t (.map (some r))] = (getObj r >>= fun o => match o with
      | .map entries clock => (newObj (.map entries clock) >>= fun n => pure (.iface t (.map (some n))))
      | _ => stuck "maps.clone: a map expected") := rfl
  rw [e]
  simp [MapKept.run_getObj_map hb, Result.andThen, go_sem]
end
theorem MapIs.clone {α β : Type} {C : MK Tryz.prog α β} {w : World} {b : Nat} {L : List (α × β)} (h : MapIs C w b L) : ∃ es clock, w.heap[b]? = some (.map es clock) ∧ MapIs C (w.alloc (.map es clock)) w.heap.size L := by
  obtain ⟨es, ⟨E, clock, h0, h1⟩, h2⟩ := h
  exact ⟨E, clock, h0, es, ⟨E, clock, (MapKept.heap_alloc w _).1, h1⟩, h2⟩
theorem cloneT_run (w : World) (b : Nat) (L : List (S97 × S99)) (h : MapIs CT w b L) : Calls Tryz.prog 136 #[.map (some b)] w fun e w' => ∃ m, e = .returned (.map (some m)) ∧ w.heap.size ≤ m ∧ MapIs CT w' m L ∧ Below w.heap.size w w' := by
  have hq := fun w => run_eql_mapnil (P := Tryz.prog) w 119 _ _ (some b) Tryz.underlying119
  obtain ⟨es, clock, hb, hm⟩ := h.clone
  have HB := Hd.mk hb
  have HM := Hd.mk hm
  clear hb hm h
  go_enter Tryz.func136, Tryz.ntmps136
  go_wp2
  rw [run_callFunc_extern Tryz.func159 (by kernel_rfl) (by kernel_rfl) (by kernel_rfl) (e := Extern.MapsClone.clone) (by kernel_rfl), run_maps_clone w 119 HB.out]
  simp only [Result.andThen]
  rw [Oper.upon_value]
  go_wp2
  rw [run_typeAssert_map _ 119 20 _ _ _ Tryz.underlying119]
  simp only [Result.andThen]
  rw [Oper.upon_value]
  go_wp2
  go_ret
  exact ⟨_, rfl, Nat.le_refl _, HM.out, below_alloc (Below.refl _ _) _⟩
theorem cloneN_run (w : World) (b : Nat) (L : List (Int × S102)) (h : MapIs CN w b L) : Calls Tryz.prog 137 #[.map (some b)] w fun e w' => ∃ m, e = .returned (.map (some m)) ∧ w.heap.size ≤ m ∧ MapIs CN w' m L ∧ Below w.heap.size w w' := by
  have hq := fun w => run_eql_mapnil (P := Tryz.prog) w 120 _ _ (some b) Tryz.underlying120
  obtain ⟨es, clock, hb, hm⟩ := h.clone
  have HB := Hd.mk hb
  have HM := Hd.mk hm
  clear hb hm h
  go_enter Tryz.func137, Tryz.ntmps137
  go_wp2
  rw [run_callFunc_extern Tryz.func159 (by kernel_rfl) (by kernel_rfl) (by kernel_rfl) (e := Extern.MapsClone.clone) (by kernel_rfl), run_maps_clone w 120 HB.out]
  simp only [Result.andThen]
  rw [Oper.upon_value]
  go_wp2
  rw [run_typeAssert_map _ 120 20 _ _ _ Tryz.underlying120]
  simp only [Result.andThen]
  rw [Oper.upon_value]
  go_wp2
  go_ret
  exact ⟨_, rfl, Nat.le_refl _, HM.out, below_alloc (Below.refl _ _) _⟩
theorem cloneW_run (w : World) (b : Nat) (L : List (S131 × Int)) (h : MapIs CW w b L) : Calls Tryz.prog 138 #[.map (some b)] w fun e w' => ∃ m, e = .returned (.map (some m)) ∧ w.heap.size ≤ m ∧ MapIs CW w' m L ∧ Below w.heap.size w w' := by
  have hq := fun w => run_eql_mapnil (P := Tryz.prog) w 124 _ _ (some b) Tryz.underlying124
  obtain ⟨es, clock, hb, hm⟩ := h.clone
  have HB := Hd.mk hb
  have HM := Hd.mk hm
  clear hb hm h
  go_enter Tryz.func138, Tryz.ntmps138
  go_wp2
  rw [run_callFunc_extern Tryz.func159 (by kernel_rfl) (by kernel_rfl) (by kernel_rfl) (e := Extern.MapsClone.clone) (by kernel_rfl), run_maps_clone w 124 HB.out]
  simp only [Result.andThen]
  rw [Oper.upon_value]
  go_wp2
  rw [run_typeAssert_map _ 124 20 _ _ _ Tryz.underlying124]
  simp only [Result.andThen]
  rw [Oper.upon_value]
  go_wp2
  go_ret
  exact ⟨_, rfl, Nat.le_refl _, HM.out, below_alloc (Below.refl _ _) _⟩
end Go.Proofs.YtmeaeapopfcmbaaGreat

namespace Go.Proofs.YtmeaeapopfcmbaaGreat
open Go.RowKit Go.Proofs.YtmeaeapopfcmbaaGreatW.PrintWords Go.Proofs.YtmeaeapopfcmbaaGreatW.PrintLast Go.Proofs.YtmeaeapopfcmbaaGreatW.PrintMore PP
set_option linter.unusedVariables false
set_option linter.unusedSimpArgs false
set_option maxHeartbeats 4000000
/-- Whole numbers that lie behind A. -/
def Nums (k : IntKind) (w : World) (A : Option Addr) (xs : List Int) : Prop :=
  ∀ j : Nat, j < xs.length → ∃ ad, A = some ad ∧ w.cell? (ad.add j) = some (.int k xs[j]!) ∧ ad.block < w.heap.size
theorem add_block (ad : Addr) (j : Nat) : (ad.add j).block = ad.block := by unfold Addr.add; split <;> rfl
theorem Nums.below {k : IntKind} {w w' : World} {A : Option Addr} {xs : List Int} (h : Nums k w A xs) (hb : Below w.heap.size w w') : Nums k w' A xs := fun j hj => by
  obtain ⟨ad, h1, h2, h3⟩ := h j hj
  exact ⟨ad, h1, (hb.cell (p := ad.add j) (by rw [add_block]; exact h3)).trans h2, Nat.lt_of_lt_of_le h3 hb.size⟩
theorem Nums.of {k : IntKind} {w : World} {A : Option Addr} {xs : List Int} (h : (Kd.int k).C w A xs.length xs) : Nums k w A xs := fun j hj => by
  obtain ⟨ad, h1, h2⟩ := Kd.at_int h (j : Int) (by omega) (by omega)
  have h3 : w.cell? (ad.add j) = some (.int k xs[j]!) := by
    rw [Int.toNat_natCast] at h2
    rw [h2]
    unfold rd
    rw [Int.toNat_natCast, List.getElem!_eq_getElem?_getD, List.getD_eq_getElem?_getD]
    rfl
  refine ⟨ad, h1, h3, ?_⟩
  unfold World.cell? at h3
  cases hh : w.heap[(ad.add j).block]? with
  | none => simp [hh] at h3
  | some o => rw [← add_block ad j]; exact (Array.getElem?_eq_some_iff.1 hh).1
/-- What is asked of a predicate. -/
def PredI (k : IntKind) (g : Nat) (p : Int → Bool) (w : World) : Prop :=
  ∀ (W : World) (x : Int), Below w.heap.size w W → Calls Tryz.prog g #[.int k x] W fun e w' => e = .returned (.bool (p x)) ∧ Below w.heap.size w w'
theorem any_hit {p : Int → Bool} {xs : List Int} {k : Nat} (hk : k < xs.length) (h : p xs[k]! = true) : xs.any p = true := by
  rw [List.any_eq_true]
  rw [getElem!_pos xs k hk] at h
  exact ⟨xs[k], List.getElem_mem hk, h⟩
theorem any_miss {p : Int → Bool} {xs : List Int} (h : ∀ j, j < xs.length → p xs[j]! = false) : xs.any p = false := by
  rw [Bool.eq_false_iff]
  intro h1
  obtain ⟨x, hx, hp⟩ := List.any_eq_true.1 h1
  obtain ⟨j, hj, rfl⟩ := List.getElem_of_mem hx
  have := h j hj
  rw [getElem!_pos xs j hj, hp] at this
  exact absurd this (by simp)
theorem indexI_run (w : World) (g : Nat) (p : Int → Bool) (eg : ∀ args w, (callFunc g args).run Tryz.prog w = .ok (.enter g args) w) (A : Option Addr) (c : Nat) (xs : List Int) (hC : Nums .i64 w A xs) (hbig : xs.length < 9223372036854775807) (hp : PredI .i64 g p w) :
    Calls Tryz.prog 139 #[.slice A xs.length c, .func (.func g) #[] #[]] w fun e w' => ∃ z, e = .returned (.int .i64 z) ∧ decide (0 ≤ z) = xs.any p ∧ Below w.heap.size w w' := by
  have HC := Hd.mk hC
  have HP := Hd.mk hp
  clear hC hp
  go_enter Tryz.func139, Tryz.ntmps139
  go_wp2
  go_loopg [8] xs.length (fun gg s8 wr => ∃ kk : Nat, kk ≤ xs.length ∧ xs.length - kk ≤ gg ∧ s8 = .int .i64 kk ∧ Hd (Below w.heap.size w wr) ∧ Hd (∀ j, j < kk → p xs[j]! = false))
  case atStart => exact ⟨0, Nat.zero_le _, by omega, rfl, ⟨Below.refl _ w⟩, ⟨fun j hj => absurd hj (Nat.not_lt_zero _)⟩⟩
  case round =>
    obtain ⟨kk, hkk, hg, rfl, BW, HA⟩ := hrel
    by_cases hlt : kk < xs.length
    · have hltz : (kk : Int) < (xs.length : Int) := by omega
      obtain ⟨ad, rfl, x0, _⟩ := HC.out.below BW.out kk hlt
      have hcall := HP.out wr xs[kk]! BW.out
      generalize hy : xs[kk]! = y at x0 hcall
      have B := Hd.mk hy
      clear hy
      cases hq : p y with
      | true =>
        rw [hq] at hcall
        have HT := Hd.mk (show xs.any p = true from any_hit hlt (by rw [B.out]; exact hq))
        have HCL := Hd.mk hcall
        clear hcall
        go_wp2_with fail
        refine HCL.out.mono ?_
        rintro e w' ⟨rfl, hb'⟩
        have HB' := Hd.mk hb'
        clear hb'
        go_wp2_with fail
        go_ret
        refine ⟨_, rfl, ?_, HB'.out⟩
        rw [HT.out]
        simp
      | false =>
        rw [hq] at hcall
        have HCL := Hd.mk hcall
        clear hcall
        go_wp2_with fail
        refine HCL.out.mono ?_
        rintro e w' ⟨rfl, hb'⟩
        have HB' := Hd.mk hb'
        clear hb'
        go_wp2_with fail
        go_roundg (xs.length - (kk + 1))
        case measure => omega
        case rel =>
          refine ⟨kk + 1, by omega, by omega, by go_num, HB', ⟨fun j hj => ?_⟩⟩
          by_cases e : j = kk
          · subst e
            rw [B.out]; exact hq
          · exact HA.out j (by omega)
    · have hltz : ¬ (kk : Int) < (xs.length : Int) := by omega
      have HT := Hd.mk (show xs.any p = false from any_miss fun j hj => HA.out j (by omega))
      clear hlt
      go_wp2
      go_ret
      refine ⟨_, rfl, ?_, BW.out⟩
      rw [HT.out]
      rfl
theorem indexB_run (w : World) (g : Nat) (p : Int → Bool) (eg : ∀ args w, (callFunc g args).run Tryz.prog w = .ok (.enter g args) w) (A : Option Addr) (c : Nat) (xs : List Int) (hC : Nums .u8 w A xs) (hbig : xs.length < 9223372036854775807) (hp : PredI .u8 g p w) :
    Calls Tryz.prog 147 #[.slice A xs.length c, .func (.func g) #[] #[]] w fun e w' => ∃ z, e = .returned (.int .i64 z) ∧ decide (0 ≤ z) = xs.any p ∧ Below w.heap.size w w' := by
  have HC := Hd.mk hC
  have HP := Hd.mk hp
  clear hC hp
  go_enter Tryz.func147, Tryz.ntmps147
  go_wp2
  go_loopg [8] xs.length (fun gg s8 wr => ∃ kk : Nat, kk ≤ xs.length ∧ xs.length - kk ≤ gg ∧ s8 = .int .i64 kk ∧ Hd (Below w.heap.size w wr) ∧ Hd (∀ j, j < kk → p xs[j]! = false))
  case atStart => exact ⟨0, Nat.zero_le _, by omega, rfl, ⟨Below.refl _ w⟩, ⟨fun j hj => absurd hj (Nat.not_lt_zero _)⟩⟩
  case round =>
    obtain ⟨kk, hkk, hg, rfl, BW, HA⟩ := hrel
    by_cases hlt : kk < xs.length
    · have hltz : (kk : Int) < (xs.length : Int) := by omega
      obtain ⟨ad, rfl, x0, _⟩ := HC.out.below BW.out kk hlt
      have hcall := HP.out wr xs[kk]! BW.out
      generalize hy : xs[kk]! = y at x0 hcall
      have B := Hd.mk hy
      clear hy
      cases hq : p y with
      | true =>
        rw [hq] at hcall
        have HT := Hd.mk (show xs.any p = true from any_hit hlt (by rw [B.out]; exact hq))
        have HCL := Hd.mk hcall
        clear hcall
        go_wp2_with fail
        refine HCL.out.mono ?_
        rintro e w' ⟨rfl, hb'⟩
        have HB' := Hd.mk hb'
        clear hb'
        go_wp2_with fail
        go_ret
        refine ⟨_, rfl, ?_, HB'.out⟩
        rw [HT.out]
        simp
      | false =>
        rw [hq] at hcall
        have HCL := Hd.mk hcall
        clear hcall
        go_wp2_with fail
        refine HCL.out.mono ?_
        rintro e w' ⟨rfl, hb'⟩
        have HB' := Hd.mk hb'
        clear hb'
        go_wp2_with fail
        go_roundg (xs.length - (kk + 1))
        case measure => omega
        case rel =>
          refine ⟨kk + 1, by omega, by omega, by go_num, HB', ⟨fun j hj => ?_⟩⟩
          by_cases e : j = kk
          · subst e
            rw [B.out]; exact hq
          · exact HA.out j (by omega)
    · have hltz : ¬ (kk : Int) < (xs.length : Int) := by omega
      have HT := Hd.mk (show xs.any p = false from any_miss fun j hj => HA.out j (by omega))
      clear hlt
      go_wp2
      go_ret
      refine ⟨_, rfl, ?_, BW.out⟩
      rw [HT.out]
      rfl
theorem containsI_run (w : World) (g : Nat) (p : Int → Bool) (eg : ∀ args w, (callFunc g args).run Tryz.prog w = .ok (.enter g args) w) (A : Option Addr) (c : Nat) (xs : List Int) (hC : Nums .i64 w A xs) (hbig : xs.length < 9223372036854775807) (hp : PredI .i64 g p w) :
    Calls Tryz.prog 95 #[.slice A xs.length c, .func (.func g) #[] #[]] w fun e w' => e = .returned (.bool (xs.any p)) ∧ Below w.heap.size w w' := by
  have hcon := Hd.mk (indexI_run w g p eg A c xs hC hbig hp)
  clear hC hp
  generalize xs.any p = r at *
  go_enter Tryz.func95, Tryz.ntmps95
  go_wp2_with fail
  refine hcon.out.mono ?_
  rintro e w' ⟨z, rfl, hz, hb'⟩
  have H2 := Hd.mk (show True ∧ decide (0 ≤ z) = r ∧ Below w.heap.size w w' from ⟨trivial, hz, hb'⟩)
  clear hz hb'
  go_wp2_with fail
  go_ret
  exact ⟨by rw [← H2.out.2.1]; rfl, H2.out.2.2⟩
theorem containsB_run (w : World) (g : Nat) (p : Int → Bool) (eg : ∀ args w, (callFunc g args).run Tryz.prog w = .ok (.enter g args) w) (A : Option Addr) (c : Nat) (xs : List Int) (hC : Nums .u8 w A xs) (hbig : xs.length < 9223372036854775807) (hp : PredI .u8 g p w) :
    Calls Tryz.prog 123 #[.slice A xs.length c, .func (.func g) #[] #[]] w fun e w' => e = .returned (.bool (xs.any p)) ∧ Below w.heap.size w w' := by
  have hcon := Hd.mk (indexB_run w g p eg A c xs hC hbig hp)
  clear hC hp
  generalize xs.any p = r at *
  go_enter Tryz.func123, Tryz.ntmps123
  go_wp2_with fail
  refine hcon.out.mono ?_
  rintro e w' ⟨z, rfl, hz, hb'⟩
  have H2 := Hd.mk (show True ∧ decide (0 ≤ z) = r ∧ Below w.heap.size w w' from ⟨trivial, hz, hb'⟩)
  clear hz hb'
  go_wp2_with fail
  go_ret
  exact ⟨by rw [← H2.out.2.1]; rfl, H2.out.2.2⟩
/-- name's closure. -/
def badB (c : Int) : Bool := (decide (c < 97) || decide (122 < c)) && (decide (c < 48) || decide (57 < c))
theorem name1_run (w : World) (c : Int) : Calls Tryz.prog 124 #[.int .u8 c] w fun e w' => e = .returned (.bool (badB c)) ∧ w' = w := by
  unfold badB
  by_cases h1 : c < 97
  · by_cases h3 : c < 48
    · have q1 : decide (c < 97) = true := decide_eq_true h1
      have q3 : decide (c < 48) = true := decide_eq_true h3
      go_enter Tryz.func124, Tryz.ntmps124
      go_wp2
      go_ret
      simp [h1, h3]
    · by_cases h4 : 57 < c
      · go_enter Tryz.func124, Tryz.ntmps124
        go_wp2
        go_ret
        simp [h1, h3, h4]
      · go_enter Tryz.func124, Tryz.ntmps124
        go_wp2
        go_ret
        simp [h1, h3, h4]
  · by_cases h2 : 122 < c
    · have h3 : ¬ c < 48 := by omega
      have h4 : 57 < c := by omega
      go_enter Tryz.func124, Tryz.ntmps124
      go_wp2
      go_ret
      simp [h1, h2, h3, h4]
    · go_enter Tryz.func124, Tryz.ntmps124
      go_wp2
      go_ret
      have e1 : ¬ (c < 97 ∨ 122 < c) := by omega
      simp [e1]
/-- read's closure over what was seen. -/
theorem read1_run (w : World) (x : Int) : Calls Tryz.prog 96 #[.int .i64 x] w fun e w' => e = .returned (.bool (!inR 0 MC x)) ∧ Below w.heap.size w w' := by
  have c := Hd.mk (fun W => upto_run W x 1073741824 (inR 0 MC x) (by unfold inR MC; rfl))
  generalize inR 0 MC x = r at *
  go_enter Tryz.func96, Tryz.ntmps96
  go_wp2_with fail
  refine (c.out _).mono ?_
  rintro e w1 ⟨rfl, hb⟩
  go_wp2_with fail
  go_ret
  exact ⟨rfl, hb⟩
/-- The comparisons by stone. -/
theorem stone3_run (w : World) (x y : S102) : Calls Tryz.prog 101 #[vN x, vN y] w fun e w' => e = .returned (.int .i64 (cmpM x y)) ∧ Below w.heap.size w w' := by
  obtain ⟨x0, x1, x2, x3⟩ := x
  obtain ⟨y0, y1, y2, y3⟩ := y
  have c := Hd.mk (fun W => compareInt_run x0 y0 W)
  show Calls Tryz.prog 101 #[.agg #[.int .i64 x0, .string x1, .int .i64 x2, .int .i64 x3], .agg #[.int .i64 y0, .string y1, .int .i64 y2, .int .i64 y3]] w fun e w' => e = .returned (.int .i64 (cmpI x0 y0)) ∧ Below w.heap.size w w'
  go_enter Tryz.func101, Tryz.ntmps101
  go_wp2_with fail
  refine (c.out _).mono ?_
  rintro e w1 ⟨rfl, hb⟩
  have B := Hd.mk ((below_alloc (below_alloc (Below.refl _ w) _) _).trans (hb.mono (by simp; omega)))
  clear hb
  go_wp2_with fail
  go_ret
  exact ⟨rfl, B.out⟩
theorem stone1_run (w : World) (x y : S102) : Calls Tryz.prog 119 #[vN x, vN y] w fun e w' => e = .returned (.int .i64 (cmpM x y)) ∧ Below w.heap.size w w' := by
  obtain ⟨x0, x1, x2, x3⟩ := x
  obtain ⟨y0, y1, y2, y3⟩ := y
  have c := Hd.mk (fun W => compareInt_run x0 y0 W)
  show Calls Tryz.prog 119 #[.agg #[.int .i64 x0, .string x1, .int .i64 x2, .int .i64 x3], .agg #[.int .i64 y0, .string y1, .int .i64 y2, .int .i64 y3]] w fun e w' => e = .returned (.int .i64 (cmpI x0 y0)) ∧ Below w.heap.size w w'
  go_enter Tryz.func119, Tryz.ntmps119
  go_wp2_with fail
  refine (c.out _).mono ?_
  rintro e w1 ⟨rfl, hb⟩
  have B := Hd.mk ((below_alloc (below_alloc (Below.refl _ w) _) _).trans (hb.mono (by simp; omega)))
  clear hb
  go_wp2_with fail
  go_ret
  exact ⟨rfl, B.out⟩
theorem count_run (w : World) (n : Int) : Calls Tryz.prog 105 #[.int .i64 n] w fun e w' => e = .returned (.bool (inR 1 MC n)) ∧ Below w.heap.size w w' :=
  (replica_count.calls n (inR 1 MC n) w (by unfold replica_count.f inR MC; by_cases h : 1 ≤ n <;> simp [h])).mono (fun e w' h => ⟨h.1, h.2.below⟩)
theorem ofs (n lo hi : Int) (w : World) : Calls Tryz.prog 52 #[.int .i64 n, .int .i64 hi] w fun e w' => e = .returned (.bool (inR 0 hi n)) ∧ Below w.heap.size w w' := upto_run w n hi _ rfl
end Go.Proofs.YtmeaeapopfcmbaaGreat

namespace Go.Proofs.YtmeaeapopfcmbaaGreat
open Go.RowKit Go.Proofs.YtmeaeapopfcmbaaGreatW.PrintWords Go.Proofs.YtmeaeapopfcmbaaGreatW.PrintLast Go.Proofs.YtmeaeapopfcmbaaGreatW.PrintMore PP Go.Shelf
set_option linter.unusedVariables false
set_option linter.unusedSimpArgs false
set_option maxHeartbeats 4000000
set_option maxRecDepth 100000
theorem enters96 : ∀ args w, (callFunc 96 args).run Tryz.prog w = .ok (.enter 96 args) w := enters_of Tryz.func96 (by kernel_rfl) rfl
theorem enters124 : ∀ args w, (callFunc 124 args).run Tryz.prog w = .ok (.enter 124 args) w := enters_of Tryz.func124 (by kernel_rfl) rfl
def bytesI (b : ByteArray) : List Int := b.data.toList.map fun c => (c.toNat : Int)
theorem badB_ok (c : UInt8) : badB (c.toNat : Int) = !byteOk c := by
  unfold badB byteOk
  simp only [UInt8.le_iff_toNat_le]
  have e1 : (97 : UInt8).toNat = 97 := rfl
  have e2 : (122 : UInt8).toNat = 122 := rfl
  have e3 : (48 : UInt8).toNat = 48 := rfl
  have e4 : (57 : UInt8).toNat = 57 := rfl
  rw [e1, e2, e3, e4]
  generalize c.toNat = n
  rw [Bool.eq_iff_iff]
  simp
  omega
theorem name_all (b : ByteArray) : (!(bytesI b).any badB) = b.data.toList.all byteOk := by
  unfold bytesI
  generalize b.data.toList = l
  induction l with
  | nil => rfl
  | cons c l ih => 
    simp only [List.map_cons, List.any_cons, List.all_cons, badB_ok]
    rw [Bool.not_or, ih, Bool.not_not]
theorem size_list (b : ByteArray) : b.toList.length = b.size := by rw [Lib.toList_data]; simp
theorem bytes_cells (w : World) (b : ByteArray) (cap : Nat) (m : Nat × Nat) : Nums .u8 (w.drew.alloc (.cells (bytesRow b cap) 5 m)) (some ⟨w.heap.size, 0, none⟩) (bytesI b) := fun j hj => by
  unfold bytesI at hj ⊢
  rw [List.length_map] at hj
  have hj2 : j < b.data.size := by simpa using hj
  refine ⟨⟨w.heap.size, 0, none⟩, rfl, ?_, by simp⟩
  have h1 : (w.drew.alloc (.cells (bytesRow b cap) 5 m)).heap[w.heap.size]? = some (.cells (bytesRow b cap) 5 m) := (MapKept.heap_alloc w.drew _).1
  have h2 : ((⟨w.heap.size, 0, none⟩ : Addr).add j) = ⟨w.heap.size, j, none⟩ := by
    unfold Addr.add
    split
    · rename_i e; subst e; rfl
    · simp
  rw [h2]
  unfold World.cell?
  simp only [h1]
  rw [bytesRow_at b cap j hj2, getElem!_pos _ _ (by simpa using hj)]
  simp
theorem name_run (b : ByteArray) (w : World) : Calls Tryz.prog 65 #[.string b] w fun e w' => e = .returned (.bool (nameB b)) ∧ Below w.heap.size w w' := by
  by_cases h0 : b.toList = []
  · have HN := Hd.mk (show nameB b = false by
      have := size_list b
      rw [h0] at this
      unfold nameB
      rw [← this]
      rfl)
    go_enter Tryz.func65, Tryz.ntmps65
    go_wp2_with fail
    go_ret
    exact ⟨by rw [HN.out]; rfl, Below.refl _ _⟩
  · by_cases h8 : (b.size : Int) ≤ 8
    · have HN := Hd.mk (show nameB b = !(bytesI b).any badB by
        rw [name_all]
        have h1 : b.size ≠ 0 := fun e => h0 (List.length_eq_zero_iff.1 ((size_list b).trans e))
        unfold nameB
        rw [decide_eq_true (show 1 ≤ b.size by omega), decide_eq_true (show b.size ≤ 8 by omega)]
        rfl)
      have HL := Hd.mk (show (bytesI b).length = b.size by unfold bytesI; simp)
      have HS := Hd.mk (show (bytesI b).length < 9223372036854775807 by rw [HL.out]; omega)
      have CN0 := Hd.mk (fun (cap c : Nat) (m : Nat × Nat) => containsB_run (w.drew.alloc (.cells (bytesRow b cap) 5 m)) 124 badB enters124 (some ⟨w.heap.size, 0, none⟩) c (bytesI b) (bytes_cells w b cap m) HS.out (fun W x hb => (name1_run W x).mono fun e w' h => ⟨h.1, by rw [h.2]; exact hb⟩))
      have CN := CN0
      rw [HL.out] at CN
      go_enter Tryz.func65, Tryz.ntmps65
      go_wp2_with fail
      rw [run_bytes_of_string w 9 178 5 b Tryz.underlying9 Tryz.underlying178 Tryz.underlying5]
      simp only [Result.andThen]
      rw [Oper.upon_value]
      go_wp2_with fail
      refine (CN.out _ _ _).mono ?_
      rintro e w1 ⟨rfl, hb⟩
      have B1 := Hd.mk (show Below w.heap.size w w1 from (Below.drew (Below.refl _ w)).trans ((below_alloc (Below.refl _ w.drew) _).trans (hb.mono (by simp))))
      clear hb
      go_wp2_with fail
      go_ret
      have he : b.toList.isEmpty = false := by simpa using h0
      exact ⟨by rw [HN.out]; simp [he], B1.out⟩
    · have HN := Hd.mk (show nameB b = false by
        unfold nameB
        rw [decide_eq_false (show ¬ b.size ≤ 8 by omega)]
        simp)
      go_enter Tryz.func65, Tryz.ntmps65
      go_wp2_with fail
      go_ret
      exact ⟨by rw [HN.out]; rfl, Below.refl _ _⟩
end Go.Proofs.YtmeaeapopfcmbaaGreat

namespace Go.Proofs.YtmeaeapopfcmbaaGreat
open Go.RowKit Go.Proofs.YtmeaeapopfcmbaaGreatW.PrintWords Go.Proofs.YtmeaeapopfcmbaaGreatW.PrintLast Go.Proofs.YtmeaeapopfcmbaaGreatW.PrintMore PP
set_option linter.unusedVariables false
set_option linter.unusedSimpArgs false
set_option maxHeartbeats 4000000
set_option maxRecDepth 100000
theorem chg_below {w w' : World} {m : Nat} (h : Chg w.heap.size (· = m) w w') {B : Nat} (hm : B ≤ m) (hB : B ≤ w.heap.size) : Below B w w' := h.fresh hB fun k e => by omega
theorem ofsD (n hi : Int) (w : World) : Calls Tryz.prog 52 #[.int .i64 n, .int .i64 hi] w fun e w' => e = .returned (.bool (inR 0 hi n)) ∧ ∃ m, w' = w.drewN m :=
  (replica_upto.calls n hi (inR 0 hi n) w (by unfold replica_upto.f inR; by_cases h : 0 ≤ n <;> simp [h])).mono fun e w' h => ⟨h.1, h.2.out⟩
theorem countD (n : Int) (w : World) : Calls Tryz.prog 105 #[.int .i64 n] w fun e w' => e = .returned (.bool (inR 1 MC n)) ∧ ∃ m, w' = w.drewN m :=
  (replica_count.calls n (inR 1 MC n) w (by unfold replica_count.f inR MC; by_cases h : 1 ≤ n <;> simp [h])).mono fun e w' h => ⟨h.1, h.2.out⟩
theorem chg_drewN {B : Nat} {D : Nat → Prop} {a w : World} (h : Chg B D a w) (n : Nat) : Chg B D a (w.drewN n) := h.trans (.of (below_drewN (Below.refl _ _) n))
theorem MapIs.drewN {α β : Type} {C : MK Tryz.prog α β} {w : World} {b : Nat} {L : List (α × β)} (h : MapIs C w b L) (n : Nat) : MapIs C (w.drewN n) b L := h.below (below_drewN (Below.refl (w.heap.size) _) n) h.lt
theorem see3_run (w : World) (kc k mt mn mw : Nat) (s : List Int) (T : List (S97 × S99)) (N : List (Int × S102)) (Y : List (S131 × Int)) (n : S102) (hk : w.heap[kc]? = some (.cells #[.pointer (some ⟨k, 0, none⟩)] 84 (0, 0))) (h : KnowAt w k mt mn mw s T N Y) (hl : N.length < 9223372036854775807) (hx : okI n.f0) :
    Calls Tryz.prog 103 #[vN n, .pointer (some ⟨kc, 0, none⟩)] w fun e w' => e = .returned (.bool (noteB n)) ∧ MapIs CN w' mn (tput cmpN N n.f0 n) ∧ Chg w.heap.size (· = mn) w w' := by
  obtain ⟨n0, n1, n2, n3⟩ := n
  have LT := Hd.mk (show kc < w.heap.size from (Array.getElem?_eq_some_iff.1 hk).1)
  have BX : Below w.heap.size w (w.alloc (.cells #[.int .i64 n0, .string n1, .int .i64 n2, .int .i64 n3] 102)) := below_alloc (Below.refl _ _) _
  have hk1 := (BX.block kc LT.out).trans hk
  have h1 := h.below BX
  have q0 : (w.alloc (.cells #[.int .i64 n0, .string n1, .int .i64 n2, .int .i64 n3] 102)).cell? _ = some (.pointer (some ⟨k, 0, none⟩)) := cell_of hk1 0 rfl
  have q1 := h1.cn
  have q2 := h1.cnf
  have HP := Hd.mk (putN_run (w.alloc (.cells #[.int .i64 n0, .string n1, .int .i64 n2, .int .i64 n3] 102)).drew mn N n0 ⟨n0, n1, n2, n3⟩ hx (h1.n.below (Below.drew (Below.refl _ _)) h1.n.lt) hl)
  have XB := Hd.mk (alloc_at w (.cells #[.int .i64 n0, .string n1, .int .i64 n2, .int .i64 n3] 102) _ rfl)
  have BXh := Hd.mk BX
  have MLT := Hd.mk h.n.lt
  clear hk h hl hx hk1 h1 BX
  show Calls Tryz.prog 103 #[.agg #[.int .i64 n0, .string n1, .int .i64 n2, .int .i64 n3], _] w fun e w' => e = .returned (.bool (inR 0 63 n0 && decide (n1.size ≤ 32) && inR 1 MC n2 && inR 0 7 n3)) ∧ _ ∧ _
  go_enter Tryz.func103, Tryz.ntmps103
  go_wp2_with fail
  refine wp_region_still_tail 7 (by kernel_rfl) (by kernel_rfl) ?_
  change wpStill _ _ (World.drew _) _ _ _
  simp only [List.take_succ_cons, List.take_zero, List.drop_succ_cons, List.drop_zero]
  repeat still_step
  refine wpStill_nil ?_
  change wpList _ _ _ _ _ (World.drew _)
  go_wp2_with fail
  refine HP.out.mono ?_
  rintro e w2 ⟨rfl, hm, hc⟩
  have XC := (hc.block w.heap.size (by simp [World.drew]) (by have := MLT.out; omega)).trans XB.out
  have x0 : w2.cell? _ = some (.int .i64 n0) := cell_of XC 0 rfl
  have x1 : w2.cell? _ = some (.string n1) := cell_of XC 1 rfl
  have x2 : w2.cell? _ = some (.int .i64 n2) := cell_of XC 2 rfl
  have x3 : w2.cell? _ = some (.int .i64 n3) := cell_of XC 3 rfl
  have CC := Hd.mk (show Chg w.heap.size (· = mn) w w2 from (Chg.of BXh.out.drew).trans (hc.mono (by simp [World.drew]) fun _ _ e => e))
  have MM := Hd.mk hm
  clear hm hc XC q0 q1 q2
  go_wp2_with fail
  refine (ofsD n0 63 _).mono ?_
  rintro e w3 ⟨rfl, m3, rfl⟩
  cases g1 : inR 0 63 n0 with
  | false =>
    go_wp2_with fail
    go_ret
    exact ⟨by simp [g1], MM.out.drewN _, chg_drewN CC.out _⟩
  | true =>
    by_cases g2 : (n1.size : Int) ≤ 32
    · have e2 := Hd.mk (decide_eq_true (show n1.size ≤ 32 by omega))
      go_wp2_with fail
      refine (countD n2 _).mono ?_
      rintro e w4 ⟨rfl, m4, rfl⟩
      cases g3 : inR 1 MC n2 with
      | false =>
        go_wp2_with fail
        go_ret
        exact ⟨by simp [e2.out, g1, g3], MM.out.drewN _, chg_drewN CC.out _⟩
      | true =>
        go_wp2_with fail
        refine (ofsD n3 7 _).mono ?_
        rintro e w5 ⟨rfl, m5, rfl⟩
        go_wp2_with fail
        go_ret
        exact ⟨by simp [e2.out, g1, g3], MM.out.drewN _, chg_drewN CC.out _⟩
    · have e2 := Hd.mk (decide_eq_false (show ¬ n1.size ≤ 32 by omega))
      go_wp2_with fail
      go_ret
      exact ⟨by simp [e2.out, g1], MM.out.drewN _, chg_drewN CC.out _⟩
theorem see5_run (w : World) (kc k mt mn mw : Nat) (s : List Int) (T : List (S97 × S99)) (N : List (Int × S102)) (Y : List (S131 × Int)) (n : S108) (hk : w.heap[kc]? = some (.cells #[.pointer (some ⟨k, 0, none⟩)] 84 (0, 0))) (h : KnowAt w k mt mn mw s T N Y) (hl : Y.length < 9223372036854775807) (hx : okW (wayR n).1) :
    Calls Tryz.prog 108 #[vR n, .pointer (some ⟨kc, 0, none⟩)] w fun e w' => e = .returned (.bool (rightB n)) ∧ MapIs CW w' mw (tput cmpI Y (wayR n).1 (wayR n).2) ∧ Chg w.heap.size (· = mw) w w' := by
  obtain ⟨n0, n1, n2, n3⟩ := n
  have LT := Hd.mk (show kc < w.heap.size from (Array.getElem?_eq_some_iff.1 hk).1)
  have BX : Below w.heap.size w (w.alloc (.cells #[.int .i64 n0, .int .i64 n1, .int .i64 n2, .int .i64 n3] 108)) := below_alloc (Below.refl _ _) _
  have hk1 := (BX.block kc LT.out).trans hk
  have h1 := h.below BX
  have q0 : (w.alloc (.cells #[.int .i64 n0, .int .i64 n1, .int .i64 n2, .int .i64 n3] 108)).cell? _ = some (.pointer (some ⟨k, 0, none⟩)) := cell_of hk1 0 rfl
  have q1 := h1.cw
  have q2 := h1.cwf
  have HP := Hd.mk (putW_run (w.alloc (.cells #[.int .i64 n0, .int .i64 n1, .int .i64 n2, .int .i64 n3] 108)).drew mw Y (⟨n0, n1, n2⟩ : S131) n3 hx (h1.y.below (Below.drew (Below.refl _ _)) h1.y.lt) hl)
  have XB := Hd.mk (alloc_at w (.cells #[.int .i64 n0, .int .i64 n1, .int .i64 n2, .int .i64 n3] 108) _ rfl)
  have BXh := Hd.mk BX
  have MLT := Hd.mk h.y.lt
  clear hk h hl hx hk1 h1 BX
  show Calls Tryz.prog 108 #[.agg #[.int .i64 n0, .int .i64 n1, .int .i64 n2, .int .i64 n3], _] w fun e w' => e = .returned (.bool (inR 0 7 n0 && inR 0 7 n1 && inR 0 7 n2 && inR 1 MC n3)) ∧ _ ∧ _
  go_enter Tryz.func108, Tryz.ntmps108
  go_wp2_with fail
  refine wp_region_still_tail 13 (by kernel_rfl) (by kernel_rfl) ?_
  change wpStill _ _ (World.drew _) _ _ _
  simp only [List.take_succ_cons, List.take_zero, List.drop_succ_cons, List.drop_zero]
  repeat still_step
  refine wpStill_nil ?_
  change wpList _ _ _ _ _ (World.drew _)
  go_wp2_with fail
  refine HP.out.mono ?_
  rintro e w2 ⟨rfl, hm, hc⟩
  have XC := (hc.block w.heap.size (by simp [World.drew]) (by have := MLT.out; omega)).trans XB.out
  have x0 : w2.cell? _ = some (.int .i64 n0) := cell_of XC 0 rfl
  have x1 : w2.cell? _ = some (.int .i64 n1) := cell_of XC 1 rfl
  have x2 : w2.cell? _ = some (.int .i64 n2) := cell_of XC 2 rfl
  have x3 : w2.cell? _ = some (.int .i64 n3) := cell_of XC 3 rfl
  have CC := Hd.mk (show Chg w.heap.size (· = mw) w w2 from (Chg.of BXh.out.drew).trans (hc.mono (by simp [World.drew]) fun _ _ e => e))
  have MM := Hd.mk hm
  clear hm hc XC q0 q1 q2
  go_wp2_with fail
  refine (ofsD n0 7 _).mono ?_
  rintro e w3 ⟨rfl, m3, rfl⟩
  cases g0 : inR 0 7 n0 with
  | false =>
    go_wp2_with fail
    go_ret
    exact ⟨by simp [g0], MM.out.drewN _, chg_drewN CC.out _⟩
  | true =>
    go_wp2_with fail
    refine (ofsD n1 7 _).mono ?_
    rintro e w4 ⟨rfl, m4, rfl⟩
    cases g1 : inR 0 7 n1 with
    | false =>
      go_wp2_with fail
      go_ret
      exact ⟨by simp [g0, g1], MM.out.drewN _, chg_drewN CC.out _⟩
    | true =>
      go_wp2_with fail
      refine (ofsD n2 7 _).mono ?_
      rintro e w5 ⟨rfl, m5, rfl⟩
      cases g2 : inR 0 7 n2 with
      | false =>
        go_wp2_with fail
        go_ret
        exact ⟨by simp [g0, g1, g2], MM.out.drewN _, chg_drewN CC.out _⟩
      | true =>
        go_wp2_with fail
        refine (countD n3 _).mono ?_
        rintro e w6 ⟨rfl, m6, rfl⟩
        go_wp2_with fail
        go_ret
        exact ⟨by simp [g0, g1, g2], MM.out.drewN _, chg_drewN CC.out _⟩
theorem see6_run (w : World) (kc k mt mn mw : Nat) (s : List Int) (T : List (S97 × S99)) (N : List (Int × S102)) (Y : List (S131 × Int)) (n : S111) (hk : w.heap[kc]? = some (.cells #[.pointer (some ⟨k, 0, none⟩)] 84 (0, 0))) (h : KnowAt w k mt mn mw s T N Y) (hl : Y.length < 9223372036854775807) (hx : okW (wayU n).1) :
    Calls Tryz.prog 112 #[vU n, .pointer (some ⟨kc, 0, none⟩)] w fun e w' => e = .returned (.bool (usedB n)) ∧ MapIs CW w' mw (tput cmpI Y (wayU n).1 (wayU n).2) ∧ Chg w.heap.size (· = mw) w w' := by
  obtain ⟨n0, n1, n2⟩ := n
  have LT := Hd.mk (show kc < w.heap.size from (Array.getElem?_eq_some_iff.1 hk).1)
  have BX : Below w.heap.size w (w.alloc (.cells #[.int .i64 n0, .int .i64 n1, .int .i64 n2] 111)) := below_alloc (Below.refl _ _) _
  have hk1 := (BX.block kc LT.out).trans hk
  have h1 := h.below BX
  have q0 : (w.alloc (.cells #[.int .i64 n0, .int .i64 n1, .int .i64 n2] 111)).cell? _ = some (.pointer (some ⟨k, 0, none⟩)) := cell_of hk1 0 rfl
  have q1 := h1.cw
  have q2 := h1.cwf
  have HP := Hd.mk (putW_run (w.alloc (.cells #[.int .i64 n0, .int .i64 n1, .int .i64 n2] 111)).drew mw Y (⟨n0, n1, -1⟩ : S131) n2 hx (h1.y.below (Below.drew (Below.refl _ _)) h1.y.lt) hl)
  have XB := Hd.mk (alloc_at w (.cells #[.int .i64 n0, .int .i64 n1, .int .i64 n2] 111) _ rfl)
  have BXh := Hd.mk BX
  have MLT := Hd.mk h.y.lt
  clear hk h hl hx hk1 h1 BX
  show Calls Tryz.prog 112 #[.agg #[.int .i64 n0, .int .i64 n1, .int .i64 n2], _] w fun e w' => e = .returned (.bool (inR 0 7 n0 && inR 0 7 n1 && inR 1 MC n2)) ∧ _ ∧ _
  go_enter Tryz.func112, Tryz.ntmps112
  go_wp2_with fail
  refine wp_region_still_tail 11 (by kernel_rfl) (by kernel_rfl) ?_
  change wpStill _ _ (World.drew _) _ _ _
  simp only [List.take_succ_cons, List.take_zero, List.drop_succ_cons, List.drop_zero]
  repeat still_step
  refine wpStill_nil ?_
  change wpList _ _ _ _ _ (World.drew _)
  go_wp2_with fail
  refine HP.out.mono ?_
  rintro e w2 ⟨rfl, hm, hc⟩
  have XC := (hc.block w.heap.size (by simp [World.drew]) (by have := MLT.out; omega)).trans XB.out
  have x0 : w2.cell? _ = some (.int .i64 n0) := cell_of XC 0 rfl
  have x1 : w2.cell? _ = some (.int .i64 n1) := cell_of XC 1 rfl
  have x2 : w2.cell? _ = some (.int .i64 n2) := cell_of XC 2 rfl
  have CC := Hd.mk (show Chg w.heap.size (· = mw) w w2 from (Chg.of BXh.out.drew).trans (hc.mono (by simp [World.drew]) fun _ _ e => e))
  have MM := Hd.mk hm
  clear hm hc XC q0 q1 q2
  go_wp2_with fail
  refine (ofsD n0 7 _).mono ?_
  rintro e w3 ⟨rfl, m3, rfl⟩
  cases g0 : inR 0 7 n0 with
  | false =>
    go_wp2_with fail
    go_ret
    exact ⟨by simp [g0], MM.out.drewN _, chg_drewN CC.out _⟩
  | true =>
    go_wp2_with fail
    refine (ofsD n1 7 _).mono ?_
    rintro e w4 ⟨rfl, m4, rfl⟩
    cases g1 : inR 0 7 n1 with
    | false =>
      go_wp2_with fail
      go_ret
      exact ⟨by simp [g0, g1], MM.out.drewN _, chg_drewN CC.out _⟩
    | true =>
      go_wp2_with fail
      refine (countD n2 _).mono ?_
      rintro e w5 ⟨rfl, m5, rfl⟩
      go_wp2_with fail
      go_ret
      exact ⟨by simp [g0, g1], MM.out.drewN _, chg_drewN CC.out _⟩
end Go.Proofs.YtmeaeapopfcmbaaGreat

namespace Go.Proofs.YtmeaeapopfcmbaaGreat
open Go.RowKit Go.Proofs.YtmeaeapopfcmbaaGreatW.PrintWords Go.Proofs.YtmeaeapopfcmbaaGreatW.PrintLast Go.Proofs.YtmeaeapopfcmbaaGreatW.PrintMore PP
set_option linter.unusedVariables false
set_option linter.unusedSimpArgs false
set_option maxHeartbeats 4000000
set_option maxRecDepth 100000
theorem wp_region_class {P : Program} {C : World → Prop} {id : Nat} {Q : Exit → Go.Act → World → Prop} {a : Go.Act} {w : World} {l : List Oper} (hm : P.follows .mixedOrders = true) (hB : Region.lexB .any l.toArray = true) (hC : C w.drew)
    (h : wpQuiet P l.toArray C (fun a' => ∀ w', C w' → Q .normal a' w') l a) : (Code.region id l.toArray true).wp P Q a w :=
  wp_region_quiet (C := C) hm hB hC (by simpa using h)
theorem MapIs.ne {α β : Type} {C : MK Tryz.prog α β} {w : World} {m b : Nat} {L : List (α × β)} (h : MapIs C w m L) {cs : Array Value} {t : Nat} {z : Nat × Nat} (hb : w.heap[b]? = some (.cells cs t z)) : b ≠ m := by
  rintro rfl
  obtain ⟨es, ⟨E, clock, h0, _⟩, _⟩ := h
  rw [h0] at hb
  exact absurd hb (by simp)
theorem turned_block {w w' : World} {m : Nat} (h : w.mapTurned w' m) {b : Nat} (hb : b ≠ m) : w'.heap[b]? = w.heap[b]? := by
  obtain ⟨es, clock, es', clock', h0, rfl⟩ := h
  exact Go.ChangeMaps.heap_setBlock_other h0 _ hb
section
variable {w w' : World} {k mt mn mw : Nat} {s : List Int} {T T' : List (S97 × S99)} {N N' : List (Int × S102)} {Y Y' : List (S131 × Int)}
theorem KnowAt.kt (h : KnowAt w k mt mn mw s T N Y) : k ≠ mt ∧ k ≠ mn ∧ k ≠ mw := ⟨h.t.ne h.blk, h.n.ne h.blk, h.y.ne h.blk⟩
theorem KnowAt.chgT (h : KnowAt w k mt mn mw s T N Y) (hm : MapIs CT w' mt T') (ht : ∀ i, i = k ∨ i = mn ∨ i = mw → w'.heap[i]? = w.heap[i]?) : KnowAt w' k mt mn mw s T' N Y :=
  ⟨h.len, (ht k (.inl rfl)).trans h.blk, hm, h.n.at (ht mn (.inr (.inl rfl))), h.y.at (ht mw (.inr (.inr rfl))), h.tn, h.tw, h.nw⟩
theorem KnowAt.chgN (h : KnowAt w k mt mn mw s T N Y) (hm : MapIs CN w' mn N') (ht : ∀ i, i = k ∨ i = mt ∨ i = mw → w'.heap[i]? = w.heap[i]?) : KnowAt w' k mt mn mw s T N' Y :=
  ⟨h.len, (ht k (.inl rfl)).trans h.blk, h.t.at (ht mt (.inr (.inl rfl))), hm, h.y.at (ht mw (.inr (.inr rfl))), h.tn, h.tw, h.nw⟩
theorem KnowAt.chgY (h : KnowAt w k mt mn mw s T N Y) (hm : MapIs CW w' mw Y') (ht : ∀ i, i = k ∨ i = mt ∨ i = mn → w'.heap[i]? = w.heap[i]?) : KnowAt w' k mt mn mw s T N Y' :=
  ⟨h.len, (ht k (.inl rfl)).trans h.blk, h.t.at (ht mt (.inr (.inl rfl))), h.n.at (ht mn (.inr (.inr rfl))), hm, h.tn, h.tw, h.nw⟩
theorem KnowAt.turnT (h : KnowAt w k mt mn mw s T N Y) (hm : MapIs CT w' mt T') (ht : w.mapTurned w' mt) : KnowAt w' k mt mn mw s T' N Y :=
  h.chgT hm fun i hi => turned_block ht (by rcases hi with rfl | rfl | rfl <;> first | exact h.kt.1 | exact h.tn.symm | exact h.tw.symm)
end
/-- What read's closure looks at. -/
structure Sees (w : World) (kc k mt mn mw : Nat) (s : List Int) (T : List (S97 × S99)) (N : List (Int × S102)) (Y : List (S131 × Int)) (t : S99) (W : World) : Prop where
  hk : W.heap[kc]? = some (.cells #[.pointer (some ⟨k, 0, none⟩)] 84 (0, 0))
  kn : KnowAt W k mt mn mw s T N Y
  bx : W.heap[w.heap.size]? = some (.cells #[.int .i64 t.f0, .string t.f1, .int .i64 t.f2.f0, .int .i64 t.f2.f1] 99 (0, 0))
  cg : Chg w.heap.size (· = mt) w W
section
variable {w W W' : World} {kc k mt mn mw : Nat} {s : List Int} {T : List (S97 × S99)} {N : List (Int × S102)} {Y : List (S131 × Int)} {t : S99}
theorem Sees.below (h : Sees w kc k mt mn mw s T N Y t W) (hb : Below W.heap.size W W') : Sees w kc k mt mn mw s T N Y t W' :=
  ⟨(hb.block _ (Array.getElem?_eq_some_iff.1 h.hk).1).trans h.hk, h.kn.below hb, (hb.block _ (Array.getElem?_eq_some_iff.1 h.bx).1).trans h.bx, h.cg.below_step hb (Nat.le_refl _)⟩
theorem Sees.drewN (h : Sees w kc k mt mn mw s T N Y t W) (n : Nat) : Sees w kc k mt mn mw s T N Y t (W.drewN n) := h.below (below_drewN (Below.refl _ _) n)
theorem Sees.drew (h : Sees w kc k mt mn mw s T N Y t W) : Sees w kc k mt mn mw s T N Y t W.drew := h.below (Below.drew (Below.refl _ _))
theorem Sees.c (h : Sees w kc k mt mn mw s T N Y t W) : W.cell? ⟨kc, 0, none⟩ = some (.pointer (some ⟨k, 0, none⟩)) := cell_of h.hk 0 rfl
theorem Sees.x0 (h : Sees w kc k mt mn mw s T N Y t W) : W.cell? ⟨w.heap.size, 0, none⟩ = some (.int .i64 t.f0) := cell_of h.bx 0 rfl
theorem Sees.x1 (h : Sees w kc k mt mn mw s T N Y t W) : W.cell? ⟨w.heap.size, 1, none⟩ = some (.string t.f1) := cell_of h.bx 1 rfl
theorem Sees.x2 (h : Sees w kc k mt mn mw s T N Y t W) : W.cell? ⟨w.heap.size, 2, none⟩ = some (.int .i64 t.f2.f0) := cell_of h.bx 2 rfl
theorem Sees.x3 (h : Sees w kc k mt mn mw s T N Y t W) : W.cell? ⟨w.heap.size, 3, none⟩ = some (.int .i64 t.f2.f1) := cell_of h.bx 3 rfl
theorem Sees.turn {T' : List (S97 × S99)} (h : Sees w kc k mt mn mw s T N Y t W) (hm : MapIs CT W' mt T') (ht : W.mapTurned W' mt) : Sees w kc k mt mn mw s T' N Y t W' :=
  ⟨(turned_block ht (h.kn.t.ne h.hk)).trans h.hk, h.kn.turnT hm ht, (turned_block ht (h.kn.t.ne h.bx)).trans h.bx, h.cg.turned ht h.cg.size (fun _ => rfl)⟩
end
theorem see2_run (w : World) (kc k mt mn mw : Nat) (s : List Int) (T : List (S97 × S99)) (N : List (Int × S102)) (Y : List (S131 × Int)) (t : S99) (hk : w.heap[kc]? = some (.cells #[.pointer (some ⟨k, 0, none⟩)] 84 (0, 0))) (h : KnowAt w k mt mn mw s T N Y) (hl : T.length < 9223372036854775807) (hx : okD t.f2) :
    Calls Tryz.prog 99 #[vT t, .pointer (some ⟨kc, 0, none⟩)] w fun e w' => e = .returned (.bool ((mget T t.f2).isNone && tagB s t)) ∧ MapIs CT w' mt (mput T t.f2 t) ∧ Chg w.heap.size (· = mt) w w' := by
  obtain ⟨t0, t1, d0, d1⟩ := t
  have LT := Hd.mk (show kc < w.heap.size from (Array.getElem?_eq_some_iff.1 hk).1)
  have BX : Below w.heap.size w (w.alloc (.cells #[.int .i64 t0, .string t1, .int .i64 d0, .int .i64 d1] 99)) := below_alloc (Below.refl _ _) _
  have hk1 := (BX.block kc LT.out).trans hk
  have h1 := h.below BX
  have q0 : (w.alloc (.cells #[.int .i64 t0, .string t1, .int .i64 d0, .int .i64 d1] 99)).cell? _ = some (.pointer (some ⟨k, 0, none⟩)) := cell_of hk1 0 rfl
  have q1 := h1.ct
  have XB := Hd.mk (alloc_at w (.cells #[.int .i64 t0, .string t1, .int .i64 d0, .int .i64 d1] 99) _ rfl)
  have BXh := Hd.mk BX
  have lk := (h1.t.below (Below.drew (Below.refl _ _)) h1.t.lt).look_ok hx
  have BZ : Below w.heap.size w ((w.alloc (.cells #[.int .i64 t0, .string t1, .int .i64 d0, .int .i64 d1] 99)).alloc (.cells #[.int .i64 0, .string ⟨#[]⟩, .int .i64 0, .int .i64 0] 99)) := below_alloc BX _
  have hk2 := (BZ.block kc LT.out).trans hk
  have h2 := h.below BZ
  have q2 : ((w.alloc (.cells #[.int .i64 t0, .string t1, .int .i64 d0, .int .i64 d1] 99)).alloc (.cells #[.int .i64 0, .string ⟨#[]⟩, .int .i64 0, .int .i64 0] 99)).cell? _ = some (.pointer (some ⟨k, 0, none⟩)) := cell_of hk2 0 rfl
  have q3 := h2.ct
  have lk2 := (h2.t.below (Below.drew (Below.refl _ _)) h2.t.lt).look_ok hx
  have KA := Hd.mk h1
  have KB := Hd.mk hk1
  have OKD := Hd.mk hx
  have HL := Hd.mk hl
  clear hk h hl hx hk1 h1 BX BZ hk2 h2
  generalize hq : mget T (⟨d0, d1⟩ : S97) = g at lk lk2
  have HG := Hd.mk hq
  clear hq
  generalize hz : g.getD CT.z = z at lk lk2
  obtain ⟨z0, z1, z2, z3⟩ := z
  change (Instr.lookup 119 _ (.agg #[.int .i64 d0, .int .i64 d1]) true).run _ _ = .ok (.tuple #[.agg #[.int .i64 z0, .string z1, .int .i64 z2, .int .i64 z3], .bool g.isSome]) _ at lk
  change (Instr.lookup 119 _ (.agg #[.int .i64 d0, .int .i64 d1]) true).run _ _ = .ok (.tuple #[.agg #[.int .i64 z0, .string z1, .int .i64 z2, .int .i64 z3], .bool g.isSome]) _ at lk2
  generalize hi : g.isSome = gi at lk lk2
  clear hz
  have HT : (g.isNone && tagB s ⟨t0, t1, d0, d1⟩) = (!gi && (inR 0 63 t0 && nameB t1 && inR 0 7 d0 && decide (1 ≤ d1) && decide (d1 ≤ sget s d0))) := by
    rw [← hi]
    cases g <;> rfl
  show Calls Tryz.prog 99 #[.agg #[.int .i64 t0, .string t1, .int .i64 d0, .int .i64 d1], _] w fun e w' => e = .returned (.bool (g.isNone && tagB s ⟨t0, t1, d0, d1⟩)) ∧ MapIs CT w' mt (mput T (⟨d0, d1⟩ : S97) ⟨t0, t1, d0, d1⟩) ∧ Chg w.heap.size (· = mt) w w'
  rw [HT]
  clear HT
  generalize hTT : mput T (⟨d0, d1⟩ : S97) ⟨t0, t1, d0, d1⟩ = T'
  have HTT := Hd.mk hTT
  clear hTT
  go_enter Tryz.func99, Tryz.ntmps99
  go_wp2_with fail
  have S3 := Hd.mk (show Sees w kc k mt mn mw s T N Y ⟨t0, t1, d0, d1⟩ ((w.alloc (.cells #[.int .i64 t0, .string t1, .int .i64 d0, .int .i64 d1] 99)).alloc (.cells #[.int .i64 z0, .string z1, .int .i64 z2, .int .i64 z3] 99)).drew from
    Sees.drew ⟨(Below.heap_alloc _ _ _ (by have := LT.out; simp; omega)).trans KB.out, KA.out.below (below_alloc (Below.refl _ _) _), (Below.heap_alloc _ _ _ (by simp)).trans XB.out, (Chg.of (below_alloc BXh.out _))⟩)
  go_cut [5] from 4 to 15 (fun v5 wc => v5 = .bool gi ∧ Hd (Sees w kc k mt mn mw s T N Y ⟨t0, t1, d0, d1⟩ wc))
  case first =>
    go_region
    all_goals (go_wp2_with fail; go_meet; exact ⟨rfl, S3⟩)
  case rest =>
  clear S3 q0 q1 q2 q3 lk lk2
  obtain ⟨rfl, S3⟩ := hcut
  have p0 := S3.out.c
  have p1 := S3.out.kn.ct
  have x0 := S3.out.x0
  have x1 := S3.out.x1
  have x2 := S3.out.x2
  have x3 := S3.out.x3
  simp only at x0 x1 x2 x3
  go_wp2_with fail
  refine wp_region_still_tail 7 (by kernel_rfl) (by kernel_rfl) ?_
  change wpStill _ _ (World.drew _) _ _ _
  simp only [List.take_succ_cons, List.take_zero, List.drop_succ_cons, List.drop_zero]
  repeat still_step
  refine wpStill_nil ?_
  change wpList _ _ _ _ _ (World.drew _)
  go_wp2_with (at_mapUpdate; refine wpL_mput _ CT rfl _ _ _ rfl mt T (⟨d0, d1⟩ : S97) (⟨t0, t1, d0, d1⟩ : S99) OKD.out rfl rfl rfl S3.out.drew.kn.t HL.out ?_; intro w4 hm4 ht4; rw [HTT.out] at hm4; have M4 := Hd.mk hm4; have T4 := Hd.mk ht4; clear hm4 ht4)
  simp only [Act.put]
  have S4 := Hd.mk (S3.out.drew.turn M4.out T4.out)
  clear p0 p1 x0 x1 x2 x3 T4 M4 S3
  have UA : Hd (∀ W, Sees w kc k mt mn mw s T' N Y ⟨t0, t1, d0, d1⟩ W → Calls Tryz.prog 52 #[.int .i64 t0, .int .i64 63] W fun e w' => e = .returned (.bool (inR 0 63 t0)) ∧ Sees w kc k mt mn mw s T' N Y ⟨t0, t1, d0, d1⟩ w') := ⟨fun W h => (ofsD t0 63 W).mono fun e w' hh => ⟨hh.1, by obtain ⟨_, m, rfl⟩ := hh; exact h.drewN m⟩⟩
  have UB : Hd (∀ W, Sees w kc k mt mn mw s T' N Y ⟨t0, t1, d0, d1⟩ W → Calls Tryz.prog 65 #[.string t1] W fun e w' => e = .returned (.bool (nameB t1)) ∧ Sees w kc k mt mn mw s T' N Y ⟨t0, t1, d0, d1⟩ w') := ⟨fun W h => (name_run t1 W).mono fun e w' hh => ⟨hh.1, h.below hh.2⟩⟩
  have UC : Hd (∀ W, Sees w kc k mt mn mw s T' N Y ⟨t0, t1, d0, d1⟩ W → Calls Tryz.prog 52 #[.int .i64 d0, .int .i64 7] W fun e w' => e = .returned (.bool (inR 0 7 d0)) ∧ Sees w kc k mt mn mw s T' N Y ⟨t0, t1, d0, d1⟩ w') := ⟨fun W h => (ofsD d0 7 W).mono fun e w' hh => ⟨hh.1, by obtain ⟨_, m, rfl⟩ := hh; exact h.drewN m⟩⟩
  generalize hc0 : inR 0 63 t0 = c0 at UA
  generalize hc1 : nameB t1 = c1 at UB
  generalize hc2 : inR 0 7 d0 = c2 at UC
  have H0 := Hd.mk hc0
  have H1 := Hd.mk hc1
  have H2 := Hd.mk hc2
  clear hc0 hc1 hc2
  cases gi with
  | true =>
    refine wp_region_class (C := fun W => Sees w kc k mt mn mw s T' N Y ⟨t0, t1, d0, d1⟩ W) (by kernel_rfl) (by kernel_rfl) S4.out.drew ?_
    repeat (first
      | go_big_quiet_skip
      | (go_big_quiet_want; go_big_quiet_op; first
        | go_big_quiet_on
        | (refine ⟨_, fun _ _ => by with_reducible rfl, ?_⟩; go_big_quiet_on)
        | (apply Exists.intro
           refine ⟨fun W hW => ?_, ?_⟩
           · first
             | (go_at_call 65; exact UB.out W hW)
             | (go_at_call 52; with_reducible exact UA.out W hW)
             | (go_at_call 52; with_reducible exact UC.out W hW)
             | (have z0 := hW.c; have z1 := hW.x0; have z2 := hW.x1; have z3 := hW.x2; have z4 := hW.x3; simp only at z1 z2 z3 z4; go_simp; first | done | rfl)
           go_big_quiet_on)))
    refine wpQuiet_nil ?_
    intro W hW
    have HW := Hd.mk hW
    clear hW
    go_wp2_with fail
    go_ret
    exact ⟨by first | rfl | simp [H0.out, H1.out, H2.out], HW.out.kn.t, HW.out.cg⟩
  | false =>
    cases c0 with
    | false =>
      refine wp_region_class (C := fun W => Sees w kc k mt mn mw s T' N Y ⟨t0, t1, d0, d1⟩ W) (by kernel_rfl) (by kernel_rfl) S4.out.drew ?_
      repeat (first
        | go_big_quiet_skip
        | (go_big_quiet_want; go_big_quiet_op; first
          | go_big_quiet_on
          | (refine ⟨_, fun _ _ => by with_reducible rfl, ?_⟩; go_big_quiet_on)
          | (apply Exists.intro
             refine ⟨fun W hW => ?_, ?_⟩
             · first
               | (go_at_call 65; exact UB.out W hW)
               | (go_at_call 52; with_reducible exact UA.out W hW)
               | (go_at_call 52; with_reducible exact UC.out W hW)
               | (have z0 := hW.c; have z1 := hW.x0; have z2 := hW.x1; have z3 := hW.x2; have z4 := hW.x3; simp only at z1 z2 z3 z4; go_simp; first | done | rfl)
             go_big_quiet_on)))
      refine wpQuiet_nil ?_
      intro W hW
      have HW := Hd.mk hW
      clear hW
      go_wp2_with fail
      go_ret
      exact ⟨by first | rfl | simp [H0.out, H1.out, H2.out], HW.out.kn.t, HW.out.cg⟩
    | true =>
      cases c1 with
      | false =>
        refine wp_region_class (C := fun W => Sees w kc k mt mn mw s T' N Y ⟨t0, t1, d0, d1⟩ W) (by kernel_rfl) (by kernel_rfl) S4.out.drew ?_
        repeat (first
          | go_big_quiet_skip
          | (go_big_quiet_want; go_big_quiet_op; first
            | go_big_quiet_on
            | (refine ⟨_, fun _ _ => by with_reducible rfl, ?_⟩; go_big_quiet_on)
            | (apply Exists.intro
               refine ⟨fun W hW => ?_, ?_⟩
               · first
                 | (go_at_call 65; exact UB.out W hW)
                 | (go_at_call 52; with_reducible exact UA.out W hW)
                 | (go_at_call 52; with_reducible exact UC.out W hW)
                 | (have z0 := hW.c; have z1 := hW.x0; have z2 := hW.x1; have z3 := hW.x2; have z4 := hW.x3; simp only at z1 z2 z3 z4; go_simp; first | done | rfl)
               go_big_quiet_on)))
        refine wpQuiet_nil ?_
        intro W hW
        have HW := Hd.mk hW
        clear hW
        go_wp2_with fail
        go_ret
        exact ⟨by first | rfl | simp [H0.out, H1.out, H2.out], HW.out.kn.t, HW.out.cg⟩
      | true =>
        cases c2 with
        | false =>
          refine wp_region_class (C := fun W => Sees w kc k mt mn mw s T' N Y ⟨t0, t1, d0, d1⟩ W) (by kernel_rfl) (by kernel_rfl) S4.out.drew ?_
          repeat (first
            | go_big_quiet_skip
            | (go_big_quiet_want; go_big_quiet_op; first
              | go_big_quiet_on
              | (refine ⟨_, fun _ _ => by with_reducible rfl, ?_⟩; go_big_quiet_on)
              | (apply Exists.intro
                 refine ⟨fun W hW => ?_, ?_⟩
                 · first
                   | (go_at_call 65; exact UB.out W hW)
                   | (go_at_call 52; with_reducible exact UA.out W hW)
                   | (go_at_call 52; with_reducible exact UC.out W hW)
                   | (have z0 := hW.c; have z1 := hW.x0; have z2 := hW.x1; have z3 := hW.x2; have z4 := hW.x3; simp only at z1 z2 z3 z4; go_simp; first | done | rfl)
                 go_big_quiet_on)))
          refine wpQuiet_nil ?_
          intro W hW
          have HW := Hd.mk hW
          clear hW
          go_wp2_with fail
          go_ret
          exact ⟨by first | rfl | simp [H0.out, H1.out, H2.out], HW.out.kn.t, HW.out.cg⟩
        | true =>
          obtain ⟨i0, i7⟩ := inR_iff.1 H2.out
          have SN : Hd (∀ W, Sees w kc k mt mn mw s T' N Y ⟨t0, t1, d0, d1⟩ W → W.cell? ⟨k, d0.toNat, none⟩ = some (.int .i64 (sget s d0))) := ⟨fun W h => h.kn.seen d0.toNat (by omega)⟩
          by_cases i1 : 1 ≤ d1
          · have i1' : decide (1 ≤ d1) = true := decide_eq_true i1
            refine wp_region_class (C := fun W => Sees w kc k mt mn mw s T' N Y ⟨t0, t1, d0, d1⟩ W) (by kernel_rfl) (by kernel_rfl) S4.out.drew ?_
            repeat (first
              | go_big_quiet_skip
              | (go_big_quiet_want; go_big_quiet_op; first
                | go_big_quiet_on
                | (refine ⟨_, fun _ _ => by with_reducible rfl, ?_⟩; go_big_quiet_on)
                | (apply Exists.intro
                   refine ⟨fun W hW => ?_, ?_⟩
                   · first
                     | (go_at_call 65; exact UB.out W hW)
                     | (go_at_call 52; with_reducible exact UA.out W hW)
                     | (go_at_call 52; with_reducible exact UC.out W hW)
                     | (have z0 := hW.c; have z1 := hW.x0; have z2 := hW.x1; have z3 := hW.x2; have z4 := hW.x3; have z5 := SN.out W hW; simp only at z1 z2 z3 z4; go_simp; first | done | rfl)
                   go_big_quiet_on)))
            refine wpQuiet_nil ?_
            intro W hW
            have HW := Hd.mk hW
            clear hW
            go_wp2_with fail
            go_ret
            exact ⟨by first | rfl | simp [H0.out, H1.out, H2.out, i1'], HW.out.kn.t, HW.out.cg⟩
          · have i1' : decide (1 ≤ d1) = false := decide_eq_false i1
            refine wp_region_class (C := fun W => Sees w kc k mt mn mw s T' N Y ⟨t0, t1, d0, d1⟩ W) (by kernel_rfl) (by kernel_rfl) S4.out.drew ?_
            repeat (first
              | go_big_quiet_skip
              | (go_big_quiet_want; go_big_quiet_op; first
                | go_big_quiet_on
                | (refine ⟨_, fun _ _ => by with_reducible rfl, ?_⟩; go_big_quiet_on)
                | (apply Exists.intro
                   refine ⟨fun W hW => ?_, ?_⟩
                   · first
                     | (go_at_call 65; exact UB.out W hW)
                     | (go_at_call 52; with_reducible exact UA.out W hW)
                     | (go_at_call 52; with_reducible exact UC.out W hW)
                     | (have z0 := hW.c; have z1 := hW.x0; have z2 := hW.x1; have z3 := hW.x2; have z4 := hW.x3; have z5 := SN.out W hW; simp only at z1 z2 z3 z4; go_simp; first | done | rfl)
                   go_big_quiet_on)))
            refine wpQuiet_nil ?_
            intro W hW
            have HW := Hd.mk hW
            clear hW
            go_wp2_with fail
            go_ret
            exact ⟨by first | rfl | simp [H0.out, H1.out, H2.out, i1'], HW.out.kn.t, HW.out.cg⟩
end Go.Proofs.YtmeaeapopfcmbaaGreat
