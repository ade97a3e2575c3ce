/- A group beside a list of states of its own. No conditions. -/
import Derived.Test.YtmeaeapopfcmbaaGreatB50
import Derived.Test.YtmeaeapopfcmbaaGreatP13
namespace Go.Proofs.YtmeaeapopfcmbaaGreat
open Go.RowKit Go.Proofs.YtmeaeapopfcmbaaGreatW.PrintWords Go.Proofs.YtmeaeapopfcmbaaGreatW.PrintLast Go.Proofs.YtmeaeapopfcmbaaGreatW.PrintMore PP
set_option linter.unusedVariables false
set_option linter.unusedSimpArgs false
set_option maxHeartbeats 4000000
set_option maxRecDepth 100000
/-- A group of n replicas at block g, told without the states that they had; beside it a list of states. -/
structure GrpM (w0 w : World) (g n : Nat) (r : Nat → Nat) (S : Nat → S28) (F : Nat → Nat → Prop) (L : List Nat) (md tk : List Int) (lv hv tv : Value) (T : List S28) : Prop where
  many : Many w0.heap.size w n r (fun i => (i : Int)) S F
  glo : w0.heap.size ≤ g
  gF : ∀ i, i < n → ¬ F i g
  blk : w.heap[g]? = some (.cells (gC lv hv md tk) 66 (0, 0))
  l : Kd.R kP 32 w w0.heap.size (fun x => ∀ i, i < n → ¬ F i x) lv L
  t : Kd.R k28 28 w w0.heap.size (fun x => ∀ i, i < n → ¬ F i x) tv T
  base : Below w0.heap.size w0 w
section
variable {w0 w w' : World} {g n : Nat} {r : Nat → Nat} {S : Nat → S28} {F : Nat → Nat → Prop} {L : List Nat} {md tk : List Int} {lv hv tv : Value} {T : List S28}
theorem GrpX.m {H : List S28} (h : GrpX w0 w g n r S F L H md tk lv hv) : GrpM w0 w g n r S F L md tk lv hv (.slice none 0 0) [] := ⟨h.many, h.glo, h.gF, h.blk, h.l, Kd.R_nil _ _ _ _ _, h.base⟩
theorem GrpM.lt (h : GrpM w0 w g n r S F L md tk lv hv tv T) : g < w.heap.size := (Array.getElem?_eq_some_iff.1 h.blk).1
theorem GrpM.below (h : GrpM w0 w g n r S F L md tk lv hv tv T) (hb : Below w.heap.size w w') : GrpM w0 w' g n r S F L md tk lv hv tv T :=
  ⟨h.many.below hb, h.glo, h.gF, (hb.block _ h.lt).trans h.blk, Kd.R_below h.l hb, Kd.R_below h.t hb, h.base.trans (hb.mono h.base.size)⟩
theorem GrpM.after (h : GrpM w0 w g n r S F L md tk lv hv tv T) {i : Nat} (hi : i < n) {S' : S28} (hl : Left w w' (r i) (i : Int) S' (F i)) : GrpM w0 w' g n r (updN S i S') (updN F i (FG (F i) w w')) L md tk lv hv tv T := by
  have up : ∀ x, x < w.heap.size → (∀ j, j < n → ¬ F j x) → ∀ j, j < n → ¬ updN F i (FG (F i) w w') j x := by
    intro x hx hj j hjn
    unfold updN
    split
    · rintro (h4 | h4)
      · exact hj i hi h4
      · omega
    · exact hj j hjn
  refine ⟨h.many.after h.base.size hi hl, h.glo, fun j hj => up g h.lt h.gF j hj, (hl.chg.block _ h.lt (h.gF i hi)).trans h.blk, ?_, ?_, h.base.trans (h.many.fresh (Nat.le_refl _) h.base.size hi hl)⟩
  · exact Kd.R_mono (Kd.R_step (Kd.R_bound h.l) fun k hk hk2 => hl.chg.block k hk2 (hk.1 i hi)) fun k hk => up k hk.2.2.1 hk.1
  · exact Kd.R_mono (Kd.R_step (Kd.R_bound h.t) fun k hk hk2 => hl.chg.block k hk2 (hk.1 i hi)) fun k hk => up k hk.2.2.1 hk.1
theorem GrpM.fresh (h : GrpM w0 w g n r S F L md tk lv hv tv T) : ∀ k, w.heap.size ≤ k → ∀ j, j < n → ¬ F j k := fun k hk j hj hF => by have := (h.many.rep j hj).lt k hF; omega
theorem GrpM.tl (h : GrpM w0 w g n r S F L md tk lv hv tv T) : ∀ k, w.heap.size ≤ k → some k ≠ tv.ownBlock := by
  intro k hk e
  obtain ⟨inner, ho⟩ := Kd.R_own h.t
  have := own_lt ho k e.symm
  omega
theorem GrpM.gt (h : GrpM w0 w g n r S F L md tk lv hv tv T) : some g ≠ tv.ownBlock := Kd.R_ne h.t h.blk (by decide)
/-- The list of states has grown. -/
theorem GrpM.app (h : GrpM w0 w g n r S F L md tk lv hv tv T) (hg : w.grownBy w' tv.ownBlock) {v1 : Value} {T' : List S28} (hR : Kd.R k28 28 w' w0.heap.size (fun x => ∀ i, i < n → ¬ F i x) v1 T') : GrpM w0 w' g n r S F L md tk lv hv v1 T' := by
  refine ⟨h.many.frame (chg_grown (B := 0) hg) fun i hi x hx e => h.t.1 x e.symm i hi hx, h.glo, h.gF, (hg.block g h.lt h.gt).trans h.blk, ?_, hR, h.base.grown hg h.base.size fun k hk => ?_⟩
  · cases e : tv.ownBlock with
    | none => exact Kd.R_step h.l fun k hk hlt => hg.block k hlt (by rw [e]; simp)
    | some q =>
      obtain ⟨cells, hc⟩ := R_block h.t e
      exact Kd.R_mono (Kd.R_step (Kd.R_types h.l hc (by decide)) fun k hk hlt => hg.block k hlt (by rw [e]; intro hh; injection hh with hh; exact hk.2 hh)) fun k hk => hk.1
  · obtain ⟨inner, ho⟩ := Kd.R_own h.t
    exact own_base ho k hk
end
end Go.Proofs.YtmeaeapopfcmbaaGreat
