/- A group of replicas in memory; begun. No conditions. -/
import Derived.Test.YtmeaeapopfcmbaaGreatB44
import Derived.Deep.AppendLies
import Derived.Deep.RegionHeld3
namespace Go.Proofs.YtmeaeapopfcmbaaGreat
open Go.RowKit Go.Proofs.YtmeaeapopfcmbaaGreatW.PrintWords Go.Proofs.YtmeaeapopfcmbaaGreatW.PrintLast Go.Proofs.YtmeaeapopfcmbaaGreatW.PrintMore PP
set_option linter.unusedVariables false
set_option linter.unusedSimpArgs false
set_option maxHeartbeats 4000000
set_option maxRecDepth 100000
/-- A pointer to a block. -/
def kP : Kd Nat := Kd.scalar (fun x => Value.pointer (some ⟨x, 0, none⟩)) (fun _ => rfl)
/-- append at a step of a region that draws its order. -/
theorem step_R_append {P : Program} {α : Type} (d : Kd α) {W : World} {ops : Array Oper} {o : Oper} {a : Act} {K : Act → World → Prop} {Q : Exit → Act → World → Prop} {E : Prop} (base : Nat) (hgd : o.guard = none) (s x : Operand) (t e : TypeId) (z : Value) (bytes : Nat)
    (ho : o.op = .call { callee := .builtin .append, args := #[s, x], argTypes := #[t, t] })
    (ht : P.underlying t = some (.slice e)) (hinfo : (P.info? e).map (fun i => (i.zero, i.size, i.bytes)) = some (some z, d.sz, bytes)) (hz : z.cells.size = d.sz) (hs0 : 0 < d.sz) (hb0 : 0 < bytes)
    (v : Value) (xs : List α) (p : α) (cs : List Value) (B : Nat) (ok okp : Nat → Prop) (hs : a.eval s = v) (hx : a.eval x = .slice (some ⟨B, 0, none⟩) 1 1) (hB : W.heap[B]? = some (.cells cs.toArray e (0, 0))) (hp : d.M W base okp p cs) (hokp : ∀ k, okp k → ok k ∧ some k ≠ v.ownBlock) (hfresh : ∀ k, W.heap.size ≤ k → ok k)
    (HO : d.R e W base ok v xs) (hbase : base ≤ W.heap.size) (hl : (xs.length + 1) * bytes ≤ 140737488355328)
    (h : ∀ g cap w1, d.R e w1 base ok (.slice (some ⟨g, 0, none⟩) (xs.length + 1) cap) (xs ++ [p]) → W.grownBy w1 v.ownBlock → (v.ownBlock = some g ∨ g = W.heap.size) → g < w1.heap.size → K (a.put o.dst (.slice (some ⟨g, 0, none⟩) (xs.length + 1) cap)) w1) :
    if Region.wanted o (yielded ops a.tmps) = true then Oper.wp P o a W K Q else E := by
  obtain ⟨h0, inner, hown, hr⟩ := HO
  obtain ⟨i0, hi, hzz⟩ := Option.map_eq_some_iff.1 hinfo
  simp only [Prod.mk.injEq] at hzz
  obtain ⟨hz0, hz1, hz2⟩ := hzz
  have hlen : xs.length + 1 ≤ 140737488355328 := Nat.le_trans (Nat.le_mul_of_pos_right _ hb0) hl
  have hK := d.K_of_M hp
  refine step_append_lies W hgd s x t ho base e i0 z d.sz bytes ht hi hz0 hz1 hz2 hz hs0 v xs.length inner hs hown ⟨B, 0, none⟩ 1 1 cs hx (by rw [d.K_len hK]; simp) (by simpa using World.news_of_block (cs := cs.toArray) hB) (d.K_one hK) (by omega) (by simp only [maxLen]; omega) hl hbase W.heap.size rfl ?_
  intro g cap w1 hown1 hg1 hat hlt
  exact h g cap w1 (Kd.R_appended h0 hr hp hokp hfresh hown1 hg1 (by
    rcases hat with hat | hat
    · exact .inl (by rw [hat]; rfl)
    · exact .inr ⟨g, rfl, by omega⟩)) hg1 hat hlt
/-- The cells of a group. -/
def gC (lv hv : Value) (md tk : List Int) : Array Value := ([lv, hv] ++ (md.map (Value.int .i64) ++ tk.map (Value.int .i64))).toArray
/-- A group of n replicas at block g, of which the list L is told; H: all states that any of them had; made and taken. -/
structure GrpX (w0 w : World) (g n : Nat) (r : Nat → Nat) (S : Nat → S28) (F : Nat → Nat → Prop) (L : List Nat) (H : List S28) (md tk : List Int) (lv hv : Value) : Prop where
  many : Many w0.heap.size w n r (fun i => (i : Int)) S F
  glo : w0.heap.size ≤ g
  gF : ∀ i, i < n → ¬ F i g
  blk : w.heap[g]? = some (.cells (gC lv hv md tk) 66 (0, 0))
  l : Kd.R kP 32 w w0.heap.size (fun x => ∀ i, i < n → ¬ F i x) lv L
  h : Kd.R k28 28 w w0.heap.size (fun x => ∀ i, i < n → ¬ F i x) hv H
  ml : md.length = 8
  tl : tk.length = 8
  base : Below w0.heap.size w0 w
theorem Many.frame {base : Nat} {w w' : World} {n : Nat} {r : Nat → Nat} {o : Nat → Int} {S : Nat → S28} {F : Nat → Nat → Prop} {G : Nat → Prop} (h : Many base w n r o S F) (hc : Chg w.heap.size G w w') (hd : ∀ i, i < n → ∀ x, F i x → ¬ G x) : Many base w' n r o S F :=
  ⟨fun i hi => (h.rep i hi).frame hc (hd i hi), h.ne, h.lo⟩
theorem chg_grown {w w' : World} {B : Nat} {row : Option Nat} (hg : w.grownBy w' row) : Chg w.heap.size (fun k => some k = row) w w' :=
  ⟨hg.os, hg.tape, hg.output, hg.size, fun k hk hn => hg.block k hk hn⟩
theorem StR.m {b base : Nat} {W : World} {v0 v1 v2 v3 v4 : Value} {S : S28} (h : StR b W v0 v1 v2 v3 v4 S) (hb : base ≤ b) : k28.M W base (fun k => b ≤ k) S [v0, v1, v2, v3, v4] :=
  k28_mkM _ _ _ _ (Kd.R_lower (Kd.R_mono (Kd.R_bound h.r0) fun k hk => hk.2.1) hb) (Kd.R_lower (Kd.R_mono (Kd.R_bound h.r1) fun k hk => hk.2.1) hb) (Kd.R_lower (Kd.R_mono (Kd.R_bound h.r2) fun k hk => hk.2.1) hb) (Kd.R_lower (Kd.R_mono (Kd.R_bound h.r3) fun k hk => hk.2.1) hb) (Kd.R_lower (Kd.R_mono (Kd.R_bound h.r4) fun k hk => hk.2.1) hb)
section
variable {w0 w w' : World} {g n : Nat} {r : Nat → Nat} {S : Nat → S28} {F : Nat → Nat → Prop} {L : List Nat} {H : List S28} {md tk : List Int} {lv hv : Value}
theorem GrpX.lt (h : GrpX w0 w g n r S F L H md tk lv hv) : g < w.heap.size := (Array.getElem?_eq_some_iff.1 h.blk).1
theorem GrpX.below (h : GrpX w0 w g n r S F L H md tk lv hv) (hb : Below w.heap.size w w') : GrpX w0 w' g n r S F L H md tk lv hv :=
  ⟨h.many.below hb, h.glo, h.gF, (hb.block _ h.lt).trans h.blk, Kd.R_below h.l hb, Kd.R_below h.h hb, h.ml, h.tl, h.base.trans (hb.mono h.base.size)⟩
theorem GrpX.after (h : GrpX w0 w g n r S F L H md tk lv hv) {i : Nat} (hi : i < n) {S' : S28} (hl : Left w w' (r i) (i : Int) S' (F i)) : GrpX w0 w' g n r (updN S i S') (updN F i (FG (F i) w w')) L H md tk lv hv := by
  have up : ∀ x, x < w.heap.size → (∀ j, j < n → ¬ F j x) → ∀ j, j < n → ¬ updN F i (FG (F i) w w') j x := by
    intro x hx hj j hjn
    unfold updN
    split
    · rintro (h4 | h4)
      · exact hj i hi h4
      · omega
    · exact hj j hjn
  refine ⟨h.many.after h.base.size hi hl, h.glo, fun j hj => up g h.lt h.gF j hj, (hl.chg.block _ h.lt (h.gF i hi)).trans h.blk, ?_, ?_, h.ml, h.tl, h.base.trans (h.many.fresh (Nat.le_refl _) h.base.size hi hl)⟩
  · exact Kd.R_mono (Kd.R_step (Kd.R_bound h.l) fun k hk hk2 => hl.chg.block k hk2 (hk.1 i hi)) fun k hk => up k hk.2.2.1 hk.1
  · exact Kd.R_mono (Kd.R_step (Kd.R_bound h.h) fun k hk hk2 => hl.chg.block k hk2 (hk.1 i hi)) fun k hk => up k hk.2.2.1 hk.1
/-- One more replica, not yet in the list. -/
theorem GrpX.more (h : GrpX w0 w g n r S F L H md tk lv hv) (hb : Below w.heap.size w w') {q : Nat} {Sq : S28} (hq : RepF w' q (n : Int) Sq (fun i => w.heap.size ≤ i ∧ i < w'.heap.size)) : GrpX w0 w' g (n + 1) (updN r n q) (updN S n Sq) (updN F n (fun i => w.heap.size ≤ i ∧ i < w'.heap.size)) L H md tk lv hv := by
  have up : ∀ x, x < w.heap.size → (∀ j, j < n → ¬ F j x) → ∀ j, j < n + 1 → ¬ updN F n (fun i => w.heap.size ≤ i ∧ i < w'.heap.size) j x := by
    intro x hx hj j hjn
    unfold updN
    split
    · rintro h4
      omega
    · exact hj j (by omega)
  have e : updN (fun i : Nat => (i : Int)) n (n : Int) = fun i : Nat => (i : Int) := by
    funext j
    unfold updN
    split
    · rename_i h; rw [h]
    · rfl
  refine ⟨e ▸ h.many.more hb h.base.size hq, h.glo, fun j hj => up g h.lt h.gF j hj, (hb.block _ h.lt).trans h.blk, ?_, ?_, h.ml, h.tl, h.base.trans (hb.mono h.base.size)⟩
  · exact Kd.R_mono (Kd.R_below (Kd.R_bound h.l) hb) fun k hk => up k hk.2.2.1 hk.1
  · exact Kd.R_mono (Kd.R_below (Kd.R_bound h.h) hb) fun k hk => up k hk.2.2.1 hk.1
theorem GrpX.lh (h : GrpX w0 w g n r S F L H md tk lv hv) : Kd.R k28 28 w w0.heap.size (fun x => (∀ i, i < n → ¬ F i x) ∧ some x ≠ lv.ownBlock) hv H := by
  cases e : lv.ownBlock with
  | none => exact Kd.R_mono h.h fun k hk => ⟨hk, by simp⟩
  | some k =>
    obtain ⟨cells, hc⟩ := R_block h.l e
    exact Kd.R_mono (Kd.R_types h.h hc (by decide)) fun x hx => ⟨hx.1, by simp [hx.2]⟩
theorem GrpX.hl (h : GrpX w0 w g n r S F L H md tk lv hv) : Kd.R kP 32 w w0.heap.size (fun x => (∀ i, i < n → ¬ F i x) ∧ some x ≠ hv.ownBlock) lv L := by
  cases e : hv.ownBlock with
  | none => exact Kd.R_mono h.l fun k hk => ⟨hk, by simp⟩
  | some k =>
    obtain ⟨cells, hc⟩ := R_block h.h e
    exact Kd.R_mono (Kd.R_types h.l hc (by decide)) fun x hx => ⟨hx.1, by simp [hx.2]⟩
theorem GrpX.gl (h : GrpX w0 w g n r S F L H md tk lv hv) : some g ≠ lv.ownBlock := Kd.R_ne h.l h.blk (by decide)
theorem GrpX.gh (h : GrpX w0 w g n r S F L H md tk lv hv) : some g ≠ hv.ownBlock := Kd.R_ne h.h h.blk (by decide)
/-- A store into the group's block. -/
theorem GrpX.store (h : GrpX w0 w g n r S F L H md tk lv hv) {i : Nat} {v lv' hv' : Value} {md' tk' : List Int} (hc : (gC lv hv md tk).setIfInBounds i v = gC lv' hv' md' tk') (hl : Kd.R kP 32 w w0.heap.size (fun x => ∀ i, i < n → ¬ F i x) lv' L) (hh : Kd.R k28 28 w w0.heap.size (fun x => ∀ i, i < n → ¬ F i x) hv' H) (hm : md'.length = 8) (ht : tk'.length = 8) : GrpX w0 (w.setCell ⟨g, i, none⟩ v) g n r S F L H md' tk' lv' hv' := by
  have e := heap_setCell_same w g i _ 66 v h.blk
  rw [hc] at e
  have hch : Chg w.heap.size (fun k => k = g) w (w.setCell ⟨g, i, none⟩ v) := ⟨rfl, rfl, rfl, by simp [World.setCell], fun k hk hn => Below.heap_setCell w _ v k hn⟩
  refine ⟨h.many.frame hch (fun i hi x hx e => h.gF i hi (e ▸ hx)), h.glo, h.gF, e, ?_, ?_, hm, ht, h.base.setCell (p := ⟨g, i, none⟩) h.glo _⟩
  · exact Kd.R_mono (Kd.R_far (Kd.R_types hl h.blk (by decide)) (fun k hk => hk.2) v) fun k hk => hk.1
  · exact Kd.R_mono (Kd.R_far (Kd.R_types hh h.blk (by decide)) (fun k hk => hk.2) v) fun k hk => hk.1
/-- The list has grown. -/
theorem GrpX.setL (h : GrpX w0 w g n r S F L H md tk lv hv) {v1 : Value} {L' : List Nat} (hg : w.grownBy w' lv.ownBlock) (hR : Kd.R kP 32 w' w0.heap.size (fun x => ∀ i, i < n → ¬ F i x) v1 L') : GrpX w0 (w'.setCell ⟨g, 0, none⟩ v1) g n r S F L' H md tk v1 hv := by
  have hb : w'.heap[g]? = some (.cells (gC lv hv md tk) 66 (0, 0)) := (hg.block g h.lt h.gl).trans h.blk
  have hm : Many w0.heap.size w' n r (fun i => (i : Int)) S F := h.many.frame (chg_grown (B := 0) hg) fun i hi x hx e => h.l.1 x e.symm i hi hx
  have hH : Kd.R k28 28 w' w0.heap.size (fun x => ∀ i, i < n → ¬ F i x) hv H := Kd.R_mono (Kd.R_grown h.lh hg fun k hk => hk.2) fun k hk => hk.1
  have hB : Below w0.heap.size w0 w' := h.base.grown hg h.base.size fun k hk => by
    obtain ⟨inner, ho⟩ := Kd.R_own h.l
    exact own_base ho k hk
  have e := heap_setCell_same w' g 0 _ 66 v1 hb
  have hch : Chg w'.heap.size (fun k => k = g) w' (w'.setCell ⟨g, 0, none⟩ v1) := ⟨rfl, rfl, rfl, by simp [World.setCell], fun k hk hn => Below.heap_setCell w' _ v1 k hn⟩
  refine ⟨hm.frame hch (fun i hi x hx e => h.gF i hi (e ▸ hx)), h.glo, h.gF, e, ?_, ?_, h.ml, h.tl, hB.setCell (p := ⟨g, 0, none⟩) h.glo _⟩
  · exact Kd.R_mono (Kd.R_far (Kd.R_types hR hb (by decide)) (fun k hk => hk.2) v1) fun k hk => hk.1
  · exact Kd.R_mono (Kd.R_far (Kd.R_types hH hb (by decide)) (fun k hk => hk.2) v1) fun k hk => hk.1
/-- The states have grown. -/
theorem GrpX.setH (h : GrpX w0 w g n r S F L H md tk lv hv) {v1 : Value} {H' : List S28} (hg : w.grownBy w' hv.ownBlock) (hR : Kd.R k28 28 w' w0.heap.size (fun x => ∀ i, i < n → ¬ F i x) v1 H') : GrpX w0 (w'.setCell ⟨g, 1, none⟩ v1) g n r S F L H' md tk lv v1 := by
  have hb : w'.heap[g]? = some (.cells (gC lv hv md tk) 66 (0, 0)) := (hg.block g h.lt h.gh).trans h.blk
  have hm : Many w0.heap.size w' n r (fun i => (i : Int)) S F := h.many.frame (chg_grown (B := 0) hg) fun i hi x hx e => h.h.1 x e.symm i hi hx
  have hL : Kd.R kP 32 w' w0.heap.size (fun x => ∀ i, i < n → ¬ F i x) lv L := Kd.R_mono (Kd.R_grown h.hl hg fun k hk => hk.2) fun k hk => hk.1
  have hB : Below w0.heap.size w0 w' := h.base.grown hg h.base.size fun k hk => by
    obtain ⟨inner, ho⟩ := Kd.R_own h.h
    exact own_base ho k hk
  have e := heap_setCell_same w' g 1 _ 66 v1 hb
  have hch : Chg w'.heap.size (fun k => k = g) w' (w'.setCell ⟨g, 1, none⟩ v1) := ⟨rfl, rfl, rfl, by simp [World.setCell], fun k hk hn => Below.heap_setCell w' _ v1 k hn⟩
  refine ⟨hm.frame hch (fun i hi x hx e => h.gF i hi (e ▸ hx)), h.glo, h.gF, e, ?_, ?_, h.ml, h.tl, hB.setCell (p := ⟨g, 1, none⟩) h.glo _⟩
  · exact Kd.R_mono (Kd.R_far (Kd.R_types hL hb (by decide)) (fun k hk => hk.2) v1) fun k hk => hk.1
  · exact Kd.R_mono (Kd.R_far (Kd.R_types hR hb (by decide)) (fun k hk => hk.2) v1) fun k hk => hk.1
end
theorem GrpX.okp {w0 w : World} {g n : Nat} {r : Nat → Nat} {S : Nat → S28} {F : Nat → Nat → Prop} {L : List Nat} {H : List S28} {md tk : List Int} {lv hv : Value} (h : GrpX w0 w g n r S F L H md tk lv hv) : ∀ k, w.heap.size ≤ k → (∀ j, j < n → ¬ F j k) ∧ some k ≠ hv.ownBlock := by
  intro k hk
  refine ⟨fun j hj hF => by have := (h.many.rep j hj).lt k hF; omega, fun e => ?_⟩
  obtain ⟨inner, ho⟩ := Kd.R_own h.h
  have := own_lt ho k e.symm
  omega
theorem GrpX.fresh {w0 w : World} {g n : Nat} {r : Nat → Nat} {S : Nat → S28} {F : Nat → Nat → Prop} {L : List Nat} {H : List S28} {md tk : List Int} {lv hv : Value} (h : GrpX w0 w g n r S F L H md tk lv hv) : ∀ k, w.heap.size ≤ k → ∀ j, j < n → ¬ F j k := fun k hk => (h.okp k hk).1
theorem info32 : (Tryz.prog.info? 32).map (fun i => (i.zero, i.size, i.bytes)) = some (some (.pointer none), 1, 8) := by kernel_rfl
theorem info28 : (Tryz.prog.info? 28).map (fun i => (i.zero, i.size, i.bytes)) = some (some (.agg #[.slice none 0 0, .slice none 0 0, .slice none 0 0, .slice none 0 0, .slice none 0 0]), 5, 120) := by kernel_rfl
theorem grp_new {w w' : World} (hw : w' = w.alloc (.cells (gC (.slice none 0 0) (.slice none 0 0) zeros8 zeros8) 66)) : GrpX w w' w.heap.size 0 (fun _ => 0) (fun _ => emptyS) (fun _ _ => False) [] [] zeros8 zeros8 (.slice none 0 0) (.slice none 0 0) := by
  subst hw
  exact ⟨⟨fun i hi => absurd hi (Nat.not_lt_zero _), fun i j hi => absurd hi (Nat.not_lt_zero _), fun i hi => absurd hi (Nat.not_lt_zero _)⟩, Nat.le_refl _, fun i hi => absurd hi (Nat.not_lt_zero _), alloc_at _ _ _ rfl, Kd.R_nil _ _ _ _ _, Kd.R_nil _ _ _ _ _, rfl, rfl, below_alloc (Below.refl _ _) _⟩
end Go.Proofs.YtmeaeapopfcmbaaGreat
