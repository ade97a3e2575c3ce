/- A group and blocks that it leaves alone. No conditions. -/
import Derived.Test.YtmeaeapopfcmbaaGreatB48
namespace Go.Proofs.YtmeaeapopfcmbaaGreat
open Go.RowKit Go.Proofs.YtmeaeapopfcmbaaGreatW.PrintWords Go.Proofs.YtmeaeapopfcmbaaGreatW.PrintLast Go.Proofs.YtmeaeapopfcmbaaGreatW.PrintMore PP
set_option linter.unusedVariables false
set_option linter.unusedSimpArgs false
set_option maxHeartbeats 4000000
set_option maxRecDepth 100000
/-- A world, blocks that nobody else touches, and what they hold. -/
structure Frm where
  w : World
  K : Nat → Prop
  C : Nat → Option Obj
abbrev Frm.heap (f : Frm) := f.w.heap
structure GrpK (w0 : Frm) (w : World) (g n : Nat) (r : Nat → Nat) (S : Nat → S28) (F : Nat → Nat → Prop) (L : List Nat) (H : List S28) (md tk : List Int) (lv hv : Value) : Prop where
  x : GrpX w0.w w g n r S F L H md tk lv hv
  kp : ∀ x, w0.K x → w.heap[x]? = w0.C x
  kl : ∀ x, w0.K x → x < w.heap.size
  kF : ∀ x, w0.K x → ∀ i, i < n → ¬ F i x
  kg : ¬ w0.K g
  l : Kd.R kP 32 w w0.w.heap.size (fun x => (∀ i, i < n → ¬ F i x) ∧ ¬ w0.K x) lv L
  h : Kd.R k28 28 w w0.w.heap.size (fun x => (∀ i, i < n → ¬ F i x) ∧ ¬ w0.K x) hv H
section
variable {w0 : Frm} {w w' : World} {g n : Nat} {r : Nat → Nat} {S : Nat → S28} {F : Nat → Nat → Prop} {L : List Nat} {H : List S28} {md tk : List Int} {lv hv : Value}
theorem GrpK.many (h : GrpK w0 w g n r S F L H md tk lv hv) : Many w0.w.heap.size w n r (fun i => (i : Int)) S F := h.x.many
theorem GrpK.glo (h : GrpK w0 w g n r S F L H md tk lv hv) : w0.w.heap.size ≤ g := h.x.glo
theorem GrpK.gF (h : GrpK w0 w g n r S F L H md tk lv hv) : ∀ i, i < n → ¬ F i g := h.x.gF
theorem GrpK.blk (h : GrpK w0 w g n r S F L H md tk lv hv) : w.heap[g]? = some (.cells (gC lv hv md tk) 66 (0, 0)) := h.x.blk
theorem GrpK.ml (h : GrpK w0 w g n r S F L H md tk lv hv) : md.length = 8 := h.x.ml
theorem GrpK.tl (h : GrpK w0 w g n r S F L H md tk lv hv) : tk.length = 8 := h.x.tl
theorem GrpK.base (h : GrpK w0 w g n r S F L H md tk lv hv) : Below w0.w.heap.size w0.w w := h.x.base
theorem GrpK.lt (h : GrpK w0 w g n r S F L H md tk lv hv) : g < w.heap.size := h.x.lt
theorem GrpK.below (h : GrpK w0 w g n r S F L H md tk lv hv) (hb : Below w.heap.size w w') : GrpK w0 w' g n r S F L H md tk lv hv :=
  ⟨h.x.below hb, fun x hx => (hb.block x (h.kl x hx)).trans (h.kp x hx), fun x hx => Nat.lt_of_lt_of_le (h.kl x hx) hb.size, h.kF, h.kg, Kd.R_below h.l hb, Kd.R_below h.h hb⟩
theorem GrpK.after (h : GrpK w0 w g n r S F L H md tk lv hv) {i : Nat} (hi : i < n) {S' : S28} (hl : Left w w' (r i) (i : Int) S' (F i)) : GrpK w0 w' g n r (updN S i S') (updN F i (FG (F i) w w')) L H md tk lv hv := by
  have up : ∀ x, x < w.heap.size → (∀ j, j < n → ¬ F j x) → ∀ j, j < n → ¬ updN F i (FG (F i) w w') j x := by
    intro x hx hj j hjn
    unfold updN
    split
    · rintro (h4 | h4)
      · exact hj i hi h4
      · omega
    · exact hj j hjn
  refine ⟨h.x.after hi hl, fun x hx => (hl.chg.block x (h.kl x hx) (h.kF x hx i hi)).trans (h.kp x hx), fun x hx => Nat.lt_of_lt_of_le (h.kl x hx) hl.chg.size, fun x hx => up x (h.kl x hx) (h.kF x hx), h.kg, ?_, ?_⟩
  · exact Kd.R_mono (Kd.R_step (Kd.R_bound h.l) fun k hk hk2 => hl.chg.block k hk2 (hk.1.1 i hi)) fun k hk => ⟨up k hk.2.2.1 hk.1.1, hk.1.2⟩
  · exact Kd.R_mono (Kd.R_step (Kd.R_bound h.h) fun k hk hk2 => hl.chg.block k hk2 (hk.1.1 i hi)) fun k hk => ⟨up k hk.2.2.1 hk.1.1, hk.1.2⟩
theorem GrpK.lh (h : GrpK w0 w g n r S F L H md tk lv hv) : Kd.R k28 28 w w0.w.heap.size (fun x => ((∀ i, i < n → ¬ F i x) ∧ ¬ w0.K x) ∧ some x ≠ lv.ownBlock) hv H := by
  cases e : lv.ownBlock with
  | none => exact Kd.R_mono h.h fun k hk => ⟨hk, by simp⟩
  | some k =>
    obtain ⟨cells, hc⟩ := R_block h.l e
    exact Kd.R_mono (Kd.R_types h.h hc (by decide)) fun x hx => ⟨hx.1, by simp [hx.2]⟩
theorem GrpK.hl (h : GrpK w0 w g n r S F L H md tk lv hv) : Kd.R kP 32 w w0.w.heap.size (fun x => ((∀ i, i < n → ¬ F i x) ∧ ¬ w0.K x) ∧ some x ≠ hv.ownBlock) lv L := by
  cases e : hv.ownBlock with
  | none => exact Kd.R_mono h.l fun k hk => ⟨hk, by simp⟩
  | some k =>
    obtain ⟨cells, hc⟩ := R_block h.h e
    exact Kd.R_mono (Kd.R_types h.l hc (by decide)) fun x hx => ⟨hx.1, by simp [hx.2]⟩
theorem GrpK.gh (h : GrpK w0 w g n r S F L H md tk lv hv) : some g ≠ hv.ownBlock := h.x.gh
theorem GrpK.store (h : GrpK w0 w g n r S F L H md tk lv hv) {i : Nat} {v lv' hv' : Value} {md' tk' : List Int} (hc : (gC lv hv md tk).setIfInBounds i v = gC lv' hv' md' tk') (hl : Kd.R kP 32 w w0.w.heap.size (fun x => (∀ i, i < n → ¬ F i x) ∧ ¬ w0.K x) lv' L) (hh : Kd.R k28 28 w w0.w.heap.size (fun x => (∀ i, i < n → ¬ F i x) ∧ ¬ w0.K x) hv' H) (hm : md'.length = 8) (ht : tk'.length = 8) : GrpK w0 (w.setCell ⟨g, i, none⟩ v) g n r S F L H md' tk' lv' hv' := by
  refine ⟨h.x.store hc (Kd.R_mono hl fun k hk => hk.1) (Kd.R_mono hh fun k hk => hk.1) hm ht, fun x hx => (Below.heap_setCell w _ v x (fun e => h.kg (by have e' : x = g := e; rw [← e']; exact hx))).trans (h.kp x hx), fun x hx => by have := h.kl x hx; simpa [World.setCell] using this, h.kF, h.kg, ?_, ?_⟩
  · exact Kd.R_mono (Kd.R_far (Kd.R_types hl h.blk (by decide)) (fun k hk => hk.2) v) fun k hk => hk.1
  · exact Kd.R_mono (Kd.R_far (Kd.R_types hh h.blk (by decide)) (fun k hk => hk.2) v) fun k hk => hk.1
theorem GrpK.setH (h : GrpK w0 w g n r S F L H md tk lv hv) {v1 : Value} {H' : List S28} (hg : w.grownBy w' hv.ownBlock) (hR : Kd.R k28 28 w' w0.w.heap.size (fun x => (∀ i, i < n → ¬ F i x) ∧ ¬ w0.K x) v1 H') : GrpK w0 (w'.setCell ⟨g, 1, none⟩ v1) g n r S F L H' md tk lv v1 := by
  have hb : w'.heap[g]? = some (.cells (gC lv hv md tk) 66 (0, 0)) := (hg.block g h.lt h.gh).trans h.blk
  have hL : Kd.R kP 32 w' w0.w.heap.size (fun x => (∀ i, i < n → ¬ F i x) ∧ ¬ w0.K x) lv L := Kd.R_mono (Kd.R_grown h.hl hg fun k hk => hk.2) fun k hk => hk.1
  have hk : ∀ x, w0.K x → w'.heap[x]? = w.heap[x]? := fun x hx => hg.block x (h.kl x hx) fun e => (h.h.1 x e.symm).2 hx
  refine ⟨h.x.setH hg (Kd.R_mono hR fun k hk => hk.1), fun x hx => (Below.heap_setCell w' _ v1 x (fun e => h.kg (by have e' : x = g := e; rw [← e']; exact hx))).trans ((hk x hx).trans (h.kp x hx)), fun x hx => by have h1 := h.kl x hx; have h2 := hg.size; simp [World.setCell]; omega, h.kF, h.kg, ?_, ?_⟩
  · exact Kd.R_mono (Kd.R_far (Kd.R_types hL hb (by decide)) (fun k hk => hk.2) v1) fun k hk => hk.1
  · exact Kd.R_mono (Kd.R_far (Kd.R_types hR hb (by decide)) (fun k hk => hk.2) v1) fun k hk => hk.1
theorem GrpK.okp (h : GrpK w0 w g n r S F L H md tk lv hv) : ∀ k, w.heap.size ≤ k → ((∀ j, j < n → ¬ F j k) ∧ ¬ w0.K k) ∧ some k ≠ hv.ownBlock := fun k hk => ⟨⟨(h.x.okp k hk).1, fun e => by have := h.kl k e; omega⟩, (h.x.okp k hk).2⟩
theorem GrpK.okl (h : GrpK w0 w g n r S F L H md tk lv hv) : ∀ k, w.heap.size ≤ k → some k ≠ lv.ownBlock := h.x.okl
theorem GrpX.k (h : GrpX w w' g n r S F L H md tk lv hv) : GrpK ⟨w, fun _ => False, fun x => w'.heap[x]?⟩ w' g n r S F L H md tk lv hv :=
  ⟨h, fun x hx => hx.elim, fun x hx => hx.elim, fun x hx => hx.elim, fun hx => hx, Kd.R_mono h.l fun k hk => ⟨hk, fun e => e⟩, Kd.R_mono h.h fun k hk => ⟨hk, fun e => e⟩⟩
/-- What has been made since is left alone as well. -/
theorem GrpK.grow (h : GrpK w0 w g n r S F L H md tk lv hv) (hb : Below w.heap.size w w') : GrpK ⟨w0.w, fun x => w0.K x ∨ (w.heap.size ≤ x ∧ x < w'.heap.size), fun x => w'.heap[x]?⟩ w' g n r S F L H md tk lv hv :=
  ⟨h.x.below hb, fun x hx => rfl, fun x hx => hx.elim (fun hx => Nat.lt_of_lt_of_le (h.kl x hx) hb.size) fun hx => hx.2, fun x hx i hi hF => hx.elim (fun hx => h.kF x hx i hi hF) fun hx => by have := (h.x.many.rep i hi).lt x hF; omega, fun hx => hx.elim h.kg fun hx => by have := h.lt; omega, Kd.R_mono (Kd.R_below (Kd.R_bound h.l) hb) fun k hk => ⟨hk.1.1, fun e => e.elim hk.1.2 fun e => by have := hk.2.2.1; omega⟩, Kd.R_mono (Kd.R_below (Kd.R_bound h.h) hb) fun k hk => ⟨hk.1.1, fun e => e.elim hk.1.2 fun e => by have := hk.2.2.1; omega⟩⟩
/-- Blocks of the frame have changed. -/
theorem GrpK.chg (h : GrpK w0 w g n r S F L H md tk lv hv) (hc : Chg w.heap.size w0.K w w') (hB : Below w0.w.heap.size w0.w w') : GrpK ⟨w0.w, w0.K, fun x => w'.heap[x]?⟩ w' g n r S F L H md tk lv hv := by
  have hl : Kd.R kP 32 w' w0.w.heap.size (fun x => (∀ i, i < n → ¬ F i x) ∧ ¬ w0.K x) lv L := Kd.R_step h.l fun k hk hk2 => hc.block k hk2 hk.2
  have hh : Kd.R k28 28 w' w0.w.heap.size (fun x => (∀ i, i < n → ¬ F i x) ∧ ¬ w0.K x) hv H := Kd.R_step h.h fun k hk hk2 => hc.block k hk2 hk.2
  exact ⟨⟨h.x.many.frame hc fun i hi x hx e => h.kF x e i hi hx, h.glo, h.gF, (hc.block g h.lt h.kg).trans h.blk, Kd.R_mono hl fun k hk => hk.1, Kd.R_mono hh fun k hk => hk.1, h.ml, h.tl, hB⟩, fun x hx => rfl, fun x hx => Nat.lt_of_lt_of_le (h.kl x hx) hc.size, h.kF, h.kg, hl, hh⟩
end
/-- A group of n offices beside a frame. -/
def GrK (w0 : Frm) (w : World) (g n : Nat) (r : Nat → Nat) (S : Nat → S28) (H : List S28) (md tk : List Int) : Prop := ∃ F lv hv, GrpK w0 w g n r S F ((List.range n).map r) H md tk lv hv
end Go.Proofs.YtmeaeapopfcmbaaGreat
