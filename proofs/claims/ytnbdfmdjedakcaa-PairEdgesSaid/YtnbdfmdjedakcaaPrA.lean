/- Several texts in one: G0 G1 G2 G3 G4. No conditions. -/
import Derived.Test.YtnbdfmdjedakcaaProg
import Derived.Below
import Derived.Deep.Draws
import Derived.Deep.AppendLies
import Derived.Maps.AppendAt
import Derived.OwnWalk
import Derived.Laws.BytesArg
import Derived.Laws.MakeOwn
import Derived.Laws.OwnMore
import Derived.Deep.OwnRows
import Derived.Tactics
import Derived.Lib.ConvBytes
import Derived.Laws.Slices
import Derived.WalkKit
import Derived.KernelRfl
import Derived.RowKit3
import Derived.Deep.LoopGhost
import Derived.Deep.QuietTactic
import Derived.BigQuiet
import Derived.WideLaws
import Derived.Deep.DeepCutAuto
import Derived.Deep.CutBlock
import Derived.Deep.RegionHeld3
import Derived.Laws.Rows
import Derived.Lib.AppendStr
import Derived.ArgAppend
import Derived.Laws.IdiomCopy
import Derived.OrdersHeld
import Derived.Laws.BitsLemmas
import Derived.RowKit
import Derived.WalkLawsBesides
import Derived.WalkSpells
import Derived.Deep.DeepMust
import Derived.Deep.DeepFit
import Derived.Deep.RegionWith
import Derived.Deep.RegionLaw
namespace Go.Proofs.Ytnbdfmdjedakcaa.Pr
open Go.RowKit

/-- A fact that the walk's simp doesn't look into. -/
structure Hd (p : Prop) : Prop where mk :: (out : p)

/-! ### Blocks of memory, told by functions -/
def upd {α : Type} (f : Nat → α) (i : Nat) (x : α) : Nat → α := fun j => if j = i then x else f j
theorem upd_same {α : Type} (f : Nat → α) (i : Nat) (x : α) : upd f i x i = x := by simp [upd]
theorem upd_ne {α : Type} (f : Nat → α) {i j : Nat} (x : α) (h : j ≠ i) : upd f i x j = f j := by simp [upd, h]

theorem set_get (C : Array Value) (k j : Nat) (v : Value) (h : k < C.size) : (C.setIfInBounds k v)[j]? = if j = k then some v else C[j]? := by
  rw [Array.getElem?_setIfInBounds]
  by_cases e : k = j
  · subst e; simp [h]
  · rw [if_neg e, if_neg (fun z => e z.symm)]

theorem heap_set (w : World) (b o : Nat) (v : Value) (C : Array Value) (t : TypeId) (fr : Nat × Nat) (h : w.heap[b]? = some (.cells C t fr)) :
    (w.setCell ⟨b, o, none⟩ v).heap[b]? = some (.cells (C.setIfInBounds o v) t fr) := by
  have hb : b < w.heap.size := (Array.getElem?_eq_some_iff.1 h).1
  simp only [World.setCell]
  rw [Array.getElem?_modify]
  simp [h]

theorem heap_set_ne (w : World) (b o k : Nat) (v : Value) (h : k ≠ b) : (w.setCell ⟨b, o, none⟩ v).heap[k]? = w.heap[k]? := by
  simp only [World.setCell]
  rw [Array.getElem?_modify]
  simp [Ne.symm h]

theorem size_set (w : World) (b o : Nat) (v : Value) : (w.setCell ⟨b, o, none⟩ v).heap.size = w.heap.size := by simp [World.setCell]

theorem cell_of (w : World) (b o : Nat) (C : Array Value) (t : TypeId) (fr : Nat × Nat) (h : w.heap[b]? = some (.cells C t fr)) : w.cell? ⟨b, o, none⟩ = C[o]? := by
  simp [World.cell?, h]
theorem frozen_of (w : World) (b o : Nat) (C : Array Value) (t : TypeId) (h : w.heap[b]? = some (.cells C t (0, 0))) : w.frozen? ⟨b, o, none⟩ = false := by
  simp [World.frozen?, h]

/-- A row of Bools of which the first n count (an array variable). -/
def BBlk (w : World) (b t sz n : Nat) (f : Nat → Bool) : Prop :=
  ∃ C, w.heap[b]? = some (.cells C t (0, 0)) ∧ C.size = sz ∧ n ≤ sz ∧ ∀ j, j < n → C[j]? = some (.bool (f j))
/-- A row of numbers of which the first n count. -/
def NBlk (w : World) (b n : Nat) (f : Nat → Nat) : Prop :=
  ∃ C, w.heap[b]? = some (.cells C 3 (0, 0)) ∧ n ≤ C.size ∧ ∀ j, j < n → C[j]? = some (.int .i64 (f j))
/-- A graph. -/
def GBlk (w : World) (b n : Nat) (nx : Nat → Nat → Bool) : Prop :=
  n ≤ 24 ∧ ∃ C, w.heap[b]? = some (.cells C 131 (0, 0)) ∧ C.size = 577 ∧ C[0]? = some (.int .i64 n) ∧ (∀ i j, i < n → j < n → C[1 + i * 24 + j]? = some (.bool (nx i j))) ∧ ∀ v, v ∈ C → v.oneCell' = true
/-- The forest's own block. -/
def FBlk (w : World) (b g n : Nat) (mv qv : Value) (pa : Nat → Int) (ba : Nat → Nat) (us : Nat → Bool) : Prop :=
  n ≤ 24 ∧ ∃ C, w.heap[b]? = some (.cells C 167 (0, 0)) ∧ C.size = 75 ∧ C[0]? = some (.pointer (some ⟨g, 0, none⟩)) ∧ C[1]? = some mv ∧
    (∀ i, i < n → C[2 + i]? = some (.int .i64 (pa i))) ∧ (∀ i, i < n → C[26 + i]? = some (.int .i64 (ba i))) ∧
    (∀ i, i < n → C[50 + i]? = some (.bool (us i))) ∧ C[74]? = some qv

section
variable {w w' : World} {b t sz n : Nat}
theorem BBlk.cell {f : Nat → Bool} (h : BBlk w b t sz n f) (j : Nat) (hj : j < n) : w.cell? ⟨b, j, none⟩ = some (.bool (f j)) := by
  obtain ⟨C, hC, _, _, hf⟩ := h
  rw [cell_of w b j C _ _ hC, hf j hj]
theorem BBlk.frozen {f : Nat → Bool} (h : BBlk w b t sz n f) (j : Nat) : w.frozen? ⟨b, j, none⟩ = false := by
  obtain ⟨C, hC, _⟩ := h
  exact frozen_of w b j C _ hC
theorem BBlk.set {f : Nat → Bool} (h : BBlk w b t sz n f) (j : Nat) (hj : j < n) (x : Bool) : BBlk (w.setCell ⟨b, j, none⟩ (.bool x)) b t sz n (upd f j x) := by
  obtain ⟨C, hC, hs, hn, hf⟩ := h
  refine ⟨_, heap_set w b j _ C _ _ hC, by simpa using hs, hn, fun i hi => ?_⟩
  rw [set_get C j i _ (by omega)]
  unfold upd
  split <;> simp_all
theorem BBlk.of_heap {f : Nat → Bool} (h : BBlk w b t sz n f) (e : w'.heap[b]? = w.heap[b]?) : BBlk w' b t sz n f := by
  obtain ⟨C, hC, r⟩ := h
  exact ⟨C, e.trans hC, r⟩
theorem BBlk.lt {f : Nat → Bool} (h : BBlk w b t sz n f) : b < w.heap.size := by
  obtain ⟨C, hC, r⟩ := h
  exact (Array.getElem?_eq_some_iff.1 hC).1

theorem NBlk.cell {f : Nat → Nat} (h : NBlk w b n f) (j : Nat) (hj : j < n) : w.cell? ⟨b, j, none⟩ = some (.int .i64 (f j)) := by
  obtain ⟨C, hC, _, hf⟩ := h
  rw [cell_of w b j C _ _ hC, hf j hj]
theorem NBlk.frozen {f : Nat → Nat} (h : NBlk w b n f) (j : Nat) : w.frozen? ⟨b, j, none⟩ = false := by
  obtain ⟨C, hC, _⟩ := h
  exact frozen_of w b j C _ hC
theorem NBlk.set {f : Nat → Nat} (h : NBlk w b n f) (j : Nat) (hj : j < n) (x : Nat) : NBlk (w.setCell ⟨b, j, none⟩ (.int .i64 x)) b n (upd f j x) := by
  obtain ⟨C, hC, hn, hf⟩ := h
  refine ⟨_, heap_set w b j _ C _ _ hC, by simpa using hn, fun i hi => ?_⟩
  rw [set_get C j i _ (by omega)]
  unfold upd
  split <;> simp_all
theorem NBlk.of_heap {f : Nat → Nat} (h : NBlk w b n f) (e : w'.heap[b]? = w.heap[b]?) : NBlk w' b n f := by
  obtain ⟨C, hC, r⟩ := h
  exact ⟨C, e.trans hC, r⟩
theorem NBlk.lt {f : Nat → Nat} (h : NBlk w b n f) : b < w.heap.size := by
  obtain ⟨C, hC, r⟩ := h
  exact (Array.getElem?_eq_some_iff.1 hC).1
theorem NBlk.congr {f g : Nat → Nat} (h : NBlk w b n f) (e : ∀ j, j < n → f j = g j) : NBlk w b n g := by
  obtain ⟨C, hC, hn, hf⟩ := h
  exact ⟨C, hC, hn, fun j hj => by rw [hf j hj, e j hj]⟩

theorem GBlk.num {nx : Nat → Nat → Bool} (h : GBlk w b n nx) : w.cell? ⟨b, 0, none⟩ = some (.int .i64 n) := by
  obtain ⟨_, C, hC, _, h0, _⟩ := h
  rw [cell_of w b 0 C _ _ hC, h0]
theorem GBlk.getNx {nx : Nat → Nat → Bool} (h : GBlk w b n nx) (i j : Nat) (hi : i < n) (hj : j < n) : w.cell? ⟨b, 1 + i * 24 + j, none⟩ = some (.bool (nx i j)) := by
  obtain ⟨_, C, hC, _, _, hf, _⟩ := h
  rw [cell_of w b _ C _ _ hC, hf i j hi hj]
theorem GBlk.frozen {nx : Nat → Nat → Bool} (h : GBlk w b n nx) (j : Nat) : w.frozen? ⟨b, j, none⟩ = false := by
  obtain ⟨_, C, hC, _⟩ := h
  exact frozen_of w b j C _ hC
theorem GBlk.le {nx : Nat → Nat → Bool} (h : GBlk w b n nx) : n ≤ 24 := h.1
theorem GBlk.set {nx : Nat → Nat → Bool} (h : GBlk w b n nx) (a c : Nat) (ha : a < n) (hc : c < n) (x : Bool) :
    GBlk (w.setCell ⟨b, 1 + a * 24 + c, none⟩ (.bool x)) b n (fun i j => if i = a ∧ j = c then x else nx i j) := by
  obtain ⟨hn, C, hC, hs, h0, hf, h1⟩ := h
  refine ⟨hn, _, heap_set w b _ _ C _ _ hC, by simpa using hs, ?_, fun i j hi hj => ?_, fun v hv => ?_⟩
  · rw [set_get C _ _ _ (by omega), if_neg (by omega)]; exact h0
  · rw [set_get C _ _ _ (by omega)]
    by_cases e : i = a ∧ j = c
    · obtain ⟨rfl, rfl⟩ := e; simp
    · rw [if_neg (by omega), hf i j hi hj]; simp [e]
  · rcases Array.mem_or_eq_of_mem_setIfInBounds hv with h2 | h2
    · exact h1 v h2
    · subst h2; rfl
theorem GBlk.of_heap {nx : Nat → Nat → Bool} (h : GBlk w b n nx) (e : w'.heap[b]? = w.heap[b]?) : GBlk w' b n nx := by
  obtain ⟨hn, C, hC, r⟩ := h
  exact ⟨hn, C, e.trans hC, r⟩
theorem GBlk.lt {nx : Nat → Nat → Bool} (h : GBlk w b n nx) : b < w.heap.size := by
  obtain ⟨_, C, hC, r⟩ := h
  exact (Array.getElem?_eq_some_iff.1 hC).1
theorem GBlk.congr {nx ny : Nat → Nat → Bool} (h : GBlk w b n nx) (e : ∀ i j, i < n → j < n → nx i j = ny i j) : GBlk w b n ny := by
  obtain ⟨hn, C, hC, hs, h0, hf, h1⟩ := h
  exact ⟨hn, C, hC, hs, h0, fun i j hi hj => by rw [hf i j hi hj, e i j hi hj], h1⟩

variable {g : Nat} {mv qv : Value} {pa : Nat → Int} {ba : Nat → Nat} {us : Nat → Bool}
theorem FBlk.le (h : FBlk w b g n mv qv pa ba us) : n ≤ 24 := h.1
theorem FBlk.graph (h : FBlk w b g n mv qv pa ba us) : w.cell? ⟨b, 0, none⟩ = some (.pointer (some ⟨g, 0, none⟩)) := by
  obtain ⟨_, C, hC, _, h0, _⟩ := h
  rw [cell_of w b _ C _ _ hC, h0]
theorem FBlk.mates (h : FBlk w b g n mv qv pa ba us) : w.cell? ⟨b, 1, none⟩ = some mv := by
  obtain ⟨_, C, hC, _, _, h0, _⟩ := h
  rw [cell_of w b _ C _ _ hC, h0]
theorem FBlk.getPa (h : FBlk w b g n mv qv pa ba us) (i : Nat) (hi : i < n) : w.cell? ⟨b, 2 + i, none⟩ = some (.int .i64 (pa i)) := by
  obtain ⟨_, C, hC, _, _, _, h0, _⟩ := h
  rw [cell_of w b _ C _ _ hC, h0 i hi]
theorem FBlk.getBa (h : FBlk w b g n mv qv pa ba us) (i : Nat) (hi : i < n) : w.cell? ⟨b, 26 + i, none⟩ = some (.int .i64 (ba i)) := by
  obtain ⟨_, C, hC, _, _, _, _, h0, _⟩ := h
  rw [cell_of w b _ C _ _ hC, h0 i hi]
theorem FBlk.getUs (h : FBlk w b g n mv qv pa ba us) (i : Nat) (hi : i < n) : w.cell? ⟨b, 50 + i, none⟩ = some (.bool (us i)) := by
  obtain ⟨_, C, hC, _, _, _, _, _, h0, _⟩ := h
  rw [cell_of w b _ C _ _ hC, h0 i hi]
theorem FBlk.queue (h : FBlk w b g n mv qv pa ba us) : w.cell? ⟨b, 74, none⟩ = some qv := by
  obtain ⟨_, C, hC, _, _, _, _, _, _, h0⟩ := h
  rw [cell_of w b _ C _ _ hC, h0]
theorem FBlk.frozen (h : FBlk w b g n mv qv pa ba us) (j : Nat) : w.frozen? ⟨b, j, none⟩ = false := by
  obtain ⟨_, C, hC, _⟩ := h
  exact frozen_of w b j C _ hC
theorem FBlk.of_heap (h : FBlk w b g n mv qv pa ba us) (e : w'.heap[b]? = w.heap[b]?) : FBlk w' b g n mv qv pa ba us := by
  obtain ⟨hn, C, hC, r⟩ := h
  exact ⟨hn, C, e.trans hC, r⟩
theorem FBlk.lt (h : FBlk w b g n mv qv pa ba us) : b < w.heap.size := by
  obtain ⟨_, C, hC, r⟩ := h
  exact (Array.getElem?_eq_some_iff.1 hC).1
theorem FBlk.setPa (h : FBlk w b g n mv qv pa ba us) (k : Nat) (hk : k < n) (x : Int) : FBlk (w.setCell ⟨b, 2 + k, none⟩ (.int .i64 x)) b g n mv qv (upd pa k x) ba us := by
  obtain ⟨hn, C, hC, hs, h0, h1, h2, h3, h4, h5⟩ := h
  have G := fun j => set_get C (2 + k) j (.int .i64 x) (by omega)
  refine ⟨hn, _, heap_set w b _ _ C _ _ hC, by simpa using hs, ?_, ?_, fun i hi => ?_, fun i hi => ?_, fun i hi => ?_, ?_⟩ <;> rw [G]
  · rw [if_neg (by omega)]; exact h0
  · rw [if_neg (by omega)]; exact h1
  · unfold upd
    by_cases e : i = k
    · rw [if_pos (by omega), if_pos e]
    · rw [if_neg (by omega), if_neg e]; exact h2 i hi
  · rw [if_neg (by omega)]; exact h3 i hi
  · rw [if_neg (by omega)]; exact h4 i hi
  · rw [if_neg (by omega)]; exact h5
theorem FBlk.setBa (h : FBlk w b g n mv qv pa ba us) (k : Nat) (hk : k < n) (x : Nat) : FBlk (w.setCell ⟨b, 26 + k, none⟩ (.int .i64 x)) b g n mv qv pa (upd ba k x) us := by
  obtain ⟨hn, C, hC, hs, h0, h1, h2, h3, h4, h5⟩ := h
  have G := fun j => set_get C (26 + k) j (.int .i64 x) (by omega)
  refine ⟨hn, _, heap_set w b _ _ C _ _ hC, by simpa using hs, ?_, ?_, fun i hi => ?_, fun i hi => ?_, fun i hi => ?_, ?_⟩ <;> rw [G]
  · rw [if_neg (by omega)]; exact h0
  · rw [if_neg (by omega)]; exact h1
  · rw [if_neg (by omega)]; exact h2 i hi
  · unfold upd
    by_cases e : i = k
    · rw [if_pos (by omega), if_pos e]
    · rw [if_neg (by omega), if_neg e]; exact h3 i hi
  · rw [if_neg (by omega)]; exact h4 i hi
  · rw [if_neg (by omega)]; exact h5
theorem FBlk.setUs (h : FBlk w b g n mv qv pa ba us) (k : Nat) (hk : k < n) (x : Bool) : FBlk (w.setCell ⟨b, 50 + k, none⟩ (.bool x)) b g n mv qv pa ba (upd us k x) := by
  obtain ⟨hn, C, hC, hs, h0, h1, h2, h3, h4, h5⟩ := h
  have G := fun j => set_get C (50 + k) j (.bool x) (by omega)
  refine ⟨hn, _, heap_set w b _ _ C _ _ hC, by simpa using hs, ?_, ?_, fun i hi => ?_, fun i hi => ?_, fun i hi => ?_, ?_⟩ <;> rw [G]
  · rw [if_neg (by omega)]; exact h0
  · rw [if_neg (by omega)]; exact h1
  · rw [if_neg (by omega)]; exact h2 i hi
  · rw [if_neg (by omega)]; exact h3 i hi
  · unfold upd
    by_cases e : i = k
    · rw [if_pos (by omega), if_pos e]
    · rw [if_neg (by omega), if_neg e]; exact h4 i hi
  · rw [if_neg (by omega)]; exact h5
theorem FBlk.setQ (h : FBlk w b g n mv qv pa ba us) (q' : Value) : FBlk (w.setCell ⟨b, 74, none⟩ q') b g n mv q' pa ba us := by
  obtain ⟨hn, C, hC, hs, h0, h1, h2, h3, h4, h5⟩ := h
  have G := fun j => set_get C 74 j q' (by omega)
  refine ⟨hn, _, heap_set w b _ _ C _ _ hC, by simpa using hs, ?_, ?_, fun i hi => ?_, fun i hi => ?_, fun i hi => ?_, ?_⟩ <;> rw [G]
  · rw [if_neg (by omega)]; exact h0
  · rw [if_neg (by omega)]; exact h1
  · rw [if_neg (by omega)]; exact h2 i hi
  · rw [if_neg (by omega)]; exact h3 i hi
  · rw [if_neg (by omega)]; exact h4 i hi
  · rw [if_pos rfl]
theorem FBlk.congr {pa' : Nat → Int} {ba' : Nat → Nat} {us' : Nat → Bool} (h : FBlk w b g n mv qv pa ba us) (e1 : ∀ i, i < n → pa i = pa' i) (e2 : ∀ i, i < n → ba i = ba' i) (e3 : ∀ i, i < n → us i = us' i) : FBlk w b g n mv qv pa' ba' us' := by
  obtain ⟨hn, C, hC, hs, h0, h1, h2, h3, h4, h5⟩ := h
  exact ⟨hn, C, hC, hs, h0, h1, fun i hi => by rw [h2 i hi, e1 i hi], fun i hi => by rw [h3 i hi, e2 i hi], fun i hi => by rw [h4 i hi, e3 i hi], h5⟩
end

theorem drewN_heap (w : World) (m : Nat) : (w.drewN m).heap = w.heap := rfl
theorem drew_heap (w : World) : w.drew.heap = w.heap := rfl
theorem alloc_old (w : World) (o : Obj) (k : Nat) (h : k < w.heap.size) : (w.alloc o).heap[k]? = w.heap[k]? := by
  show (w.heap.push o)[k]? = _
  rw [Array.getElem?_push, if_neg (by omega)]
theorem alloc_new (w : World) (o : Obj) : (w.alloc o).heap[w.heap.size]? = some o := by
  show (w.heap.push o)[_]? = _
  simp
theorem bel_set {B : Nat} {a w : World} (h : Below B a w) {b : Nat} (hb : B ≤ b) (o : Nat) (u : Value) : Below B a (w.setCell ⟨b, o, none⟩ u) := Below.setCell h (p := ⟨b, o, none⟩) hb u
theorem bel_drewN {B : Nat} {a w : World} (h : Below B a w) (m : Nat) : Below B a (w.drewN m) := ⟨h.os, h.tape, h.output, h.size, h.block⟩
theorem bel_then {B : Nat} {a w w' : World} (h : Below B a w) (k : Below w.heap.size w w') (hB : B ≤ w.heap.size) : Below B a w' := h.trans (k.mono hB)
theorem cell_alloc_ {w : World} {b o : Nat} {v : Value} (h : w.cell? ⟨b, o, none⟩ = some v) (hb : b < w.heap.size) : ∀ ob : Obj, (w.alloc ob).cell? ⟨b, o, none⟩ = some v := fun ob => by
  rw [← h]
  simp only [World.cell?, alloc_old w ob b hb]
theorem frozen_alloc_ {w : World} {b o : Nat} {f : Bool} (h : w.frozen? ⟨b, o, none⟩ = f) (hb : b < w.heap.size) : ∀ ob : Obj, (w.alloc ob).frozen? ⟨b, o, none⟩ = f := fun ob => by
  rw [← h]
  simp only [World.frozen?, alloc_old w ob b hb]
/-- The world at hand, told by what is known of it. -/
theorem gen_world {Q : Exit → Act → World → Prop} {e : Exit} {a : Act} {W : World} (I : World → Prop) (h : I W) (k : ∀ w, I w → Q e a w) : Q e a W := k W h
/-- 24 Bools that 'var x [24]bool' makes. -/
theorem BBlk_new (w : World) (n : Nat) (hn : n ≤ 24) (cs : Array Value) (h : cs = Array.replicate 24 (.bool false)) : BBlk (w.alloc (.cells cs 128)) w.heap.size 128 24 n (fun _ => false) := by
  subst h
  exact ⟨_, alloc_new w _, by simp, hn, fun j hj => by rw [Array.getElem?_replicate, if_pos (by omega)]⟩
end Go.Proofs.Ytnbdfmdjedakcaa.Pr

namespace Go.Proofs.Ytnbdfmdjedakcaa.Pr
open Go.RowKit
set_option linter.unusedVariables false
set_option linter.unusedSimpArgs false

/-- The forest in memory, but for its queue's elements. -/
structure Fo (w : World) (bf gb mb n mcap : Nat) (nx : Nat → Nat → Bool) (M : Nat → Nat) (pa : Nat → Int) (ba : Nat → Nat) (us : Nat → Bool) (qv : Value) : Prop where
  f : FBlk w bf gb n (.slice (some ⟨mb, 0, none⟩) n mcap) qv pa ba us
  g : GBlk w gb n nx
  m : NBlk w mb n M
  mle : ∀ v, v < n → M v ≤ n
theorem Fo.of_heap {w w' : World} {bf gb mb n mcap : Nat} {nx : Nat → Nat → Bool} {M : Nat → Nat} {pa : Nat → Int} {ba : Nat → Nat} {us : Nat → Bool} {qv : Value}
    (h : Fo w bf gb mb n mcap nx M pa ba us qv) (e : ∀ k, k < w.heap.size → w'.heap[k]? = w.heap[k]?) : Fo w' bf gb mb n mcap nx M pa ba us qv :=
  ⟨h.f.of_heap (e _ h.f.lt), h.g.of_heap (e _ h.g.lt), h.m.of_heap (e _ h.m.lt), h.mle⟩

theorem Fo.neg {w : World} {bf gb mb n mcap : Nat} {nx : Nat → Nat → Bool} {M : Nat → Nat} {pa : Nat → Int} {ba : Nat → Nat} {us : Nat → Bool} {qv : Value} (h : Fo w bf gb mb n mcap nx M pa ba us qv) : gb ≠ bf := by
  obtain ⟨_, C, hC, _⟩ := h.f
  obtain ⟨_, D, hD, _⟩ := h.g
  intro e
  rw [e, hC] at hD
  simp at hD
theorem Fo.nem {w : World} {bf gb mb n mcap : Nat} {nx : Nat → Nat → Bool} {M : Nat → Nat} {pa : Nat → Int} {ba : Nat → Nat} {us : Nat → Bool} {qv : Value} (h : Fo w bf gb mb n mcap nx M pa ba us qv) : mb ≠ bf := by
  obtain ⟨_, C, hC, _⟩ := h.f
  obtain ⟨D, hD, _⟩ := h.m
  intro e
  rw [e, hC] at hD
  simp at hD
/-- A store into the forest's block leaves the graph and the mates. -/
theorem Fo.store {w : World} {bf gb mb n mcap : Nat} {nx : Nat → Nat → Bool} {M : Nat → Nat} {pa pa' : Nat → Int} {ba ba' : Nat → Nat} {us us' : Nat → Bool} {qv qv' : Value} (h : Fo w bf gb mb n mcap nx M pa ba us qv)
    {o : Nat} {v : Value} (hf : FBlk (w.setCell ⟨bf, o, none⟩ v) bf gb n (.slice (some ⟨mb, 0, none⟩) n mcap) qv' pa' ba' us') : Fo (w.setCell ⟨bf, o, none⟩ v) bf gb mb n mcap nx M pa' ba' us' qv' :=
  ⟨hf, h.g.of_heap (heap_set_ne _ _ _ _ _ h.neg), h.m.of_heap (heap_set_ne _ _ _ _ _ h.nem), h.mle⟩

def mateS (n : Nat) (M : Nat → Nat) (v : Nat) : Int := if M v = n then -1 else (M v : Int)

theorem mate_any (w : World) (bf gb mb n mcap v : Nat) (nx : Nat → Nat → Bool) (M : Nat → Nat) (pa : Nat → Int) (ba : Nat → Nat) (us : Nat → Bool) (qv : Value)
   (h : Fo w bf gb mb n mcap nx M pa ba us qv) (hv : v < n) (r : Int) (hr : mateS n M v = r) :
    Calls Try.prog 156 #[.pointer (some ⟨bf, 0, none⟩), .int .i64 v] w fun e w' => e = .returned (.int .i64 r) ∧ ∃ m, w' = w.drewN m := by
  have h0 := h.f.graph
  have h1 := h.f.mates
  have hg := h.g.num
  have hn := h.g.le
  have hx := h.mle v hv
  have hmm := h.m.cell v hv
  unfold mateS at hr
  clear h
  generalize M v = x at *
  by_cases hxn : x = n
  · have hb : ((x : Int) == n) = true := by simp [hxn]
    rw [if_pos hxn] at hr
    subst hr
    clear hxn
    go_enter Try.func156, Try.ntmps156
    go_wp2
    go_quiet (fail)
    go_wp2
    go_ret
    exact ⟨rfl, _, rfl⟩
  · have hb : ((x : Int) == n) = false := by simp; omega
    rw [if_neg hxn] at hr
    subst hr
    clear hxn
    go_enter Try.func156, Try.ntmps156
    go_wp2
    go_quiet (fail)
    go_wp2
    go_ret
    exact ⟨rfl, _, rfl⟩

theorem mate_quiet (w : World) (bf gb mb n mcap v : Nat) (nx : Nat → Nat → Bool) (M : Nat → Nat) (pa : Nat → Int) (ba : Nat → Nat) (us : Nat → Bool) (qv : Value)
   (h : Fo w bf gb mb n mcap nx M pa ba us qv) (hv : v < n) (r : Int) (hr : mateS n M v = r) (nq : Nat) :
    Calls Try.prog 156 #[.pointer (some ⟨bf, 0, none⟩), .int .i64 v] (w.drewN nq) fun e w'' => e = .returned (.int .i64 r) ∧ ∃ m, w'' = w.drewN m :=
  Calls.quiet_of (mate_any (w.drewN nq) bf gb mb n mcap v nx M pa ba us qv (h.of_heap (w' := w.drewN nq) (fun k hk => rfl)) hv r hr)

theorem mate_fr (w : World) (bf gb mb n mcap v : Nat) (nx : Nat → Nat → Bool) (M : Nat → Nat) (pa : Nat → Int) (ba : Nat → Nat) (us : Nat → Bool) (qv : Value)
   (h : Fo w bf gb mb n mcap nx M pa ba us qv) (hv : v < n) (r : Int) (hr : mateS n M v = r) :
    Calls Try.prog 156 #[.pointer (some ⟨bf, 0, none⟩), .int .i64 v] w fun e w' => e = .returned (.int .i64 r) ∧ w'.heap = w.heap ∧ Below w.heap.size w w' :=
  (mate_any w bf gb mb n mcap v nx M pa ba us qv h hv r hr).mono fun e w' ⟨he, m, hm⟩ => ⟨he, by rw [hm]; rfl, by rw [hm]; exact bel_drewN (Below.refl _ _) m⟩

/-- common's first loop: the bases on the way from a stone to the root. -/
def comUp (n : Nat) (M : Nat → Nat) (pa : Nat → Int) (ba : Nat → Nat) : Nat → Nat → (Nat → Bool) → Option (Nat → Bool)
  | 0, _, _ => none
  | k + 1, a, seen =>
    if a < n ∧ ba a < n then
      if M (ba a) = n then some (upd seen (ba a) true)
      else if M (ba a) < n ∧ 0 ≤ pa (M (ba a)) then comUp n M pa ba k (pa (M (ba a))).toNat (upd seen (ba a) true)
      else none
    else none
/-- common's second loop. -/
def comDown (n : Nat) (M : Nat → Nat) (pa : Nat → Int) (ba : Nat → Nat) (seen : Nat → Bool) : Nat → Nat → Option Nat
  | 0, _ => none
  | k + 1, b =>
    if b < n ∧ ba b < n then
      if seen (ba b) then some (ba b)
      else if M (ba b) < n ∧ 0 ≤ pa (M (ba b)) then comDown n M pa ba seen k (pa (M (ba b))).toNat
      else none
    else none
def comS (n : Nat) (M : Nat → Nat) (pa : Nat → Int) (ba : Nat → Nat) (k a b : Nat) : Option Nat :=
  (comUp n M pa ba k a (fun _ => false)).bind fun seen => comDown n M pa ba seen k b

set_option maxHeartbeats 1000000 in
theorem common_any (w : World) (bf gb mb n mcap a b k c : Nat) (nx : Nat → Nat → Bool) (M : Nat → Nat) (pa : Nat → Int) (ba : Nat → Nat) (us : Nat → Bool) (qv : Value)
   (h : Fo w bf gb mb n mcap nx M pa ba us qv) (hr : comS n M pa ba k a b = some c) :
    Calls Try.prog 163 #[.pointer (some ⟨bf, 0, none⟩), .int .i64 a, .int .i64 b] w fun e w' => e = .returned (.int .i64 c) ∧ Below w.heap.size w w' := by
  obtain ⟨seen, hup, hdown⟩ := Option.bind_eq_some_iff.1 hr
  have HU := Hd.mk hup
  have HD := Hd.mk hdown
  have HF := Hd.mk h
  clear hup hdown hr h
  go_enter Try.func163, Try.ntmps163
  go_wp2
  go_loopg [1] k (fun kq v1 wr => ∃ (x : Nat) (sn : Nat → Bool), v1 = .int .i64 x ∧ Hd (comUp n M pa ba kq x sn = some seen) ∧ Hd (BBlk wr w.heap.size 128 24 n sn) ∧ Hd (Below w.heap.size w wr))
  case atStart => exact ⟨a, _, rfl, HU, ⟨BBlk_new w n HF.out.g.le _ rfl⟩, ⟨(Below.refl _ _).alloc (Nat.le_refl _) _⟩⟩
  case round =>
    obtain ⟨x, sn, rfl, HX, HS, HB⟩ := hrel
    clear HU
    cases gk with
    | zero => exact absurd HX.out (by simp [comUp])
    | succ k1 =>
      have hx := HX.out
      simp only [comUp] at hx
      split at hx
      · rename_i hlt
        obtain ⟨hx1, hx2⟩ := hlt
        have hF : Fo wr bf gb mb n mcap nx M pa ba us qv := HF.out.of_heap (fun k hk => HB.out.block k hk)
        have cb := hF.f.getBa x hx1
        have cs := HS.out.cell (ba x) hx2
        have fs := HS.out.frozen (ba x)
        have hn := hF.g.le
        by_cases hM : M (ba x) = n
        · rw [if_pos hM] at hx
          have HX2 := Hd.mk (Option.some.inj hx)
          have HM := Hd.mk hM
          clear hx hM HX
          have hB2 := bel_set HB.out (Nat.le_refl _) (ba x) (.bool true)
          have hF2 : Fo (wr.setCell ⟨w.heap.size, ba x, none⟩ (.bool true)) bf gb mb n mcap nx M pa ba us qv := HF.out.of_heap (fun k hk => hB2.block k hk)
          have HF2 := Hd.mk hF2
          clear hF hF2 hB2
          go_wp2_with fail
          refine (mate_any _ bf gb mb n mcap (ba x) nx M pa ba us qv HF2.out hx2 (-1) (by rw [mateS, if_pos HM.out])).mono ?_
          rintro e w1 ⟨rfl, m1, rfl⟩
          go_wp2_with fail
          have hS2 : BBlk ((wr.setCell ⟨w.heap.size, ba x, none⟩ (.bool true)).drewN m1) w.heap.size 128 24 n seen := by
            rw [← HX2.out]
            exact (HS.out.set (ba x) hx2 true).of_heap rfl
          have HS2 := Hd.mk hS2
          have HB2 := Hd.mk (bel_drewN (bel_set HB.out (Nat.le_refl _) (ba x) (.bool true)) m1)
          clear hS2 HF2 cb cs fs HS HB HX2 HM
          go_loopg [2] k (fun kq v2 wr2 => ∃ (y : Nat), v2 = .int .i64 y ∧ Hd (comDown n M pa ba seen kq y = some c) ∧ Hd (BBlk wr2 w.heap.size 128 24 n seen) ∧ Hd (Below w.heap.size w wr2))
          case atStart => exact ⟨b, rfl, HD, HS2, HB2⟩
          case round =>
            obtain ⟨y, rfl, HY, HS, HB⟩ := hrel
            clear HD HS2 HB2
            cases gk with
            | zero => exact absurd HY.out (by simp [comDown])
            | succ k2 =>
              have hy := HY.out
              clear HY
              simp only [comDown] at hy
              split at hy
              · rename_i hlt
                obtain ⟨hy1, hy2⟩ := hlt
                have hB2 := HB.out
                have hF : Fo wr bf gb mb n mcap nx M pa ba us qv := HF.out.of_heap (fun k hk => HB.out.block k hk)
                have HF2 := Hd.mk hF
                have cb := hF.f.getBa y hy1
                have cs := HS.out.cell (ba y) hy2
                clear hF hB2
                by_cases hse : seen (ba y) = true
                · rw [if_pos hse] at hy
                  obtain rfl := Option.some.inj hy
                  rw [hse] at cs
                  clear hy hse
                  go_wp2_with fail
                  go_ret
                  exact ⟨rfl, HB.out⟩
                · have hse' : seen (ba y) = false := by simpa using hse
                  rw [if_neg hse] at hy
                  rw [hse'] at cs
                  clear hse hse'
                  split at hy
                  · rename_i hq
                    obtain ⟨hq1, hq2⟩ := hq
                    have cp := HF2.out.f.getPa (M (ba y)) hq1
                    have hMn : mateS n M (ba y) = (M (ba y) : Int) := by rw [mateS, if_neg (by omega)]
                    have HMn := Hd.mk hMn
                    have HQ := Hd.mk (show comDown n M pa ba seen k2 (pa (M (ba y))).toNat = some c from hy)
                    have HZ := Hd.mk (Int.toNat_of_nonneg hq2)
                    clear hy hMn
                    go_wp2_with fail
                    go_quiet ((go_at_call 156; exact mate_quiet _ bf gb mb n mcap (ba y) nx M pa ba us qv HF2.out hy2 _ HMn.out _))
                    go_wp2_with fail
                    go_roundg k2
                    case measure => omega
                    case rel => exact ⟨(pa (M (ba y))).toNat, by rw [HZ.out], HQ, ⟨HS.out.of_heap rfl⟩, ⟨bel_drewN HB.out _⟩⟩
                  · exact absurd hy (by simp)
              · exact absurd hy (by simp)
        · rw [if_neg hM] at hx
          split at hx
          · rename_i hq
            obtain ⟨hq1, hq2⟩ := hq
            have hB2 := bel_set HB.out (Nat.le_refl _) (ba x) (.bool true)
            have hF2 : Fo (wr.setCell ⟨w.heap.size, ba x, none⟩ (.bool true)) bf gb mb n mcap nx M pa ba us qv := HF.out.of_heap (fun k hk => hB2.block k hk)
            have HF2 := Hd.mk hF2
            have cp := HF2.out.f.getPa (M (ba x)) hq1
            have hMn : mateS n M (ba x) = (M (ba x) : Int) := by rw [mateS, if_neg (by omega)]
            have HMn := Hd.mk hMn
            have HQ := Hd.mk hx
            have HZ := Hd.mk (Int.toNat_of_nonneg hq2)
            have HB2 := Hd.mk hB2
            have HS2 := Hd.mk (HS.out.set (ba x) hx2 true)
            clear hF hF2 hx hMn HX hB2 HB HS hM
            go_wp2_with fail
            refine (mate_fr _ bf gb mb n mcap (ba x) nx M pa ba us qv HF2.out hx2 _ HMn.out).mono ?_
            rintro e w1 ⟨rfl, hh1, hb1⟩
            have HF3 := Hd.mk (HF2.out.of_heap (w' := w1) (fun k hk => by rw [hh1]))
            have cp3 := HF3.out.f.getPa (M (ba x)) hq1
            have HS3 := Hd.mk (HS2.out.of_heap (w' := w1) (by rw [hh1]))
            have HB3 := Hd.mk (bel_then HB2.out hb1 HB2.out.size)
            clear cp HF2 hh1 hb1 HS2 HB2 cb cs fs
            go_wp2_with fail
            go_quiet ((go_at_call 156; go_must (exact mate_quiet _ bf gb mb n mcap (ba x) nx M pa ba us qv HF3.out hx2 _ HMn.out _)))
            go_wp2_with fail
            go_roundg k1
            case measure => omega
            case rel => exact ⟨(pa (M (ba x))).toNat, _, by rw [HZ.out], HQ, ⟨HS3.out.of_heap rfl⟩, ⟨bel_drewN HB3.out _⟩⟩
          · exact absurd hx (by simp)
      · exact absurd hx (by simp)
end Go.Proofs.Ytnbdfmdjedakcaa.Pr

namespace Go.Proofs.Ytnbdfmdjedakcaa.Pr
open Go.RowKit
set_option linter.unusedVariables false
set_option linter.unusedSimpArgs false

/-- mark: the blossom's bases on the way from a stone to its base; the way's even stones get new parents. -/
def markS (n : Nat) (M : Nat → Nat) (ba : Nat → Nat) (b : Nat) : Nat → Nat → Nat → (Nat → Int) → (Nat → Bool) → Option ((Nat → Int) × (Nat → Bool))
  | 0, _, _, _, _ => none
  | k + 1, v, child, pa, inn =>
    if v < n ∧ ba v < n then
      if ba v = b then some (pa, inn)
      else if M v < n ∧ ba (M v) < n ∧ 0 ≤ (upd pa v (child : Int)) (M v) then
        markS n M ba b k ((upd pa v (child : Int)) (M v)).toNat (M v) (upd pa v (child : Int)) (upd (upd inn (ba v) true) (ba (M v)) true)
      else none
    else none

set_option maxHeartbeats 1000000 in
theorem mark_any (w : World) (B bf gb mb bi n mcap v b child k : Nat) (nx : Nat → Nat → Bool) (M : Nat → Nat) (pa pa' : Nat → Int) (ba : Nat → Nat) (us inn inn' : Nat → Bool) (qv : Value)
   (h : Fo w bf gb mb n mcap nx M pa ba us qv) (hi : BBlk w bi 128 24 n inn) (hBf : B ≤ bf) (hBi : B ≤ bi)
   (hr : markS n M ba b k v child pa inn = some (pa', inn')) :
    Calls Try.prog 164 #[.pointer (some ⟨bf, 0, none⟩), .int .i64 v, .int .i64 b, .int .i64 child, .pointer (some ⟨bi, 0, none⟩)] w fun e w' => e = .returned (.tuple #[]) ∧
      (Fo w' bf gb mb n mcap nx M pa' ba us qv ∧ BBlk w' bi 128 24 n inn' ∧ Below B w w' ∧ ∀ x, x ≠ bf → x ≠ bi → w'.heap[x]? = w.heap[x]?) := by
  have HR := Hd.mk hr
  have HF := Hd.mk h
  have HI := Hd.mk hi
  clear hr h hi
  go_enter Try.func164, Try.ntmps164
  go_wp2
  go_loopg [1, 3] k (fun kq v1 v3 wr => ∃ (x c : Nat) (p : Nat → Int) (i : Nat → Bool), v1 = .int .i64 x ∧ v3 = .int .i64 c ∧ Hd (markS n M ba b kq x c p i = some (pa', inn')) ∧
     Hd (Fo wr bf gb mb n mcap nx M p ba us qv) ∧ Hd (BBlk wr bi 128 24 n i) ∧ Hd (Below B w wr) ∧ Hd (∀ x, x ≠ bf → x ≠ bi → wr.heap[x]? = w.heap[x]?))
  case atStart => exact ⟨v, child, pa, inn, rfl, rfl, HR, HF, HI, ⟨Below.refl _ _⟩, ⟨fun _ _ _ => rfl⟩⟩
  case round =>
    obtain ⟨x, c, p, i, rfl, rfl, HX, HF, HI, HB, HK⟩ := hrel
    clear HR
    cases gk with
    | zero => exact absurd HX.out (by simp [markS])
    | succ k1 =>
      have hx := HX.out
      clear HX
      simp only [markS] at hx
      split at hx
      · rename_i hlt
        obtain ⟨hx1, hx2⟩ := hlt
        have cb := HF.out.f.getBa x hx1
        have hn := HF.out.g.le
        by_cases hb : ba x = b
        · rw [if_pos hb] at hx
          simp only [Option.some.injEq, Prod.mk.injEq] at hx
          obtain ⟨rfl, rfl⟩ := hx
          have hbb : ((ba x : Int) != (b : Int)) = false := by simp [hb]
          clear hb
          go_wp2_with fail
          go_end0
          exact ⟨rfl, HF.out, HI.out, HB.out, HK.out⟩
        · rw [if_neg hb] at hx
          have hbb : ((ba x : Int) != (b : Int)) = true := by simp; omega
          clear hb
          split at hx
          · rename_i hq
            obtain ⟨hq1, hq2, hq3⟩ := hq
            have HQ := Hd.mk hx
            clear hx
            have cb2 := HF.out.f.getBa (M x) hq1
            have ci1 := HI.out.cell (ba x) hx2
            have ci2 := HI.out.cell (ba (M x)) hq2
            have fi1 := HI.out.frozen (ba x)
            have fi2 := HI.out.frozen (ba (M x))
            have hne : bi ≠ bf := by
              obtain ⟨_, C, hC, _⟩ := HF.out.f
              obtain ⟨D, hD, _⟩ := HI.out
              intro e
              rw [e, hC] at hD
              simp at hD
            go_wp2_with fail
            have HMx := Hd.mk (show mateS n M x = (M x : Int) by rw [mateS, if_neg (by omega)])
            have hng : bi ≠ gb := by
              obtain ⟨_, C, hC, _⟩ := HF.out.g
              obtain ⟨D, hD, _⟩ := HI.out
              intro e
              rw [e, hC] at hD
              simp at hD
            have hnm : bi ≠ mb := by
              obtain ⟨C, hC, _⟩ := HF.out.m
              obtain ⟨D, hD, _⟩ := HI.out
              intro e
              rw [e, hC] at hD
              simp at hD
            have HFs : Hd (∀ w' o v, Fo w' bf gb mb n mcap nx M p ba us qv → Fo (w'.setCell ⟨bi, o, none⟩ v) bf gb mb n mcap nx M p ba us qv) := ⟨fun w' o v h =>
              ⟨h.f.of_heap (heap_set_ne _ _ _ _ _ hne.symm), h.g.of_heap (heap_set_ne _ _ _ _ _ hng.symm), h.m.of_heap (heap_set_ne _ _ _ _ _ hnm.symm), h.mle⟩⟩
            have HNE := Hd.mk hne
            clear hng hnm
            have i1 : (x : Int) < 24 := by omega
            have i2 : (M x : Int) < 24 := by omega
            have i3 : (ba x : Int) < 24 := by omega
            have i4 : (ba (M x) : Int) < 24 := by omega
            have j1 : (0 : Int) ≤ x := by omega
            have j2 : (0 : Int) ≤ M x := by omega
            have j3 : (0 : Int) ≤ ba x := by omega
            have j4 : (0 : Int) ≤ ba (M x) := by omega
            by_cases hee : ba x = ba (M x)
            · have HEE := Hd.mk hee
              rw [← hee] at cb2
              clear ci2 fi2 i4 j4 hq2 hee
              go_region_held3 (fun w' => w'.cell? ⟨bf, 26 + x, none⟩ = some (.int .i64 (ba x)) ∧ w'.cell? ⟨bf, 26 + M x, none⟩ = some (.int .i64 (ba x)) ∧ Hd (Fo w' bf gb mb n mcap nx M p ba us qv))
                ((refine ⟨?_, ?_, ?_⟩; (go_simp); (go_simp); (first | exact ⟨HF.out.of_heap (fun k hk => rfl)⟩ | exact ⟨HFs.out _ _ _ (HF.out.of_heap (fun k hk => rfl))⟩ | exact ⟨HFs.out _ _ _ (HFs.out _ _ _ (HF.out.of_heap (fun k hk => rfl)))⟩)))
                (first | (go_at_call 156; refine (mate_any _ bf gb mb n mcap x nx M p ba us qv (by exact HF.out.of_heap (fun k hk => rfl)) hx1 (M x) HMx.out).mono ?_; rintro e w1 ⟨rfl, m1, rfl⟩))
              refine gen_world (fun wq => Fo wq bf gb mb n mcap nx M p ba us qv ∧ BBlk wq bi 128 24 n (upd (upd i (ba x) true) (ba (M x)) true) ∧ Below B w wq ∧ (∀ x, x ≠ bf → x ≠ bi → wq.heap[x]? = w.heap[x]?)) ?_ ?_
              · exact ⟨HFs.out _ _ _ (HFs.out _ _ _ (HF.out.of_heap (fun k hk => rfl))), by rw [← HEE.out]; exact ((HI.out.of_heap (w' := wr.drewN _) rfl).set _ hx2 true).set _ hx2 true, bel_set (bel_set (bel_drewN HB.out _) hBi _ _) hBi _ _, fun z h1 h2 => by rw [heap_set_ne _ _ _ _ _ h2, heap_set_ne _ _ _ _ _ h2]; exact HK.out z h1 h2⟩
              · skip
                intro wq ⟨gF, gI, gB, gK⟩
                have cp := gF.f.getPa x hx1
                have fp := gF.f.frozen (2 + x)
                have HI2 := Hd.mk gI
                have HB2 := Hd.mk gB
                have HK2 := Hd.mk gK
                have HF2 := Hd.mk gF
                clear gF gI gB gK cb cb2 ci1 fi1 HF HI HB HK HFs hne hbb
                go_wp2_with fail
                refine (mate_fr _ bf gb mb n mcap x nx M (upd p x c) ba us qv (HF2.out.store (HF2.out.f.setPa x hx1 c)) hx1 _ HMx.out).mono ?_
                rintro e w1 ⟨rfl, hh1, hb1⟩
                have hF3 : Fo (wq.setCell ⟨bf, 2 + x, none⟩ (.int .i64 c)) bf gb mb n mcap nx M (upd p x c) ba us qv := (HF2.out.store (HF2.out.f.setPa x hx1 c))
                have HF3 := Hd.mk (hF3.of_heap (w' := w1) (fun k hk => by rw [hh1]))
                have HI3 := Hd.mk (HI2.out.of_heap (w' := w1) (by rw [hh1, heap_set_ne _ _ _ _ _ HNE.out]))
                have HB3 := Hd.mk (show Below B w w1 from bel_then (bel_set HB2.out hBf (2 + x) (.int .i64 c)) hb1 (Nat.le_trans (Nat.le_trans hBf (Nat.le_of_lt hF3.f.lt)) (Nat.le_refl _)))
                have HK3 := Hd.mk (show ∀ x, x ≠ bf → x ≠ bi → w1.heap[x]? = w.heap[x]? from fun z h1 h2 => by rw [hh1, heap_set_ne _ _ _ _ _ h1]; exact HK2.out z h1 h2)
                have cp3 := HF3.out.f.getPa (M x) hq1
                have HZ := Hd.mk (Int.toNat_of_nonneg hq3)
                clear cp fp HF2 HI2 HB2 HK2 hF3 hh1 hb1 hq3
                go_wp2_with fail
                go_quiet ((go_at_call 156; go_must (exact mate_quiet _ bf gb mb n mcap x nx M (upd p x c) ba us qv HF3.out hx1 _ HMx.out _)))
                go_wp2_with fail
                go_roundg k1
                case measure => omega
                case rel => exact ⟨(upd p x c (M x)).toNat, M x, _, _, by rw [HZ.out], rfl, HQ, ⟨HF3.out.of_heap (fun k hk => rfl)⟩, ⟨HI3.out.of_heap rfl⟩, ⟨bel_drewN HB3.out _⟩, ⟨HK3.out⟩⟩
            · go_region_held3 (fun w' => w'.cell? ⟨bf, 26 + x, none⟩ = some (.int .i64 (ba x)) ∧ w'.cell? ⟨bf, 26 + M x, none⟩ = some (.int .i64 (ba (M x))) ∧ Hd (Fo w' bf gb mb n mcap nx M p ba us qv))
                ((refine ⟨?_, ?_, ?_⟩; (go_simp); (go_simp); (first | exact ⟨HF.out.of_heap (fun k hk => rfl)⟩ | exact ⟨HFs.out _ _ _ (HF.out.of_heap (fun k hk => rfl))⟩ | exact ⟨HFs.out _ _ _ (HFs.out _ _ _ (HF.out.of_heap (fun k hk => rfl)))⟩)))
                (first | (go_at_call 156; refine (mate_any _ bf gb mb n mcap x nx M p ba us qv (by exact HF.out.of_heap (fun k hk => rfl)) hx1 (M x) HMx.out).mono ?_; rintro e w1 ⟨rfl, m1, rfl⟩))
              refine gen_world (fun wq => Fo wq bf gb mb n mcap nx M p ba us qv ∧ BBlk wq bi 128 24 n (upd (upd i (ba x) true) (ba (M x)) true) ∧ Below B w wq ∧ (∀ x, x ≠ bf → x ≠ bi → wq.heap[x]? = w.heap[x]?)) ?_ ?_
              · exact ⟨HFs.out _ _ _ (HFs.out _ _ _ (HF.out.of_heap (fun k hk => rfl))), ((HI.out.of_heap (w' := wr.drewN _) rfl).set _ hx2 true).set _ hq2 true, bel_set (bel_set (bel_drewN HB.out _) hBi _ _) hBi _ _, fun z h1 h2 => by rw [heap_set_ne _ _ _ _ _ h2, heap_set_ne _ _ _ _ _ h2]; exact HK.out z h1 h2⟩
              · skip
                intro wq ⟨gF, gI, gB, gK⟩
                have cp := gF.f.getPa x hx1
                have fp := gF.f.frozen (2 + x)
                have HI2 := Hd.mk gI
                have HB2 := Hd.mk gB
                have HK2 := Hd.mk gK
                have HF2 := Hd.mk gF
                clear gF gI gB gK cb cb2 ci1 fi1 HF HI HB HK HFs hne hbb
                go_wp2_with fail
                refine (mate_fr _ bf gb mb n mcap x nx M (upd p x c) ba us qv (HF2.out.store (HF2.out.f.setPa x hx1 c)) hx1 _ HMx.out).mono ?_
                rintro e w1 ⟨rfl, hh1, hb1⟩
                have hF3 : Fo (wq.setCell ⟨bf, 2 + x, none⟩ (.int .i64 c)) bf gb mb n mcap nx M (upd p x c) ba us qv := (HF2.out.store (HF2.out.f.setPa x hx1 c))
                have HF3 := Hd.mk (hF3.of_heap (w' := w1) (fun k hk => by rw [hh1]))
                have HI3 := Hd.mk (HI2.out.of_heap (w' := w1) (by rw [hh1, heap_set_ne _ _ _ _ _ HNE.out]))
                have HB3 := Hd.mk (show Below B w w1 from bel_then (bel_set HB2.out hBf (2 + x) (.int .i64 c)) hb1 (Nat.le_trans (Nat.le_trans hBf (Nat.le_of_lt hF3.f.lt)) (Nat.le_refl _)))
                have HK3 := Hd.mk (show ∀ x, x ≠ bf → x ≠ bi → w1.heap[x]? = w.heap[x]? from fun z h1 h2 => by rw [hh1, heap_set_ne _ _ _ _ _ h1]; exact HK2.out z h1 h2)
                have cp3 := HF3.out.f.getPa (M x) hq1
                have HZ := Hd.mk (Int.toNat_of_nonneg hq3)
                clear cp fp HF2 HI2 HB2 HK2 hF3 hh1 hb1 hq3
                go_wp2_with fail
                go_quiet ((go_at_call 156; go_must (exact mate_quiet _ bf gb mb n mcap x nx M (upd p x c) ba us qv HF3.out hx1 _ HMx.out _)))
                go_wp2_with fail
                go_roundg k1
                case measure => omega
                case rel => exact ⟨(upd p x c (M x)).toNat, M x, _, _, by rw [HZ.out], rfl, HQ, ⟨HF3.out.of_heap (fun k hk => rfl)⟩, ⟨HI3.out.of_heap rfl⟩, ⟨bel_drewN HB3.out _⟩, ⟨HK3.out⟩⟩
          · exact absurd hx (by simp)
      · exact absurd hx (by simp)
end Go.Proofs.Ytnbdfmdjedakcaa.Pr

namespace Go.Proofs.Ytnbdfmdjedakcaa.Pr
open Go.RowKit
set_option linter.unusedVariables false
set_option linter.unusedSimpArgs false

theorem mate_quiet2 (w : World) (bf gb mb n mcap v : Nat) (nx : Nat → Nat → Bool) (M : Nat → Nat) (pa : Nat → Int) (ba : Nat → Nat) (us : Nat → Bool) (qv : Value)
   (h : Fo w bf gb mb n mcap nx M pa ba us qv) (hv : v < n) (r : Int) (hr : mateS n M v = r) (n0 nq : Nat) :
    Calls Try.prog 156 #[.pointer (some ⟨bf, 0, none⟩), .int .i64 v] (w.drewN (n0 + nq)) fun e w'' => e = .returned (.int .i64 r) ∧ ∃ m, w'' = w.drewN (n0 + m) := by
  have h1 := mate_quiet (w.drewN n0) bf gb mb n mcap v nx M pa ba us qv (h.of_heap (w' := w.drewN n0) (fun k hk => rfl)) hv r hr nq
  simpa only [World.drewN_drewN] using h1

/-- A queue of the call's own: a slice somewhere in a block from B on. -/
def QAt (w : World) (B : Nat) (qv : Value) (qb : Nat) (xs : List Nat) : Prop :=
  ∃ off cap C, qv = .slice (some ⟨qb, off, none⟩) xs.length cap ∧ B ≤ qb ∧ xs.length ≤ cap ∧ w.heap[qb]? = some (.cells C 3 (0, 0)) ∧ off + cap ≤ C.size ∧
    ∀ j, j < xs.length → C[off + j]? = some (.int .i64 (xs.getD j 0))
theorem QAt.of_heap {w w' : World} {B qb : Nat} {qv : Value} {xs : List Nat} (h : QAt w B qv qb xs) (e : w'.heap[qb]? = w.heap[qb]?) : QAt w' B qv qb xs := by
  obtain ⟨off, cap, C, h1, h2, h3, h4, h5⟩ := h
  exact ⟨off, cap, C, h1, h2, h3, e.trans h4, h5⟩
theorem QAt.lt {w : World} {B qb : Nat} {qv : Value} {xs : List Nat} (h : QAt w B qv qb xs) : qb < w.heap.size := by
  obtain ⟨off, cap, C, h1, h2, h3, h4, h5⟩ := h
  exact (Array.getElem?_eq_some_iff.1 h4).1
theorem QAt.ne {w : World} {B qb : Nat} {qv : Value} {xs : List Nat} (h : QAt w B qv qb xs) {b t : Nat} {C : Array Value} {fr : Nat × Nat} (hb : w.heap[b]? = some (.cells C t fr)) (ht : t ≠ 3) : qb ≠ b := by
  obtain ⟨off, cap, D, h1, h2, h3, h4, h5⟩ := h
  intro e
  rw [e, hb] at h4
  simp at h4
  exact ht h4.2.1

theorem QAt.shape {w : World} {B qb : Nat} {qv : Value} {xs : List Nat} (h : QAt w B qv qb xs) : ∃ off len cap, qv = .slice (some ⟨qb, off, none⟩) len cap := by
  obtain ⟨off, cap, C, h1, _⟩ := h
  exact ⟨off, _, cap, h1⟩

theorem tinfo3 : (Try.prog.info? 3).map (fun i => (i.zero, i.size, i.bytes)) = some (some (.int .i64 0), 1, 8) := by kernel_rfl

theorem run_app_q (w : World) (B qb ty : Nat) (qv : Value) (xs : List Nat) (y : Nat) (hQ : QAt w B qv qb xs) (hB : B ≤ w.heap.size) (ad : Addr) (c : Nat) (hy : w.cell? ad = some (.int .i64 y)) (hlen : xs.length < 100000) :
    ∃ v' w' qb', (Builtin.append_ #[28, 28] ty #[qv, .slice (some ad) 1 c]).run Try.prog w = .ok v' w' ∧ QAt w' B v' qb' (xs ++ [y]) ∧ w.grownBy w' (some qb) ∧ (qb' = qb ∨ w.heap.size ≤ qb') := by
  obtain ⟨i0, hi, hzz⟩ := Option.map_eq_some_iff.1 tinfo3
  simp only [Prod.mk.injEq] at hzz
  obtain ⟨hz0, hz1, hz2⟩ := hzz
  obtain ⟨off, cap, C, rfl, h2, h3, h4, h5, h6⟩ := hQ
  have hnews : ∀ j u, [Value.int .i64 (y : Int)][j]? = some u → w.cell? (ad.add j) = some u := by
    intro j u hj
    match j, hj with
    | 0, hj => simp at hj; subst hj; simpa [Addr.add] using hy
  by_cases hr : xs.length + 1 ≤ cap
  · have hq : qb < w.heap.size := (Array.getElem?_eq_some_iff.1 h4).1
    have hcell : w.cell? ⟨qb, off + xs.length, none⟩ = C[off + xs.length]? := cell_of w qb _ C _ _ h4
    have hin : off + xs.length < C.size := by omega
    have hrun := run_append_room_cells (P := Try.prog) w 28 ty 3 i0 Try.underlying28 hi qb off xs.length cap ad 1 c [.int .i64 y] (by simp [hz1]) hnews (by intro u hu; simp at hu; subst hu; rfl) hr
      (by intro j hj; simp at hj; subst hj; rw [hz1]; simp [hcell, hin]) (by intro j hj; exact frozen_of w qb _ C _ h4)
    rw [hz1] at hrun
    simp only [Nat.mul_one] at hrun
    refine ⟨_, _, qb, hrun, ⟨off, cap, C.setIfInBounds (off + xs.length) (.int .i64 y), by simp, h2, by simpa using hr, ?_, by simpa using h5, ?_⟩, ?_, .inl rfl⟩
    · simp only [World.setCells]
      exact heap_set w qb _ _ C _ _ h4
    · intro j hj
      rw [set_get C _ _ _ hin]
      simp only [List.length_append, List.length_cons, List.length_nil] at hj
      by_cases e : j = xs.length
      · subst e; simp
      · rw [if_neg (by omega), h6 j (by omega)]
        simp [List.getElem?_append_left (show j < xs.length by omega)]
    · simp only [World.setCells]
      exact ⟨rfl, rfl, rfl, by simp [World.setCell], fun k _ hk => heap_set_ne w qb _ k _ (fun e => hk (by rw [e]))⟩
  · obtain ⟨v', w', hrun, r1, r2⟩ := run_append_arg_grows (P := Try.prog) w 28 ty 3 i0 (.int .i64 0) 1 8 Try.underlying28 hi hz0 hz1 hz2 rfl (by decide) ⟨qb, off, none⟩ xs.length cap (xs.map fun (z : Nat) => Value.int .i64 (z : Int)) (by simp) (by
        intro j u hj
        rw [show (⟨qb, off, none⟩ : Addr).add j = ⟨qb, off + j, none⟩ from Addr.add_lit .., cell_of w qb _ C _ _ h4]
        have hjl : j < xs.length := by
          have := (List.getElem?_eq_some_iff.1 hj).1
          simpa using this
        rw [h6 j hjl]
        simp only [List.getElem?_map, Option.map_eq_some_iff] at hj
        obtain ⟨z, hz, rfl⟩ := hj
        simp [hz]) ad 1 c [.int .i64 y] (by simp) hnews (by omega) (by unfold maxLen; omega) (by omega)
    obtain ⟨hl, hv⟩ := r1
    rcases hv with ⟨_, hv⟩ | ⟨g, cp, cur, rfl, hg, hh, hn, hm, hs, ht⟩
    · omega
    · refine ⟨_, w', g, hrun, ⟨0, cp, cur, by simp, by omega, by simpa using hn, hh, by omega, ?_⟩, ⟨r2.os, r2.tape, r2.output, r2.size, fun k hk _ => r2.block k hk (by simp)⟩, .inr hg⟩
      intro j hj
      have hj' : j < cur.size := by simp at hj; omega
      have e1 : (cur.toList.take ((xs.length + 1) * 1))[j]? = cur[j]? := by
        rw [List.getElem?_take, if_pos (by simpa using hj)]
        simp
      rw [Nat.zero_add, ← e1, ht]
      simp only [List.length_append, List.length_cons, List.length_nil] at hj
      by_cases e : j = xs.length
      · subst e; simp
      · rw [List.getElem?_append_left (by simp; omega)]
        simp [List.getElem?_append_left (show j < xs.length by omega), List.getElem?_eq_getElem (show j < xs.length by omega)]

/-- append(queue, y): 'W.alloc' is the variadic's box. -/
theorem op_app_q {W : World} {o : Oper} {a : Act} {Q : Exit → Act → World → Prop} {K : Act → World → Prop} (B qb : Nat) (qv : Value) (xs : List Nat) (y : Nat) (s x : Operand)
    (ho : o.op = .call { callee := .builtin .append, args := #[s, x], argTypes := #[28, 28] }) (hs : a.eval s = qv) (hx : a.eval x = .slice (some ⟨W.heap.size, 0, none⟩) 1 1)
    (hQ : QAt W B qv qb xs) (hB : B ≤ W.heap.size) (hlen : xs.length < 100000)
    (h : ∀ v1 w1 qb1, QAt w1 B v1 qb1 (xs ++ [y]) → W.grownBy w1 (some qb) → (qb1 = qb ∨ W.heap.size ≤ qb1) → K (a.put o.dst v1) w1) :
    o.wp Try.prog a (W.alloc (.cells #[.int .i64 y] 3)) K Q := by
  have hQ' : QAt (W.alloc (.cells #[.int .i64 y] 3)) B qv qb xs := hQ.of_heap (alloc_old W _ _ hQ.lt)
  have hy : (W.alloc (.cells #[.int .i64 y] 3)).cell? ⟨W.heap.size, 0, none⟩ = some (.int .i64 y) := by
    rw [cell_of _ _ 0 _ _ _ (alloc_new W _)]; rfl
  have hsz : (W.alloc (.cells #[.int .i64 (y : Int)] 3)).heap.size = W.heap.size + 1 := by show (W.heap.push _).size = _; simp
  obtain ⟨v1, w1, qb1, hrun, r1, r2, r3⟩ := run_app_q (W.alloc (.cells #[.int .i64 y] 3)) B qb o.type qv xs y hQ' (by omega) ⟨W.heap.size, 0, none⟩ 1 hy hlen
  have hk := h v1 w1 qb1 r1 ⟨r2.os, r2.tape, r2.output, by have := r2.size; omega, fun k hk hne => (r2.block k (by omega) hne).trans (alloc_old W _ k hk)⟩ (by omega)
  unfold Oper.wp
  simp [execOp, ho, resolve, invoke, builtin, hs, hx, hrun, Result.andThen]
  exact hk
theorem wpList_app_q {W : World} {ops : Array Oper} {rest : List Oper} {o : Oper} {a : Act} {Q : Exit → Act → World → Prop} (B qb : Nat) (qv : Value) (xs : List Nat) (y : Nat) (hgd : o.guard = none) (s x : Operand)
    (ho : o.op = .call { callee := .builtin .append, args := #[s, x], argTypes := #[28, 28] }) (ad : Nat) (hs : a.eval s = qv) (hx : a.eval x = .slice (some ⟨ad, 0, none⟩) 1 1) (had : ad = W.heap.size)
    (hQ : QAt W B qv qb xs) (hB : B ≤ W.heap.size) (hlen : xs.length < 100000)
    (h : ∀ v1 w1 qb1, QAt w1 B v1 qb1 (xs ++ [y]) → W.grownBy w1 (some qb) → (qb1 = qb ∨ W.heap.size ≤ qb1) → wpList Try.prog ops Q rest (a.put o.dst v1) w1) :
    wpList Try.prog ops Q (o :: rest) a (W.alloc (.cells #[.int .i64 y] 3)) :=
  wpList_plain hgd fun K hK => op_app_q B qb qv xs y s x ho hs (had ▸ hx) hQ hB hlen fun v1 w1 qb1 r1 r2 r3 => hK _ _ (h v1 w1 qb1 r1 r2 r3)

theorem step_app_q {W : World} {ops : Array Oper} {o : Oper} {a : Act} {Q : Exit → Act → World → Prop} {K : Act → World → Prop} {E : Prop} (B qb : Nat) (qv : Value) (xs : List Nat) (y : Nat) (hgd : o.guard = none) (s x : Operand)
    (ho : o.op = .call { callee := .builtin .append, args := #[s, x], argTypes := #[28, 28] }) (ad : Nat) (hs : a.eval s = qv) (hx : a.eval x = .slice (some ⟨ad, 0, none⟩) 1 1) (had : ad = W.heap.size)
    (hQ : QAt W B qv qb xs) (hB : B ≤ W.heap.size) (hlen : xs.length < 100000)
    (h : ∀ v1 w1 qb1, QAt w1 B v1 qb1 (xs ++ [y]) → W.grownBy w1 (some qb) → (qb1 = qb ∨ W.heap.size ≤ qb1) → K (a.put o.dst v1) w1) :
    if Region.wanted o (yielded ops a.tmps) = true then Oper.wp Try.prog o a (W.alloc (.cells #[.int .i64 y] 3)) K Q else E := by
  rw [if_pos (show Region.wanted o (yielded ops a.tmps) = true by simp [Region.wanted, hgd])]
  exact op_app_q B qb qv xs y s x ho hs (had ▸ hx) hQ hB hlen h

/-- The state of a search. -/
structure FS where
  pa : Nat → Int
  ba : Nat → Nat
  us : Nat → Bool
  q : List Nat

/-- The forest in memory. -/
structure FQ (w : World) (B bf gb mb n mcap : Nat) (nx : Nat → Nat → Bool) (M : Nat → Nat) (S : FS) : Prop where
  hB : B ≤ bf
  hM : mb < B
  hG : gb < B
  fo : ∃ qv qb, Fo w bf gb mb n mcap nx M S.pa S.ba S.us qv ∧ QAt w B qv qb S.q

/-- shrink's loop. -/
def shLoop (n b : Nat) (inn : Nat → Bool) : Nat → Nat → FS → Option FS
  | 0, _, S => some S
  | d + 1, i, S =>
    if S.ba i < n then
      if inn (S.ba i) = true then
        if S.us i = true then shLoop n b inn d (i + 1) { S with ba := upd S.ba i b }
        else if S.q.length < 100000 then shLoop n b inn d (i + 1) { S with ba := upd S.ba i b, us := upd S.us i true, q := S.q ++ [i] }
        else none
      else shLoop n b inn d (i + 1) S
    else none
def shrinkS (n : Nat) (M : Nat → Nat) (k : Nat) (S : FS) (v u : Nat) : Option FS :=
  (comS n M S.pa S.ba k v u).bind fun b => (markS n M S.ba b k v u S.pa (fun _ => false)).bind fun r1 =>
    (markS n M S.ba b k u v r1.1 r1.2).bind fun r2 => shLoop n b r2.2 n 0 { S with pa := r2.1 }

end Go.Proofs.Ytnbdfmdjedakcaa.Pr

namespace Go.Proofs.Ytnbdfmdjedakcaa.Pr
open Go.RowKit
set_option linter.unusedVariables false
set_option linter.unusedSimpArgs false

set_option maxHeartbeats 1000000 in
theorem shrink_any (w : World) (B bf gb mb n mcap v u k : Nat) (nx : Nat → Nat → Bool) (M : Nat → Nat) (S S' : FS)
   (h : FQ w B bf gb mb n mcap nx M S) (hr : shrinkS n M k S v u = some S') :
    Calls Try.prog 161 #[.pointer (some ⟨bf, 0, none⟩), .int .i64 v, .int .i64 u] w fun e w' => e = .returned (.tuple #[]) ∧ (FQ w' B bf gb mb n mcap nx M S' ∧ Below B w w') := by
  obtain ⟨b, hb, hr1⟩ := Option.bind_eq_some_iff.1 hr
  obtain ⟨⟨pa1, in1⟩, hm1, hr2⟩ := Option.bind_eq_some_iff.1 hr1
  obtain ⟨⟨pa2, in2⟩, hm2, hr3⟩ := Option.bind_eq_some_iff.1 hr2
  have H1 := Hd.mk hb
  have H2 := Hd.mk hm1
  have H3 := Hd.mk hm2
  have HR := Hd.mk hr3
  obtain ⟨hBf, hMB, hGB, qv, qb, hfo, hq⟩ := h
  have HF := Hd.mk hfo
  have HQ := Hd.mk hq
  clear hb hm1 hm2 hr hr1 hr2 hr3 hfo hq
  go_enter Try.func161, Try.ntmps161
  go_wp2_with fail
  refine (common_any w bf gb mb n mcap v u k b nx M S.pa S.ba S.us qv HF.out H1.out).mono ?_
  rintro e w1 ⟨rfl, hb1⟩
  have HF1 := Hd.mk (HF.out.of_heap (w' := w1) (fun k hk => hb1.block k hk))
  have HQ1 := Hd.mk (HQ.out.of_heap (w' := w1) (hb1.block _ HQ.out.lt))
  have HB1 := Hd.mk hb1
  clear hb1
  go_wp2_with fail
  have hBs : B ≤ w1.heap.size := Nat.le_trans hBf (Nat.le_of_lt HF1.out.f.lt)
  have hbi := BBlk_new w1 n HF1.out.g.le _ rfl
  refine (mark_any _ B bf gb mb w1.heap.size n mcap v b u k nx M S.pa pa1 S.ba S.us _ in1 qv (HF1.out.of_heap (fun k hk => alloc_old w1 _ k hk)) hbi hBf hBs H2.out).mono ?_
  clear hbi
  rintro e w2 ⟨rfl, g2, g3, g4, g5⟩
  have HF2 := Hd.mk g2
  have HI2 := Hd.mk g3
  have HB2 := Hd.mk (show Below B w w2 from (HB1.out.mono (Nat.le_trans hBf (Nat.le_of_lt HF.out.f.lt))).trans (((Below.refl B w1).alloc hBs _).trans g4))
  have HQ2 := Hd.mk (HQ1.out.of_heap (w' := w2) (by
    rw [g5 qb ?_ ?_]
    · exact alloc_old w1 _ qb HQ1.out.lt
    · obtain ⟨_, C, hC, _⟩ := HF1.out.f
      exact HQ1.out.ne hC (by decide)
    · have := HQ1.out.lt
      omega))
  clear g2 g3 g4 g5
  go_wp2_with fail
  refine (mark_any _ B bf gb mb w1.heap.size n mcap u b v k nx M pa1 pa2 S.ba S.us in1 in2 qv HF2.out HI2.out hBf hBs H3.out).mono ?_
  rintro e w3 ⟨rfl, g2, g3, g4, g5⟩
  have HF3 := Hd.mk g2
  have HI3 := Hd.mk g3
  have HB3 := Hd.mk (show Below B w w3 from HB2.out.trans g4)
  have HQ3 := Hd.mk (HQ2.out.of_heap (w' := w3) (by
    rw [g5 qb ?_ ?_]
    · obtain ⟨_, C, hC, _⟩ := HF2.out.f
      exact HQ2.out.ne hC (by decide)
    · have := HQ1.out.lt
      omega))
  have hn := HF1.out.g.le
  have hgn := HF3.out.g.num
  have hfg := HF3.out.f.graph
  have hbi0 : w1.heap.size ≠ bf := by
    have := HF1.out.f.lt
    omega
  generalize w1.heap.size = bi at HI3 hBs hbi0 ⊢
  clear g2 g3 g4 g5 HF1 HQ1 HB1 HF2 HI2 HB2 HQ2 H1 H2 H3 HF HQ
  go_wp2_with fail
  go_loopg [30] n (fun kq v30 wr => ∃ (i : Nat) (T : FS) (qv : Value) (qb : Nat), v30 = .int .i64 i ∧ Hd (i + kq = n) ∧ Hd (shLoop n b in2 kq i T = some S') ∧ Hd (Fo wr bf gb mb n mcap nx M T.pa T.ba T.us qv) ∧
    Hd (QAt wr B qv qb T.q) ∧ Hd (BBlk wr bi 128 24 n in2) ∧ Hd (Below B w wr))
  case atStart => exact ⟨0, { S with pa := pa2 }, qv, qb, rfl, ⟨by omega⟩, HR, HF3, HQ3, HI3, HB3⟩
  case round =>
    obtain ⟨i, T, qv, qb, rfl, HK, HX, HF, HQ, HI, HB⟩ := hrel
    clear HF3 HQ3 HI3 HB3 HR hgn hfg
    cases gk with
    | zero =>
      have hi := HK.out
      have hlt : ¬ (i : Int) < n := by omega
      have hx := Option.some.inj (show some T = some S' from HX.out)
      subst hx
      clear hi
      go_wp2_with fail
      go_end0
      exact ⟨rfl, ⟨hBf, hMB, hGB, _, _, HF.out, HQ.out⟩, HB.out⟩
    | succ k1 =>
      have hi := HK.out
      have hlt : (i : Int) < n := by omega
      have hlt' : i < n := by omega
      have hx := HX.out
      clear HX hi
      simp only [shLoop] at hx
      split at hx
      · rename_i hbn
        have cb := HF.out.f.getBa i hlt'
        have ci := HI.out.cell (T.ba i) hbn
        by_cases hin : in2 (T.ba i) = true
        · rw [if_pos hin] at hx
          rw [hin] at ci
          have fb := HF.out.f.frozen (26 + i)
          have hF2 := HF.out.store (HF.out.f.setBa i hlt' b)
          have HB2 := Hd.mk (bel_set HB.out hBf (26 + i) (.int .i64 b))
          have cu := hF2.f.getUs i hlt'
          have HF2 := Hd.mk hF2
          have HI2 := Hd.mk (HI.out.of_heap (w' := wr.setCell ⟨bf, 26 + i, none⟩ (.int .i64 b)) (heap_set_ne _ _ _ _ _ hbi0))
          have hqf : qb ≠ bf := by
            obtain ⟨_, C, hC, _⟩ := HF.out.f
            exact HQ.out.ne hC (by decide)
          have HQ2 := Hd.mk (HQ.out.of_heap (w' := wr.setCell ⟨bf, 26 + i, none⟩ (.int .i64 b)) (heap_set_ne _ _ _ _ _ hqf))
          clear hF2 hin
          by_cases hus : T.us i = true
          · rw [if_pos hus] at hx
            rw [hus] at cu
            have HX := Hd.mk hx
            clear hx hus
            go_wp2_with fail
            go_roundg k1
            case measure => omega
            case rel => exact ⟨i + 1, _, qv, qb, by go_num, ⟨by have := HK.out; omega⟩, HX, HF2, HQ2, HI2, HB2⟩
          · rw [if_neg hus] at hx
            have hus' : T.us i = false := by simpa using hus
            rw [hus'] at cu
            clear hus hus'
            split at hx
            · rename_i hql
              have HX := Hd.mk hx
              have HQL := Hd.mk hql
              clear hx hql
              have fu := HF2.out.f.frozen (50 + i)
              have hF3 := HF2.out.store (HF2.out.f.setUs i hlt' true)
              have cq := hF3.f.queue
              have HF3 := Hd.mk hF3
              have HB3 := Hd.mk (bel_set HB2.out hBf (50 + i) (.bool true))
              have HI3 := Hd.mk (HI2.out.of_heap (w' := (wr.setCell ⟨bf, 26 + i, none⟩ (.int .i64 b)).setCell ⟨bf, 50 + i, none⟩ (.bool true)) (heap_set_ne _ _ _ _ _ hbi0))
              have HQ3 := Hd.mk (HQ2.out.of_heap (w' := (wr.setCell ⟨bf, 26 + i, none⟩ (.int .i64 b)).setCell ⟨bf, 50 + i, none⟩ (.bool true)) (heap_set_ne _ _ _ _ _ hqf))
              have hsz : B ≤ ((wr.setCell ⟨bf, 26 + i, none⟩ (.int .i64 b)).setCell ⟨bf, 50 + i, none⟩ (.bool true)).heap.size := Nat.le_trans hBf (Nat.le_of_lt hF3.f.lt)
              clear hF3
              go_wp2_with (at_builtin; go_must (refine wpList_app_q B qb qv T.q i rfl (.tmp 64) (.tmp 66) rfl wr.heap.size rfl rfl (by simp [size_set]) HQ3.out hsz HQL.out ?_))
              intro v1 w4 qb1 r1 r2 r3
              obtain ⟨off1, len1, cap1, rfl⟩ := r1.shape
              have hbq : some bf ≠ some qb := by intro e; injection e with e; exact hqf e.symm
              have hmq : some mb ≠ some qb := by
                intro e; injection e with e
                obtain ⟨_, _, _, _, h2, _⟩ := HQ.out
                omega
              have hgq : some gb ≠ some qb := by
                intro e; injection e with e
                obtain ⟨_, _, _, _, h2, _⟩ := HQ.out
                omega
              have hF4 : Fo w4 bf gb mb n mcap nx M T.pa (upd T.ba i b) (upd T.us i true) qv :=
                ⟨HF3.out.f.of_heap (r2.block _ HF3.out.f.lt hbq), HF3.out.g.of_heap (r2.block _ HF3.out.g.lt hgq), HF3.out.m.of_heap (r2.block _ HF3.out.m.lt hmq), HF3.out.mle⟩
              have cq4 := hF4.f.queue
              have fq4 := hF4.f.frozen 74
              have HF5 := Hd.mk (hF4.store (hF4.f.setQ (.slice (some ⟨qb1, off1, none⟩) len1 cap1)))
              have hqf1 : qb1 ≠ bf := by
                rcases r3 with r3 | r3
                · rw [r3]; exact hqf
                · have h9 := HF.out.f.lt
                  omega
              have hbi1 : some bi ≠ some qb := by
                intro e; injection e with e
                obtain ⟨C, hC, _⟩ := HI.out
                exact HQ.out.ne hC (by decide) e.symm
              have HQ5 := Hd.mk (r1.of_heap (w' := w4.setCell ⟨bf, 74, none⟩ (.slice (some ⟨qb1, off1, none⟩) len1 cap1)) (heap_set_ne _ _ _ _ _ hqf1))
              have HI5 := Hd.mk ((HI3.out.of_heap (r2.block _ HI3.out.lt hbi1)).of_heap (w' := w4.setCell ⟨bf, 74, none⟩ (.slice (some ⟨qb1, off1, none⟩) len1 cap1)) (heap_set_ne _ _ _ _ _ hbi0))
              have HB5 := Hd.mk (bel_set (HB3.out.grown r2 hsz (fun k hk => by injection hk with hk; subst hk; obtain ⟨_, _, _, _, h2, _⟩ := HQ.out; exact h2)) hBf 74 (.slice (some ⟨qb1, off1, none⟩) len1 cap1))
              clear hbq hmq hgq hF4 hqf1 hbi1 r1 r2 r3 HF2 HF3 HB2 HB3 HI2 HI3 HQ2 HQ3 cu fu cq fb cb ci hsz
              go_wp2_with fail
              go_roundg k1
              case measure => omega
              case rel => exact ⟨i + 1, _, _, qb1, by go_num, ⟨by have := HK.out; omega⟩, HX, HF5, HQ5, HI5, HB5⟩
            · exact absurd hx (by simp)
        · rw [if_neg hin] at hx
          have hin' : in2 (T.ba i) = false := by simpa using hin
          rw [hin'] at ci
          have HX := Hd.mk hx
          clear hx hin hin'
          go_wp2_with fail
          go_roundg k1
          case measure => omega
          case rel => exact ⟨i + 1, T, qv, qb, by go_num, ⟨by have := HK.out; omega⟩, HX, HF, HQ, HI, HB⟩
      · exact absurd hx (by simp)
end Go.Proofs.Ytnbdfmdjedakcaa.Pr
