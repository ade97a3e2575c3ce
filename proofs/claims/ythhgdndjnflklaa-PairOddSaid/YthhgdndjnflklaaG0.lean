import Derived.Test.YthhgdndjnflklaaProg
import Derived.Below
import Derived.Deep.Draws
import Derived.Deep.AppendLies
import Derived.Maps.AppendAt
import Derived.OwnWalk
import Derived.Laws.BytesArg
import Derived.Laws.MakeOwn
import Derived.Laws.OwnMore
import Derived.Deep.OwnRows
import Derived.Tactics
import Derived.Lib.ConvBytes
import Derived.Laws.Slices
import Derived.WalkKit
import Derived.KernelRfl
import Derived.RowKit3
import Derived.Deep.LoopGhost
import Derived.Deep.QuietTactic
import Derived.BigQuiet
import Derived.WideLaws
import Derived.Deep.DeepCutAuto
import Derived.Deep.CutBlock
import Derived.Deep.RegionHeld3
import Derived.Laws.Rows
import Derived.Lib.AppendStr
import Derived.ArgAppend
import Derived.Laws.IdiomCopy
import Derived.OrdersHeld
import Derived.Laws.BitsLemmas
import Derived.RowKit
import Derived.WalkLawsBesides
import Derived.WalkSpells
import Derived.Deep.DeepMust
import Derived.Deep.DeepFit
import Derived.Deep.RegionWith
import Derived.Deep.RegionLaw
namespace Go.Proofs.Ythhgdndjnflklaa
open Go.RowKit

/-- A fact that the walk's simp doesn't look into. -/
structure Hd (p : Prop) : Prop where mk :: (out : p)

/-! ### Blocks of memory, told by functions -/
def upd {α : Type} (f : Nat → α) (i : Nat) (x : α) : Nat → α := fun j => if j = i then x else f j
theorem upd_same {α : Type} (f : Nat → α) (i : Nat) (x : α) : upd f i x i = x := by simp [upd]
theorem upd_ne {α : Type} (f : Nat → α) {i j : Nat} (x : α) (h : j ≠ i) : upd f i x j = f j := by simp [upd, h]

theorem set_get (C : Array Value) (k j : Nat) (v : Value) (h : k < C.size) : (C.setIfInBounds k v)[j]? = if j = k then some v else C[j]? := by
  rw [Array.getElem?_setIfInBounds]
  by_cases e : k = j
  · subst e; simp [h]
  · rw [if_neg e, if_neg (fun z => e z.symm)]

theorem heap_set (w : World) (b o : Nat) (v : Value) (C : Array Value) (t : TypeId) (fr : Nat × Nat) (h : w.heap[b]? = some (.cells C t fr)) :
    (w.setCell ⟨b, o, none⟩ v).heap[b]? = some (.cells (C.setIfInBounds o v) t fr) := by
  have hb : b < w.heap.size := (Array.getElem?_eq_some_iff.1 h).1
  simp only [World.setCell]
  rw [Array.getElem?_modify]
  simp [h]

theorem heap_set_ne (w : World) (b o k : Nat) (v : Value) (h : k ≠ b) : (w.setCell ⟨b, o, none⟩ v).heap[k]? = w.heap[k]? := by
  simp only [World.setCell]
  rw [Array.getElem?_modify]
  simp [Ne.symm h]

theorem size_set (w : World) (b o : Nat) (v : Value) : (w.setCell ⟨b, o, none⟩ v).heap.size = w.heap.size := by simp [World.setCell]

theorem cell_of (w : World) (b o : Nat) (C : Array Value) (t : TypeId) (fr : Nat × Nat) (h : w.heap[b]? = some (.cells C t fr)) : w.cell? ⟨b, o, none⟩ = C[o]? := by
  simp [World.cell?, h]
theorem frozen_of (w : World) (b o : Nat) (C : Array Value) (t : TypeId) (h : w.heap[b]? = some (.cells C t (0, 0))) : w.frozen? ⟨b, o, none⟩ = false := by
  simp [World.frozen?, h]

/-- A row of Bools of which the first n count (an array variable). -/
def BBlk (w : World) (b t sz n : Nat) (f : Nat → Bool) : Prop :=
  ∃ C, w.heap[b]? = some (.cells C t (0, 0)) ∧ C.size = sz ∧ n ≤ sz ∧ ∀ j, j < n → C[j]? = some (.bool (f j))
/-- A row of numbers of which the first n count. -/
def NBlk (w : World) (b n : Nat) (f : Nat → Nat) : Prop :=
  ∃ C, w.heap[b]? = some (.cells C 3 (0, 0)) ∧ n ≤ C.size ∧ ∀ j, j < n → C[j]? = some (.int .i64 (f j))
/-- A graph. -/
def GBlk (w : World) (b n : Nat) (nx : Nat → Nat → Bool) : Prop :=
  n ≤ 24 ∧ ∃ C, w.heap[b]? = some (.cells C 66 (0, 0)) ∧ C.size = 577 ∧ C[0]? = some (.int .i64 n) ∧ (∀ i j, i < n → j < n → C[1 + i * 24 + j]? = some (.bool (nx i j))) ∧ ∀ v, v ∈ C → v.oneCell' = true
/-- The forest's own block. -/
def FBlk (w : World) (b g n : Nat) (mv qv : Value) (pa : Nat → Int) (ba : Nat → Nat) (us : Nat → Bool) : Prop :=
  n ≤ 24 ∧ ∃ C, w.heap[b]? = some (.cells C 75 (0, 0)) ∧ C.size = 75 ∧ C[0]? = some (.pointer (some ⟨g, 0, none⟩)) ∧ C[1]? = some mv ∧
    (∀ i, i < n → C[2 + i]? = some (.int .i64 (pa i))) ∧ (∀ i, i < n → C[26 + i]? = some (.int .i64 (ba i))) ∧
    (∀ i, i < n → C[50 + i]? = some (.bool (us i))) ∧ C[74]? = some qv

section
variable {w w' : World} {b t sz n : Nat}
theorem BBlk.cell {f : Nat → Bool} (h : BBlk w b t sz n f) (j : Nat) (hj : j < n) : w.cell? ⟨b, j, none⟩ = some (.bool (f j)) := by
  obtain ⟨C, hC, _, _, hf⟩ := h
  rw [cell_of w b j C _ _ hC, hf j hj]
theorem BBlk.frozen {f : Nat → Bool} (h : BBlk w b t sz n f) (j : Nat) : w.frozen? ⟨b, j, none⟩ = false := by
  obtain ⟨C, hC, _⟩ := h
  exact frozen_of w b j C _ hC
theorem BBlk.set {f : Nat → Bool} (h : BBlk w b t sz n f) (j : Nat) (hj : j < n) (x : Bool) : BBlk (w.setCell ⟨b, j, none⟩ (.bool x)) b t sz n (upd f j x) := by
  obtain ⟨C, hC, hs, hn, hf⟩ := h
  refine ⟨_, heap_set w b j _ C _ _ hC, by simpa using hs, hn, fun i hi => ?_⟩
  rw [set_get C j i _ (by omega)]
  unfold upd
  split <;> simp_all
theorem BBlk.of_heap {f : Nat → Bool} (h : BBlk w b t sz n f) (e : w'.heap[b]? = w.heap[b]?) : BBlk w' b t sz n f := by
  obtain ⟨C, hC, r⟩ := h
  exact ⟨C, e.trans hC, r⟩
theorem BBlk.lt {f : Nat → Bool} (h : BBlk w b t sz n f) : b < w.heap.size := by
  obtain ⟨C, hC, r⟩ := h
  exact (Array.getElem?_eq_some_iff.1 hC).1

theorem NBlk.cell {f : Nat → Nat} (h : NBlk w b n f) (j : Nat) (hj : j < n) : w.cell? ⟨b, j, none⟩ = some (.int .i64 (f j)) := by
  obtain ⟨C, hC, _, hf⟩ := h
  rw [cell_of w b j C _ _ hC, hf j hj]
theorem NBlk.frozen {f : Nat → Nat} (h : NBlk w b n f) (j : Nat) : w.frozen? ⟨b, j, none⟩ = false := by
  obtain ⟨C, hC, _⟩ := h
  exact frozen_of w b j C _ hC
theorem NBlk.set {f : Nat → Nat} (h : NBlk w b n f) (j : Nat) (hj : j < n) (x : Nat) : NBlk (w.setCell ⟨b, j, none⟩ (.int .i64 x)) b n (upd f j x) := by
  obtain ⟨C, hC, hn, hf⟩ := h
  refine ⟨_, heap_set w b j _ C _ _ hC, by simpa using hn, fun i hi => ?_⟩
  rw [set_get C j i _ (by omega)]
  unfold upd
  split <;> simp_all
theorem NBlk.of_heap {f : Nat → Nat} (h : NBlk w b n f) (e : w'.heap[b]? = w.heap[b]?) : NBlk w' b n f := by
  obtain ⟨C, hC, r⟩ := h
  exact ⟨C, e.trans hC, r⟩
theorem NBlk.lt {f : Nat → Nat} (h : NBlk w b n f) : b < w.heap.size := by
  obtain ⟨C, hC, r⟩ := h
  exact (Array.getElem?_eq_some_iff.1 hC).1
theorem NBlk.congr {f g : Nat → Nat} (h : NBlk w b n f) (e : ∀ j, j < n → f j = g j) : NBlk w b n g := by
  obtain ⟨C, hC, hn, hf⟩ := h
  exact ⟨C, hC, hn, fun j hj => by rw [hf j hj, e j hj]⟩

theorem GBlk.num {nx : Nat → Nat → Bool} (h : GBlk w b n nx) : w.cell? ⟨b, 0, none⟩ = some (.int .i64 n) := by
  obtain ⟨_, C, hC, _, h0, _⟩ := h
  rw [cell_of w b 0 C _ _ hC, h0]
theorem GBlk.getNx {nx : Nat → Nat → Bool} (h : GBlk w b n nx) (i j : Nat) (hi : i < n) (hj : j < n) : w.cell? ⟨b, 1 + i * 24 + j, none⟩ = some (.bool (nx i j)) := by
  obtain ⟨_, C, hC, _, _, hf, _⟩ := h
  rw [cell_of w b _ C _ _ hC, hf i j hi hj]
theorem GBlk.frozen {nx : Nat → Nat → Bool} (h : GBlk w b n nx) (j : Nat) : w.frozen? ⟨b, j, none⟩ = false := by
  obtain ⟨_, C, hC, _⟩ := h
  exact frozen_of w b j C _ hC
theorem GBlk.le {nx : Nat → Nat → Bool} (h : GBlk w b n nx) : n ≤ 24 := h.1
theorem GBlk.set {nx : Nat → Nat → Bool} (h : GBlk w b n nx) (a c : Nat) (ha : a < n) (hc : c < n) (x : Bool) :
    GBlk (w.setCell ⟨b, 1 + a * 24 + c, none⟩ (.bool x)) b n (fun i j => if i = a ∧ j = c then x else nx i j) := by
  obtain ⟨hn, C, hC, hs, h0, hf, h1⟩ := h
  refine ⟨hn, _, heap_set w b _ _ C _ _ hC, by simpa using hs, ?_, fun i j hi hj => ?_, fun v hv => ?_⟩
  · rw [set_get C _ _ _ (by omega), if_neg (by omega)]; exact h0
  · rw [set_get C _ _ _ (by omega)]
    by_cases e : i = a ∧ j = c
    · obtain ⟨rfl, rfl⟩ := e; simp
    · rw [if_neg (by omega), hf i j hi hj]; simp [e]
  · rcases Array.mem_or_eq_of_mem_setIfInBounds hv with h2 | h2
    · exact h1 v h2
    · subst h2; rfl
theorem GBlk.of_heap {nx : Nat → Nat → Bool} (h : GBlk w b n nx) (e : w'.heap[b]? = w.heap[b]?) : GBlk w' b n nx := by
  obtain ⟨hn, C, hC, r⟩ := h
  exact ⟨hn, C, e.trans hC, r⟩
theorem GBlk.lt {nx : Nat → Nat → Bool} (h : GBlk w b n nx) : b < w.heap.size := by
  obtain ⟨_, C, hC, r⟩ := h
  exact (Array.getElem?_eq_some_iff.1 hC).1
theorem GBlk.congr {nx ny : Nat → Nat → Bool} (h : GBlk w b n nx) (e : ∀ i j, i < n → j < n → nx i j = ny i j) : GBlk w b n ny := by
  obtain ⟨hn, C, hC, hs, h0, hf, h1⟩ := h
  exact ⟨hn, C, hC, hs, h0, fun i j hi hj => by rw [hf i j hi hj, e i j hi hj], h1⟩

variable {g : Nat} {mv qv : Value} {pa : Nat → Int} {ba : Nat → Nat} {us : Nat → Bool}
theorem FBlk.le (h : FBlk w b g n mv qv pa ba us) : n ≤ 24 := h.1
theorem FBlk.graph (h : FBlk w b g n mv qv pa ba us) : w.cell? ⟨b, 0, none⟩ = some (.pointer (some ⟨g, 0, none⟩)) := by
  obtain ⟨_, C, hC, _, h0, _⟩ := h
  rw [cell_of w b _ C _ _ hC, h0]
theorem FBlk.mates (h : FBlk w b g n mv qv pa ba us) : w.cell? ⟨b, 1, none⟩ = some mv := by
  obtain ⟨_, C, hC, _, _, h0, _⟩ := h
  rw [cell_of w b _ C _ _ hC, h0]
theorem FBlk.getPa (h : FBlk w b g n mv qv pa ba us) (i : Nat) (hi : i < n) : w.cell? ⟨b, 2 + i, none⟩ = some (.int .i64 (pa i)) := by
  obtain ⟨_, C, hC, _, _, _, h0, _⟩ := h
  rw [cell_of w b _ C _ _ hC, h0 i hi]
theorem FBlk.getBa (h : FBlk w b g n mv qv pa ba us) (i : Nat) (hi : i < n) : w.cell? ⟨b, 26 + i, none⟩ = some (.int .i64 (ba i)) := by
  obtain ⟨_, C, hC, _, _, _, _, h0, _⟩ := h
  rw [cell_of w b _ C _ _ hC, h0 i hi]
theorem FBlk.getUs (h : FBlk w b g n mv qv pa ba us) (i : Nat) (hi : i < n) : w.cell? ⟨b, 50 + i, none⟩ = some (.bool (us i)) := by
  obtain ⟨_, C, hC, _, _, _, _, _, h0, _⟩ := h
  rw [cell_of w b _ C _ _ hC, h0 i hi]
theorem FBlk.queue (h : FBlk w b g n mv qv pa ba us) : w.cell? ⟨b, 74, none⟩ = some qv := by
  obtain ⟨_, C, hC, _, _, _, _, _, _, h0⟩ := h
  rw [cell_of w b _ C _ _ hC, h0]
theorem FBlk.frozen (h : FBlk w b g n mv qv pa ba us) (j : Nat) : w.frozen? ⟨b, j, none⟩ = false := by
  obtain ⟨_, C, hC, _⟩ := h
  exact frozen_of w b j C _ hC
theorem FBlk.of_heap (h : FBlk w b g n mv qv pa ba us) (e : w'.heap[b]? = w.heap[b]?) : FBlk w' b g n mv qv pa ba us := by
  obtain ⟨hn, C, hC, r⟩ := h
  exact ⟨hn, C, e.trans hC, r⟩
theorem FBlk.lt (h : FBlk w b g n mv qv pa ba us) : b < w.heap.size := by
  obtain ⟨_, C, hC, r⟩ := h
  exact (Array.getElem?_eq_some_iff.1 hC).1
theorem FBlk.setPa (h : FBlk w b g n mv qv pa ba us) (k : Nat) (hk : k < n) (x : Int) : FBlk (w.setCell ⟨b, 2 + k, none⟩ (.int .i64 x)) b g n mv qv (upd pa k x) ba us := by
  obtain ⟨hn, C, hC, hs, h0, h1, h2, h3, h4, h5⟩ := h
  have G := fun j => set_get C (2 + k) j (.int .i64 x) (by omega)
  refine ⟨hn, _, heap_set w b _ _ C _ _ hC, by simpa using hs, ?_, ?_, fun i hi => ?_, fun i hi => ?_, fun i hi => ?_, ?_⟩ <;> rw [G]
  · rw [if_neg (by omega)]; exact h0
  · rw [if_neg (by omega)]; exact h1
  · unfold upd
    by_cases e : i = k
    · rw [if_pos (by omega), if_pos e]
    · rw [if_neg (by omega), if_neg e]; exact h2 i hi
  · rw [if_neg (by omega)]; exact h3 i hi
  · rw [if_neg (by omega)]; exact h4 i hi
  · rw [if_neg (by omega)]; exact h5
theorem FBlk.setBa (h : FBlk w b g n mv qv pa ba us) (k : Nat) (hk : k < n) (x : Nat) : FBlk (w.setCell ⟨b, 26 + k, none⟩ (.int .i64 x)) b g n mv qv pa (upd ba k x) us := by
  obtain ⟨hn, C, hC, hs, h0, h1, h2, h3, h4, h5⟩ := h
  have G := fun j => set_get C (26 + k) j (.int .i64 x) (by omega)
  refine ⟨hn, _, heap_set w b _ _ C _ _ hC, by simpa using hs, ?_, ?_, fun i hi => ?_, fun i hi => ?_, fun i hi => ?_, ?_⟩ <;> rw [G]
  · rw [if_neg (by omega)]; exact h0
  · rw [if_neg (by omega)]; exact h1
  · rw [if_neg (by omega)]; exact h2 i hi
  · unfold upd
    by_cases e : i = k
    · rw [if_pos (by omega), if_pos e]
    · rw [if_neg (by omega), if_neg e]; exact h3 i hi
  · rw [if_neg (by omega)]; exact h4 i hi
  · rw [if_neg (by omega)]; exact h5
theorem FBlk.setUs (h : FBlk w b g n mv qv pa ba us) (k : Nat) (hk : k < n) (x : Bool) : FBlk (w.setCell ⟨b, 50 + k, none⟩ (.bool x)) b g n mv qv pa ba (upd us k x) := by
  obtain ⟨hn, C, hC, hs, h0, h1, h2, h3, h4, h5⟩ := h
  have G := fun j => set_get C (50 + k) j (.bool x) (by omega)
  refine ⟨hn, _, heap_set w b _ _ C _ _ hC, by simpa using hs, ?_, ?_, fun i hi => ?_, fun i hi => ?_, fun i hi => ?_, ?_⟩ <;> rw [G]
  · rw [if_neg (by omega)]; exact h0
  · rw [if_neg (by omega)]; exact h1
  · rw [if_neg (by omega)]; exact h2 i hi
  · rw [if_neg (by omega)]; exact h3 i hi
  · unfold upd
    by_cases e : i = k
    · rw [if_pos (by omega), if_pos e]
    · rw [if_neg (by omega), if_neg e]; exact h4 i hi
  · rw [if_neg (by omega)]; exact h5
theorem FBlk.setQ (h : FBlk w b g n mv qv pa ba us) (q' : Value) : FBlk (w.setCell ⟨b, 74, none⟩ q') b g n mv q' pa ba us := by
  obtain ⟨hn, C, hC, hs, h0, h1, h2, h3, h4, h5⟩ := h
  have G := fun j => set_get C 74 j q' (by omega)
  refine ⟨hn, _, heap_set w b _ _ C _ _ hC, by simpa using hs, ?_, ?_, fun i hi => ?_, fun i hi => ?_, fun i hi => ?_, ?_⟩ <;> rw [G]
  · rw [if_neg (by omega)]; exact h0
  · rw [if_neg (by omega)]; exact h1
  · rw [if_neg (by omega)]; exact h2 i hi
  · rw [if_neg (by omega)]; exact h3 i hi
  · rw [if_neg (by omega)]; exact h4 i hi
  · rw [if_pos rfl]
theorem FBlk.congr {pa' : Nat → Int} {ba' : Nat → Nat} {us' : Nat → Bool} (h : FBlk w b g n mv qv pa ba us) (e1 : ∀ i, i < n → pa i = pa' i) (e2 : ∀ i, i < n → ba i = ba' i) (e3 : ∀ i, i < n → us i = us' i) : FBlk w b g n mv qv pa' ba' us' := by
  obtain ⟨hn, C, hC, hs, h0, h1, h2, h3, h4, h5⟩ := h
  exact ⟨hn, C, hC, hs, h0, h1, fun i hi => by rw [h2 i hi, e1 i hi], fun i hi => by rw [h3 i hi, e2 i hi], fun i hi => by rw [h4 i hi, e3 i hi], h5⟩
end

theorem drewN_heap (w : World) (m : Nat) : (w.drewN m).heap = w.heap := rfl
theorem drew_heap (w : World) : w.drew.heap = w.heap := rfl
theorem alloc_old (w : World) (o : Obj) (k : Nat) (h : k < w.heap.size) : (w.alloc o).heap[k]? = w.heap[k]? := by
  show (w.heap.push o)[k]? = _
  rw [Array.getElem?_push, if_neg (by omega)]
theorem alloc_new (w : World) (o : Obj) : (w.alloc o).heap[w.heap.size]? = some o := by
  show (w.heap.push o)[_]? = _
  simp
theorem bel_set {B : Nat} {a w : World} (h : Below B a w) {b : Nat} (hb : B ≤ b) (o : Nat) (u : Value) : Below B a (w.setCell ⟨b, o, none⟩ u) := Below.setCell h (p := ⟨b, o, none⟩) hb u
theorem bel_drewN {B : Nat} {a w : World} (h : Below B a w) (m : Nat) : Below B a (w.drewN m) := ⟨h.os, h.tape, h.output, h.size, h.block⟩
theorem bel_then {B : Nat} {a w w' : World} (h : Below B a w) (k : Below w.heap.size w w') (hB : B ≤ w.heap.size) : Below B a w' := h.trans (k.mono hB)
theorem cell_alloc_ {w : World} {b o : Nat} {v : Value} (h : w.cell? ⟨b, o, none⟩ = some v) (hb : b < w.heap.size) : ∀ ob : Obj, (w.alloc ob).cell? ⟨b, o, none⟩ = some v := fun ob => by
  rw [← h]
  simp only [World.cell?, alloc_old w ob b hb]
theorem frozen_alloc_ {w : World} {b o : Nat} {f : Bool} (h : w.frozen? ⟨b, o, none⟩ = f) (hb : b < w.heap.size) : ∀ ob : Obj, (w.alloc ob).frozen? ⟨b, o, none⟩ = f := fun ob => by
  rw [← h]
  simp only [World.frozen?, alloc_old w ob b hb]
/-- The world at hand, told by what is known of it. -/
theorem gen_world {Q : Exit → Act → World → Prop} {e : Exit} {a : Act} {W : World} (I : World → Prop) (h : I W) (k : ∀ w, I w → Q e a w) : Q e a W := k W h
/-- 24 Bools that 'var x [24]bool' makes. -/
theorem BBlk_new (w : World) (n : Nat) (hn : n ≤ 24) (cs : Array Value) (h : cs = Array.replicate 24 (.bool false)) : BBlk (w.alloc (.cells cs 63)) w.heap.size 63 24 n (fun _ => false) := by
  subst h
  exact ⟨_, alloc_new w _, by simp, hn, fun j hj => by rw [Array.getElem?_replicate, if_pos (by omega)]⟩
end Go.Proofs.Ythhgdndjnflklaa
