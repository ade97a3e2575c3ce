/- Rows of 26 numbers as values: the walk's steps. No conditions. -/
import Derived.Test.YtnbdfmdjedakcaaHC
import Derived.Laws.Rows
import Derived.Laws.IdiomCopy
namespace Go.Proofs.Ytnbdfmdjedakcaa
open Go.RowKit Go.Proofs.YtnbdfmdjedakcaaW.PrintWords Go.Proofs.YtnbdfmdjedakcaaW.PrintLast Go.Proofs.YtnbdfmdjedakcaaW.PrintMore PP
set_option linter.unusedVariables false
set_option linter.unusedSimpArgs false
def rowL (f : Nat → Int) : List Value := (List.range 26).map fun j => encI (f j)
/-- A row of numbers as a value. -/
def aggI (f : Nat → Int) : Value := .agg (rowL f).toArray
def putRow (w : World) (b : Nat) (f : Nat → Int) : World := w.setCells b 0 (rowL f)
theorem rowL_len (f : Nat → Int) : (rowL f).length = 26 := by simp [rowL]
theorem rowL_get (f : Nat → Int) (j : Nat) (hj : j < 26) : (rowL f)[j]? = some (encI (f j)) := by simp [rowL, hj]
theorem add_lit' (b o j : Nat) : (⟨b, o, none⟩ : Addr).add j = ⟨b, o + j, none⟩ := by unfold Addr.add; split <;> simp_all
section
variable {ops : Array Oper} {rest : List Oper} {o : Oper} {a : Act} {w : World} {Q : Exit → Act → World → Prop}
theorem run_row (b off : Nat) (f : Nat → Int) (hc : ∀ j, j < 26 → w.cell? ⟨b, off + j, none⟩ = some (encI (f j))) : (loadVar 96 ⟨b, off, none⟩).run Try.prog w = .ok (aggI f) w := by
  have hl := run_loadCells_list (P := Try.prog) (w := w) ⟨b, off, none⟩ (rowL f) (fun j v hv => by
    have hj : j < 26 := by have := (List.getElem?_eq_some_iff.1 hv).1; rwa [rowL_len] at this
    rw [rowL_get f j hj] at hv
    rw [add_lit', hc j hj, hv])
  rw [rowL_len] at hl
  simp only [loadVar, Sem.run_bind, Try.isAgg96, Try.sizeOf96, Result.andThen_ok, if_true, hl, Sem.run_pure]
  rfl
theorem wpL_load (hgd : o.guard = none) (x : Operand) (ho : o.op = .load 96 x) (b off : Nat) (hx : a.eval x = .pointer (some ⟨b, off, none⟩)) (f : Nat → Int)
    (hc : ∀ j, j < 26 → w.cell? ⟨b, off + j, none⟩ = some (encI (f j))) (h : wpList Try.prog ops Q rest (a.put o.dst (aggI f)) w) : wpList Try.prog ops Q (o :: rest) a w :=
  wpList_plain hgd fun K hK => by
    unfold Oper.wp execOp
    simp only [ho, hx, Instr.loadAt, Instr.sureAddr, Sem.run_bind, Sem.run_pure, Result.andThen_ok, run_row b off f hc]
    exact hK _ _ h
theorem wpL_index (hgd : o.guard = none) (x y : Operand) (ho : o.op = .index 96 x y) (f : Nat → Int) (hx : a.eval x = aggI f) (k : Nat) (hy : a.eval y = .int .i64 (k : Int)) (hk : k < 26)
    (h : wpList Try.prog ops Q rest (a.put o.dst (.int .i64 (f k))) w) : wpList Try.prog ops Q (o :: rest) a w :=
  wpList_plain hgd fun K hK => by
    unfold Oper.wp execOp
    have e : (rowL f).toArray[k]? = some (encI (f k)) := by rw [List.getElem?_toArray]; exact rowL_get f k hk
    have hk2 : (0 : Int) ≤ (k : Int) ∧ (k : Int) < (26 : Nat) := by omega
    simp only [ho, hx, hy, aggI, Instr.index, asIntOf, Sem.run_bind, Sem.run_pure, Result.andThen_ok, Try.runUnderlying96, hk2, and_self, if_true, Try.sizeOf3, part, Try.isAgg3, Int.toNat_natCast, Nat.mul_one, e, Bool.false_eq_true, if_false, Sem.run_ite]
    exact hK _ _ h
theorem wpL_store (hgd : o.guard = none) (x y : Operand) (ho : o.op = .store 96 x y) (b : Nat) (g f : Nat → Int) (hx : a.eval x = .pointer (some ⟨b, 0, none⟩)) (hy : a.eval y = aggI f)
    (hv : VBlk encI 96 w b 26 g) (h : wpList Try.prog ops Q rest (a.put o.dst undef) (putRow w b f)) : wpList Try.prog ops Q (o :: rest) a w :=
  wpList_plain hgd fun K hK => by
    unfold Oper.wp execOp
    have e := run_storeCells_cells (P := Try.prog) b 0 (rowL f) 0 w (fun j hj => by rw [rowL_len] at hj; rw [Nat.add_zero, Nat.zero_add, hv.cell j hj]; rfl) (fun j hj => by rw [Nat.add_zero, Nat.zero_add]; exact hv.frozen j) (fun v hv => by
      simp only [rowL, List.mem_map] at hv
      obtain ⟨j, _, rfl⟩ := hv
      rfl)
    rw [Nat.add_zero] at e
    have e2 : ((aggI f).cells.size) = 26 := by simp [aggI, Value.cells, rowL]
    have e3 : (aggI f).cells.toList = rowL f := by simp [aggI, Value.cells]
    simp only [ho, hx, hy, Instr.storeAt, Instr.sureAddr, storeVar, Sem.run_bind, Sem.run_pure, Result.andThen_ok, Try.sizeOf96, e2, e3, ne_eq, not_true_eq_false, if_false, e, Sem.run_ite]
    exact hK _ _ h
theorem zero96 : (#[Value.int .i64 0, Value.int .i64 0, Value.int .i64 0, Value.int .i64 0, Value.int .i64 0, Value.int .i64 0, Value.int .i64 0, Value.int .i64 0, Value.int .i64 0, Value.int .i64 0, Value.int .i64 0, Value.int .i64 0, Value.int .i64 0, Value.int .i64 0, Value.int .i64 0, Value.int .i64 0, Value.int .i64 0, Value.int .i64 0, Value.int .i64 0, Value.int .i64 0, Value.int .i64 0, Value.int .i64 0, Value.int .i64 0, Value.int .i64 0, Value.int .i64 0, Value.int .i64 0] : Array Value) = (List.replicate 26 (Value.int .i64 0)).toArray := by kernel_rfl
theorem zero119 : Try.zeroCells119 = (List.replicate 676 (Value.int .i64 0)).toArray := by kernel_rfl
def newRow (w : World) : World := w.alloc (.cells ((List.replicate 26 (Value.int .i64 0)).toArray) 96)
def newNet (w : World) : World := w.alloc (.cells ((List.replicate 676 (Value.int .i64 0)).toArray) 119)
theorem wpL_alloc (hgd : o.guard = none) (ho : o.op = .alloc 96) (h : wpList Try.prog ops Q rest (a.put o.dst (.pointer (some ⟨w.heap.size, 0, none⟩))) (newRow w)) : wpList Try.prog ops Q (o :: rest) a w :=
  wpList_plain hgd fun K hK => by
    unfold Oper.wp execOp
    have e := Try.zeroValue96 w
    rw [zero96] at e
    have e2 : (Go.newVar 96 (.agg ((List.replicate 26 (Value.int .i64 0)).toArray))).run Try.prog w = .ok ⟨w.heap.size, 0, none⟩ (newRow w) := rfl
    simp only [ho, Instr.alloc, Sem.run_bind, e, Result.andThen_ok, e2, Sem.run_pure]
    exact hK _ _ h
theorem wpL_net (hgd : o.guard = none) (ho : o.op = .alloc 119) (h : wpList Try.prog ops Q rest (a.put o.dst (.pointer (some ⟨w.heap.size, 0, none⟩))) (newNet w)) : wpList Try.prog ops Q (o :: rest) a w :=
  wpList_plain hgd fun K hK => by
    unfold Oper.wp execOp
    have e := Try.zeroValue119 w
    rw [zero119] at e
    have e2 : (Go.newVar 119 (.agg ((List.replicate 676 (Value.int .i64 0)).toArray))).run Try.prog w = .ok ⟨w.heap.size, 0, none⟩ (newNet w) := rfl
    simp only [ho, Instr.alloc, Sem.run_bind, e, Result.andThen_ok, e2, Sem.run_pure]
    exact hK _ _ h
theorem results_row {fn : Func} {p : Tmp} (h : fn.results = #[.cell p 96]) (tmps : Array Value) (b : Nat) (f : Nat → Int) (hp : tmps.getD p undef = .pointer (some ⟨b, 0, none⟩)) (hv : VBlk encI 96 w b 26 f) :
    (results fn tmps).run Try.prog w = .ok (aggI f) w := by
  have hp' : tmps[p]?.getD undef = .pointer (some ⟨b, 0, none⟩) := by simpa using hp
  have e := run_row (w := w) b 0 f (fun j hj => by rw [Nat.zero_add]; exact hv.cell j hj)
  simp [results, h, hp', asAddr, e]
end
section
variable {w : World}
theorem newRow_size (w : World) : (newRow w).heap.size = w.heap.size + 1 := World.size_alloc _ _
theorem newNet_size (w : World) : (newNet w).heap.size = w.heap.size + 1 := World.size_alloc _ _
theorem VBlk.zeros {w : World} {b n : Nat} {t : TypeId} (h : w.heap[b]? = some (.cells (List.replicate n (Value.int .i64 0)).toArray t (0, 0))) : VBlk encI t w b n (fun _ => 0) :=
  ⟨_, h, by simp, fun j hj => by rw [List.getElem?_toArray, List.getElem?_replicate, if_pos hj]; rfl⟩
theorem newRow_blk (w : World) : VBlk encI 96 (newRow w) w.heap.size 26 (fun _ => 0) := VBlk.zeros (blk_new w _)
theorem newNet_blk (w : World) : VBlk encI 119 (newNet w) w.heap.size 676 (fun _ => 0) := VBlk.zeros (blk_new w _)
theorem newRow_bel (w : World) : Below w.heap.size w (newRow w) := (Below.refl w.heap.size w).alloc (Nat.le_refl _) _
theorem newNet_bel (w : World) : Below w.heap.size w (newNet w) := (Below.refl w.heap.size w).alloc (Nat.le_refl _) _
theorem setCells_size (b : Nat) : ∀ (l : List Value) (i : Nat) (w : World), (w.setCells b i l).heap.size = w.heap.size
  | [], _, _ => rfl
  | v :: l, i, w => by rw [World.setCells, setCells_size b l, size_set]
theorem setCells_ne (b : Nat) : ∀ (l : List Value) (i : Nat) (w : World) (k : Nat), k ≠ b → (w.setCells b i l).heap[k]? = w.heap[k]?
  | [], _, _, _, _ => rfl
  | v :: l, i, w, k, h => by rw [World.setCells, setCells_ne b l _ _ k h, heap_set_ne _ _ _ _ _ h]
theorem setCells_bel (b : Nat) : ∀ (l : List Value) (i : Nat) (w0 w : World) (B : Nat), B ≤ b → Below B w0 w → Below B w0 (w.setCells b i l)
  | [], _, _, _, _, _, h => h
  | v :: l, i, w0, w, B, hb, h => by rw [World.setCells]; exact setCells_bel b l _ _ _ B hb (bel_set h hb _ _)
theorem putRow_bel {w0 w : World} {B b : Nat} (h : Below B w0 w) (hb : B ≤ b) (f : Nat → Int) : Below B w0 (putRow w b f) := setCells_bel b _ _ _ _ _ hb h
theorem putRow_size (w : World) (b : Nat) (f : Nat → Int) : (putRow w b f).heap.size = w.heap.size := setCells_size b _ _ _
theorem putRow_ne (w : World) (b k : Nat) (f : Nat → Int) (h : k ≠ b) : (putRow w b f).heap[k]? = w.heap[k]? := setCells_ne b _ _ _ k h
theorem setCells_vblk {b n : Nat} {t : TypeId} : ∀ (l : List Int) (i : Nat) (w : World) (g : Nat → Int), VBlk encI t w b n g → i + l.length ≤ n → VBlk encI t (w.setCells b i (l.map encI)) b n (fun j => if i ≤ j ∧ j < i + l.length then l.getD (j - i) 0 else g j)
  | [], i, w, g, h, _ => h.congr fun j _ => by rw [if_neg (by simp only [List.length_nil]; omega)]
  | v :: l, i, w, g, h, hn => by
    rw [List.length_cons] at hn
    rw [List.map_cons, World.setCells]
    refine (setCells_vblk l (i + 1) _ _ (h.set i (by omega) v) (by omega)).congr fun j _ => ?_
    simp only [List.length_cons, upd]
    by_cases e : j = i
    · subst e
      rw [if_neg (by omega), if_pos rfl, if_pos (by omega), Nat.sub_self]; rfl
    · rw [if_neg e]
      by_cases e2 : i + 1 ≤ j ∧ j < i + 1 + l.length
      · rw [if_pos e2, if_pos (by omega), show j - i = (j - (i + 1)) + 1 from by omega]; rfl
      · rw [if_neg e2, if_neg (by omega)]
theorem putRow_blk {b : Nat} {g : Nat → Int} (h : VBlk encI 96 w b 26 g) (f : Nat → Int) : VBlk encI 96 (putRow w b f) b 26 f := by
  have e : rowL f = ((List.range 26).map f).map encI := by simp [rowL]
  have := setCells_vblk ((List.range 26).map f) 0 w g h (by simp)
  unfold putRow
  rw [e]
  refine this.congr fun j hj => ?_
  rw [if_pos (by simp; omega), Nat.sub_zero]
  simp [hj]
end
end Go.Proofs.Ytnbdfmdjedakcaa
