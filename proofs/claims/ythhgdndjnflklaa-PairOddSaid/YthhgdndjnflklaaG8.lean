import Derived.Test.YthhgdndjnflklaaG7
import Derived.Deep.WholeRow
namespace Go.Proofs.Ythhgdndjnflklaa
open Go.RowKit
set_option linter.unusedVariables false
set_option linter.unusedSimpArgs false

def Z66 : Array Value := (.int .i64 0 :: List.replicate 576 (.bool false)).toArray
theorem zinfo66 : (Try.prog.info? 66).map (fun i => (i.zero, i.size)) = some (some (.agg Z66), 577) := by kernel_rfl
theorem Z66_size : Z66.size = 577 := by simp only [Z66, List.size_toArray, List.length_cons, List.length_replicate]
theorem zero66 : ∀ w : World, (zeroValue 66).run Try.prog w = .ok (.agg Z66) w := by
  intro w
  have h := zinfo66
  cases hq : Try.prog.info? 66 with
  | none => simp [hq] at h
  | some i =>
    rw [hq] at h
    simp only [Option.map_some, Option.some.injEq, Prod.mk.injEq] at h
    simp [zeroValue, typeInfo, hq, h.1]
theorem size66 (C : Array Value) (hC : C.size = 577) : (Try.prog.info? 66).map (·.size) = some C.size := by
  have h := zinfo66
  cases hq : Try.prog.info? 66 with
  | none => simp [hq] at h
  | some i =>
    rw [hq] at h
    simp only [Option.map_some, Option.some.injEq, Prod.mk.injEq] at h
    rw [hC]
    simp [h.2]

theorem run_newVar_agg (t : TypeId) (C : Array Value) (w : World) : (newVar t (.agg C)).run Try.prog w = .ok ⟨w.heap.size, 0, none⟩ (w.alloc (.cells C t)) := by
  simp [newVar, newRow, Value.cells]
theorem wpList_alloc66 {W : World} {ops : Array Oper} {rest : List Oper} {o : Oper} {a : Act} {Q : Exit → Act → World → Prop} (hgd : o.guard = none) (ho : o.op = .alloc 66)
    (h : wpList Try.prog ops Q rest (a.put o.dst (.pointer (some ⟨W.heap.size, 0, none⟩))) (W.alloc (.cells Z66 66))) : wpList Try.prog ops Q (o :: rest) a W :=
  wpList_plain hgd fun K hK => by
    have hz := zero66 W
    have hv := run_newVar_agg 66 Z66 W
    have hk := hK _ _ h
    unfold Oper.wp execOp
    simp only [ho, Instr.alloc, Sem.run_bind, Sem.run_pure, hz, hv, Result.andThen_ok]
    exact hk
theorem wpList_box66 {W : World} {ops : Array Oper} {rest : List Oper} {o : Oper} {a : Act} {Q : Exit → Act → World → Prop} (hgd : o.guard = none) (x : Operand) (ho : o.op = .box 66 x) (C : Array Value) (hx : a.eval x = .agg C)
    (h : wpList Try.prog ops Q rest (a.put o.dst (.pointer (some ⟨W.heap.size, 0, none⟩))) (W.alloc (.cells C 66))) : wpList Try.prog ops Q (o :: rest) a W :=
  wpList_plain hgd fun K hK => by
    have hv := run_newVar_agg 66 C W
    have hk := hK _ _ h
    unfold Oper.wp execOp
    simp only [ho, hx, Instr.box, Sem.run_bind, Sem.run_pure, hv, Result.andThen_ok]
    exact hk
theorem GBlk.block {w : World} {b n : Nat} {nx : Nat → Nat → Bool} (h : GBlk w b n nx) : ∃ C, w.heap[b]? = some (.cells C 66 (0, 0)) ∧ C.size = 577 ∧ C.all (·.oneCell') = true ∧ ∀ w' b', w'.heap[b']? = some (.cells C 66 (0, 0)) → GBlk w' b' n nx := by
  obtain ⟨hn, C, hC, hs, h0, hf, h1⟩ := h
  exact ⟨C, hC, hs, Array.all_eq_true_iff_forall_mem.2 h1, fun w' b' h' => ⟨hn, C, h', hs, h0, hf, h1⟩⟩
theorem setRow_new (w : World) (C D : Array Value) (t : TypeId) : ((w.alloc (.cells C t)).setRow w.heap.size D).heap[w.heap.size]? = some (.cells D t (0, 0)) := by
  rw [World.setRow_alloc_new]; exact alloc_new _ _
theorem setRow_old (w : World) (C D : Array Value) (t : TypeId) (k : Nat) (hk : k < w.heap.size) : ((w.alloc (.cells C t)).setRow w.heap.size D).heap[k]? = w.heap[k]? := by
  rw [World.setRow_alloc_new]; exact alloc_old _ _ _ hk

/-- A graph without a stone's edges. -/
def woS (nx : Nat → Nat → Bool) (s : Nat) : Nat → Nat → Bool := fun a b => nx a b && (a != s && b != s)
def woL (ss : Nat → Nat) : Nat → Nat → (Nat → Nat → Bool) → Nat → Nat → Bool
  | 0, _, nx => nx
  | d + 1, i, nx => woL ss d (i + 1) (woS nx (ss i))
/-- A row of it. -/
def woR (nx : Nat → Nat → Bool) (s i : Nat) : Nat → Nat → Bool := fun a b => if (a = s ∧ b < i) ∨ (b = s ∧ a < i) then false else nx a b

set_option maxHeartbeats 4000000 in
theorem without_any (w : World) (gb n m c : Nat) (A : Option Addr) (nx : Nat → Nat → Bool) (ss : Nat → Nat) (hG : GBlk w gb n nx) (hS : RdN w A m ss) (hss : ∀ j, j < m → ss j < n) (hm : m ≤ 1000) :
    Calls Try.prog 37 #[.pointer (some ⟨gb, 0, none⟩), .slice A m c] w fun e w' => ∃ b, e = .returned (.pointer (some ⟨b, 0, none⟩)) ∧ (GBlk w' b n (woL ss m 0 nx) ∧ w.heap.size ≤ b ∧ Below w.heap.size w w') := by
  obtain ⟨C, hC, hCs, hC1, hCn⟩ := hG.block
  have HC := Hd.mk hC
  have HC1 := Hd.mk hC1
  have HCn := Hd.mk hCn
  have HS := Hd.mk hS
  have HSS := Hd.mk hss
  have HG := Hd.mk hG
  have hn := hG.le
  have hsz := Hd.mk (size66 C hCs)
  have HCs := Hd.mk hCs
  clear hC hC1 hCn hS hss hG hCs
  go_enter Try.func37, Try.ntmps37
  go_wp2_with (first | (refine wpList_load_row rfl 66 (.tmp 10) rfl gb rfl 66 C (0, 0) _ HC.out Try.underlying66 rfl hsz.out ?_) | (refine wpList_alloc66 rfl rfl ?_) | (refine wpList_store_row rfl 66 (.tmp 5) (.tmp 11) rfl w.heap.size C rfl rfl 66 Z66 (alloc_new w _) hsz.out (by rw [Z66_size, HCs.out]) HC1.out ?_))
  have hW : (w.alloc (.cells Z66 66)).setRow w.heap.size C = w.alloc (.cells C 66) := World.setRow_alloc_new _ _ _ _
  rw [hW]
  have HG1 := Hd.mk (HCn.out _ _ (alloc_new w (.cells C 66)))
  have HB1 := Hd.mk ((Below.refl w.heap.size w).alloc (Nat.le_refl _) (.cells C 66))
  generalize w.alloc (.cells C 66) = w0 at HG1 HB1 ⊢
  obtain ⟨b, hbe⟩ : ∃ b, b = w.heap.size := ⟨_, rfl⟩
  rw [← hbe] at HG1 ⊢
  have hb : w.heap.size ≤ b := by omega
  have hgb2 : gb < w.heap.size := HG.out.lt
  clear hW hbe HC HC1 HCn hsz HCs
  go_loopg [14] m (fun kq v14 wr => ∃ (i : Nat) (nx1 : Nat → Nat → Bool), v14 = .int .i64 i ∧ Hd (i + kq = m) ∧ Hd (woL ss kq i nx1 = woL ss m 0 nx) ∧ Hd (GBlk wr b n nx1) ∧ Hd (Below w.heap.size w wr))
  case atStart => exact ⟨0, nx, rfl, ⟨by omega⟩, ⟨rfl⟩, HG1, HB1⟩
  case round =>
    obtain ⟨i, nx1, rfl, HK, HX, HN, HB⟩ := hrel
    clear HG1 HB1
    cases gk with
    | zero =>
      have hi := HK.out
      have hlt : ¬ (i : Int) < m := by omega
      have hx := HX.out
      simp only [woL] at hx
      have HN2 := Hd.mk (hx ▸ HN.out)
      clear hi HX HN hx
      go_wp2_with fail
      go_ret
      exact ⟨b, rfl, HN2.out, hb, HB.out⟩
    | succ k1 =>
      have hi := HK.out
      have hlt : (i : Int) < m := by omega
      have hlt' : i < m := by omega
      obtain ⟨ad, rfl, hcs⟩ := HS.out.below HB.out
      have cs := hcs i hlt'
      have hg := HG.out.of_heap (w' := wr) (HB.out.block _ HG.out.lt)
      have hgn := hg.num
      have hsn := HSS.out i hlt'
      generalize hse : ss i = s at cs hsn
      have HSE := Hd.mk hse
      clear hcs hi hg hse
      go_upto_region 6 with (fail)
      go_loopg [22] n (fun kq v22 wq => ∃ (j : Nat), v22 = .int .i64 j ∧ Hd (j + kq = n) ∧ Hd (GBlk wq b n (woR nx1 s j)) ∧ Hd (Below w.heap.size w wq))
      case atStart => exact ⟨0, rfl, ⟨by omega⟩, ⟨HN.out.congr (fun x y _ _ => by simp [woR])⟩, HB⟩
      case round =>
        obtain ⟨j, rfl, HK2, HN2, HB2⟩ := hrel
        clear HN HB cs hgn
        cases gk with
        | zero =>
          have hi := HK2.out
          have hlt : ¬ (j : Int) < n := by omega
          have HN3 := Hd.mk (HN2.out.congr (ny := woS nx1 s) (fun x y hx hy => by
            unfold woR woS
            by_cases h1 : x = s
            · rw [if_pos (.inl ⟨h1, by omega⟩)]; simp [h1]
            · by_cases h2 : y = s
              · rw [if_pos (.inr ⟨h2, by omega⟩)]; simp [h2]
              · rw [if_neg (by omega)]; simp [h1, h2]))
          have HX3 := Hd.mk (show woL ss k1 (i + 1) (woS nx1 s) = woL ss m 0 nx by have := HX.out; simp only [woL, HSE.out] at this; exact this)
          clear hi HN2
          go_wp2_with fail
          go_roundg k1
          case measure => omega
          case rel => exact ⟨i + 1, _, by go_num, ⟨by have := HK.out; omega⟩, HX3, HN3, HB2⟩
        | succ k2 =>
          have hi := HK2.out
          have hlt : (j : Int) < n := by omega
          have hlt' : j < n := by omega
          have c1 := HN2.out.getNx s j hsn hlt'
          have c2 := HN2.out.getNx j s hlt' hsn
          have f1 := HN2.out.frozen (1 + s * 24 + j)
          have f2 := HN2.out.frozen (1 + j * 24 + s)
          have i1 : (s : Int) < 24 := by omega
          have i2 : (j : Int) < 24 := by omega
          have j1 : (0 : Int) ≤ s := by omega
          have j2 : (0 : Int) ≤ j := by omega
          have HNs := Hd.mk (((HN2.out.of_heap (w' := wr.drewN 1) rfl).set s j hsn hlt' false).set j s hlt' hsn false)
          have HNt := Hd.mk (HNs.out.congr (ny := woR nx1 s (j + 1)) (fun x y hx hy => by
            unfold woR
            by_cases h1 : x = j ∧ y = s
            · rw [if_pos h1, if_pos (by omega)]
            · rw [if_neg h1]
              by_cases h2 : x = s ∧ y = j
              · rw [if_pos h2, if_pos (by omega)]
              · rw [if_neg h2]
                by_cases h3 : (x = s ∧ y < j) ∨ (y = s ∧ x < j)
                · rw [if_pos h3, if_pos (by omega)]
                · rw [if_neg h3, if_neg (by omega)]))
          have HBt := Hd.mk (bel_set (bel_set (bel_drewN HB2.out 1) hb (1 + s * 24 + j) (.bool false)) hb (1 + j * 24 + s) (.bool false))
          clear hi HN2 HB2 HNs
          by_cases hsj : s = j
          · subst hsj
            go_wp2_with fail
            go_region_held3 (fun _ => True) (trivial) (fail)
            go_wp2_with fail
            go_roundg k2
            case measure => omega
            case rel => exact ⟨s + 1, by go_num, ⟨by have := HK2.out; omega⟩, HNt, HBt⟩
          · have hne : 1 + s * 24 + j ≠ 1 + j * 24 + s := by omega
            go_wp2_with fail
            go_region_held3 (fun _ => True) (trivial) (fail)
            go_wp2_with fail
            go_roundg k2
            case measure => omega
            case rel => exact ⟨j + 1, by go_num, ⟨by have := HK2.out; omega⟩, HNt, HBt⟩
/-- The edge list's graph, edge by edge. -/
def putE (nx : Nat → Nat → Bool) (a c : Nat) : Nat → Nat → Bool := fun x y => if (x = a ∧ y = c) ∨ (x = c ∧ y = a) then true else nx x y
/-- checked's loop over the edges; none: an edge that is none. -/
def chkL (n : Nat) : List (Int × Int) → (Nat → Nat → Bool) → Option (Nat → Nat → Bool)
  | [], nx => some nx
  | (a, c) :: es, nx => if a < 0 ∨ a ≥ n ∨ c < 0 ∨ c ≥ n ∨ a = c then none else chkL n es (putE nx a.toNat c.toNat)

/-- A slice of edges that is read. -/
def RdE (w : World) (A : Option Addr) (es : List (Int × Int)) : Prop :=
  ∀ j, j < es.length → ∃ ad, A = some ad ∧ w.cell? (ad.add (j * 2)) = some (.int .i64 (es.getD j (0, 0)).1) ∧ w.cell? ⟨(ad.add (j * 2)).block, (ad.add (j * 2)).off + 1, none⟩ = some (.int .i64 (es.getD j (0, 0)).2)
theorem RdE.below {w w' : World} {A : Option Addr} {es : List (Int × Int)} (h : RdE w A es) (hb : Below w.heap.size w w') : RdE w' A es := by
  intro j hj
  obtain ⟨ad, e, h1, h2⟩ := h j hj
  exact ⟨ad, e, (hb.cell (World.block_lt_of_cell? w _ h1)).trans h1, (hb.cell (World.block_lt_of_cell? w _ h2)).trans h2⟩

set_option maxHeartbeats 4000000 in
theorem checked_arg (w : World) (n : Int) (A : Option Addr) (len c : Nat) (h : n < 0 ∨ 24 < n) :
    Calls Try.prog 34 #[.int .i64 n, .slice A len c] w fun e w' => e = .returned (.tuple #[.pointer none, .int .i64 2]) ∧ w = w' := by
  rcases h with h | h
  · go_enter Try.func34, Try.ntmps34
    go_wp2_with fail
    go_ret2
    exact ⟨rfl, rfl⟩
  · have h0 : ¬ n < 0 := by omega
    go_enter Try.func34, Try.ntmps34
    go_wp2_with fail
    go_ret2
    exact ⟨rfl, rfl⟩
set_option maxHeartbeats 4000000 in
theorem checked_limit (w : World) (n : Nat) (A : Option Addr) (len c : Nat) (hn : n ≤ 24) (h : 128 < len) :
    Calls Try.prog 34 #[.int .i64 n, .slice A len c] w fun e w' => e = .returned (.tuple #[.pointer none, .int .i64 3]) ∧ w = w' := by
  have h0 : ¬ (n : Int) < 0 := by omega
  have h1 : ¬ (24 : Int) < n := by omega
  go_enter Try.func34, Try.ntmps34
  go_wp2_with fail
  go_ret2
  exact ⟨rfl, rfl⟩
end Go.Proofs.Ythhgdndjnflklaa
