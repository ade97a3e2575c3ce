/- pair.Edges: the walk. No conditions. -/
import Derived.Test.YtnbdfmdjedakcaaH50
import Derived.Test.YtnbdfmdjedakcaaHC
import Derived.Test.YtnbdfmdjedakcaaQ104
import Derived.Laws.IdiomCopy
namespace Go.Proofs.Ytnbdfmdjedakcaa
open Go.RowKit Go.Proofs.YtnbdfmdjedakcaaW.PrintWords Go.Proofs.YtnbdfmdjedakcaaW.PrintLast Go.Proofs.YtnbdfmdjedakcaaW.PrintMore PP
set_option linter.unusedVariables false
set_option linter.unusedSimpArgs false
/-- The cells of a stone. -/
def sCells (q : S106) : List Value := [.int .i64 q.f0, .int .i64 q.f1.f0, .int .i64 q.f1.f1, .int .i64 q.f1.f2]
def SBlk (w : World) (b : Nat) (q : S106) : Prop := w.heap[b]? = some (.cells (sCells q).toArray 106 (0, 0))
def newS (w : World) : World := w.alloc (.cells (sCells z106).toArray 106)
def putS (w : World) (b : Nat) (q : S106) : World := w.setCells b 0 (sCells q)
theorem sCells_ne (b : Nat) : ∀ (l : List Value) (i : Nat) (w : World) (k : Nat), k ≠ b → (w.setCells b i l).heap[k]? = w.heap[k]?
  | [], _, _, _, _ => rfl
  | v :: l, i, w, k, h => by rw [World.setCells, sCells_ne b l _ _ k h, heap_set_ne _ _ _ _ _ h]
theorem sCells_bel (b : Nat) : ∀ (l : List Value) (i : Nat) (w0 w : World) (B : Nat), B ≤ b → Below B w0 w → Below B w0 (w.setCells b i l)
  | [], _, _, _, _, _, h => h
  | v :: l, i, w0, w, B, hb, h => by rw [World.setCells]; exact sCells_bel b l _ _ _ B hb (bel_set h hb _ _)
section
variable {w w' : World} {b : Nat} {q : S106}
theorem newS_bel (w : World) : Below w.heap.size w (newS w) := (Below.refl w.heap.size w).alloc (Nat.le_refl _) _
theorem newS_blk (w : World) : SBlk (newS w) w.heap.size z106 := blk_new w _
theorem putS_ne (w : World) (b k : Nat) (q : S106) (h : k ≠ b) : (putS w b q).heap[k]? = w.heap[k]? := sCells_ne b _ _ _ k h
theorem putS_bel {w0 w : World} {B b : Nat} (h : Below B w0 w) (hb : B ≤ b) (q : S106) : Below B w0 (putS w b q) := sCells_bel b _ _ _ _ _ hb h
theorem putS_blk {q0 : S106} (h : SBlk w b q0) (q : S106) : SBlk (putS w b q) b q := by
  have h1 := heap_set w b 0 (.int .i64 q.f0) _ _ _ h
  have h2 := heap_set _ b 1 (.int .i64 q.f1.f0) _ _ _ h1
  have h3 := heap_set _ b 2 (.int .i64 q.f1.f1) _ _ _ h2
  exact heap_set _ b 3 (.int .i64 q.f1.f2) _ _ _ h3
theorem SBlk.of_heap (h : SBlk w b q) (e : w'.heap[b]? = w.heap[b]?) : SBlk w' b q := e.trans h
theorem SBlk.lt (h : SBlk w b q) : b < w.heap.size := (Array.getElem?_eq_some_iff.1 h).1
theorem SBlk.cells (h : SBlk w b q) : w.cell? ⟨b, 0, none⟩ = some (.int .i64 q.f0) ∧ w.cell? ⟨b, 1, none⟩ = some (.int .i64 q.f1.f0) ∧ w.cell? ⟨b, 2, none⟩ = some (.int .i64 q.f1.f1) ∧ w.cell? ⟨b, 3, none⟩ = some (.int .i64 q.f1.f2) :=
  ⟨cell_of w b 0 _ _ _ h, cell_of w b 1 _ _ _ h, cell_of w b 2 _ _ _ h, cell_of w b 3 _ _ _ h⟩
end
section
variable {ops : Array Oper} {rest : List Oper} {o : Oper} {a : Act} {w : World} {Q : Exit → Act → World → Prop}
theorem wpL_newS (hgd : o.guard = none) (ho : o.op = .alloc 106) (h : wpList Try.prog ops Q rest (a.put o.dst (.pointer (some ⟨w.heap.size, 0, none⟩))) (newS w)) : wpList Try.prog ops Q (o :: rest) a w :=
  wpList_plain hgd fun K hK => by
    unfold Oper.wp execOp
    have e := Try.zeroValue106 w
    have e2 : (Go.newVar 106 (.agg (sCells z106).toArray)).run Try.prog w = .ok ⟨w.heap.size, 0, none⟩ (newS w) := rfl
    rw [show (Value.agg #[Value.int IntKind.i64 0, Value.int IntKind.i64 0, Value.int IntKind.i64 0, Value.int IntKind.i64 0]) = .agg (sCells z106).toArray from rfl] at e
    simp only [ho, Instr.alloc, Sem.run_bind, e, Result.andThen_ok, e2, Sem.run_pure]
    exact hK _ _ h
theorem wpL_storeS (hgd : o.guard = none) (x y : Operand) (ho : o.op = .store 106 x y) (b : Nat) (q0 q : S106) (hx : a.eval x = .pointer (some ⟨b, 0, none⟩)) (hy : a.eval y = sv q)
    (hv : SBlk w b q0) (h : wpList Try.prog ops Q rest (a.put o.dst undef) (putS w b q)) : wpList Try.prog ops Q (o :: rest) a w :=
  wpList_plain hgd fun K hK => by
    unfold Oper.wp execOp
    have e := run_storeCells_cells (P := Try.prog) b 0 (sCells q) 0 w (fun j hj => by
      rw [Nat.add_zero, Nat.zero_add, cell_of w b j _ _ _ hv]
      rw [List.getElem?_toArray, List.getElem?_eq_getElem (show j < (sCells q0).length from hj)]; rfl) (fun j hj => by rw [Nat.add_zero, Nat.zero_add]; exact frozen_of w b j _ _ hv) (fun v hv => by
      simp only [sCells, List.mem_cons, List.not_mem_nil, or_false] at hv
      rcases hv with rfl | rfl | rfl | rfl <;> rfl)
    rw [Nat.add_zero] at e
    have e2 : (sv q).cells.size = 4 := rfl
    have e3 : (sv q).cells.toList = sCells q := rfl
    simp only [ho, hx, hy, Instr.storeAt, Instr.sureAddr, storeVar, Sem.run_bind, Sem.run_pure, Result.andThen_ok, Try.sizeOf106, e2, e3, ne_eq, not_true_eq_false, if_false, e, Sem.run_ite]
    exact hK _ _ h
end
/-- Near each other? -/
def nearB (a b m : Int) : Bool := decide (a - b ≤ m) && decide (b - a ≤ m)
theorem near_f {a b m : Int} (ha : 0 ≤ a) (ha2 : a ≤ 1073741824) (hb : 0 ≤ b) (hb2 : b ≤ 1073741824) : pair_near.f a b m = some (nearB a b m) := by
  have w1 : wrap64 (a - b) = a - b := by unfold wrap64; omega
  have w2 : wrap64 (b - a) = b - a := by unfold wrap64; omega
  unfold pair_near.f nearB
  rw [w1, w2]
  by_cases h : a - b ≤ m
  · rw [if_pos h, decide_eq_true h]; rfl
  · rw [if_neg h, decide_eq_false h]; rfl
def cmp (x : S36) : Nat → Int
  | 0 => x.f0
  | 1 => x.f1
  | _ => x.f2
/-- Do two stones fit, up to a component? -/
def fitK (x y : S106) (m : Int) (ap : S36) : Nat → Bool
  | 0 => nearB x.f0 y.f0 m
  | k + 1 => fitK x y m ap k && nearB (cmp x.f1 k) (cmp y.f1 k) (cmp ap k)
def sAt (l : List S106) (i : Nat) : S106 := rd_T106 l (i : Int)
def eIn (l : List S106) (m : Int) (ap : S36) (a : Nat) (acc : List S101) : Nat → List S101
  | 0 => acc
  | k + 1 => if fitK (sAt l a) (sAt l (a + 1 + k)) m ap 3 = true then eIn l m ap a acc k ++ [⟨(a : Int), ((a + 1 + k : Nat) : Int)⟩] else eIn l m ap a acc k
def eOut (l : List S106) (m : Int) (ap : S36) : Nat → List S101
  | 0 => []
  | a + 1 => eIn l m ap a (eOut l m ap a) (l.length - (a + 1))
theorem eIn_len (l : List S106) (m : Int) (ap : S36) (a : Nat) (acc : List S101) : ∀ k, (eIn l m ap a acc k).length ≤ acc.length + k
  | 0 => Nat.le_refl _
  | k + 1 => by
    have := eIn_len l m ap a acc k
    rw [eIn]
    split
    · rw [List.length_append]; simp; omega
    · omega
theorem eOut_len (l : List S106) (m : Int) (ap : S36) : ∀ a, a ≤ l.length → (eOut l m ap a).length ≤ a * l.length
  | 0, _ => Nat.zero_le _
  | a + 1, h => by
    have h1 := eOut_len l m ap a (by omega)
    have h2 := eIn_len l m ap a (eOut l m ap a) (l.length - (a + 1))
    rw [eOut, Nat.add_mul]
    omega
def edgesF (l : List S106) (m : Int) (ap : S36) : List S101 × Int :=
  if 24 < l.length then ([], 3) else if m < 0 ∨ m > 1073741824 then ([], 2) else if gok ap = false ∨ l.any (fun x => !stB x) = true then ([], 2) else if 128 < (eOut l m ap l.length).length then ([], 8) else (eOut l m ap l.length, 0)
theorem info101 : (Try.prog.info? 101).map (fun i => (i.zero, i.size, i.bytes)) = some (some (.agg #[(.int .i64 0), (.int .i64 0)]), 2, 16) := by kernel_rfl
/-- The world while Edges runs: the tolerances, and the edges found. -/
structure EdB (w0 : World) (gb : Nat) (ap : S36) (v : Value) (acc : List S101) (w : World) : Prop where
  B : Below w0.heap.size w0 w
  G : w.heap[gb]? = some (.cells #[.int .i64 ap.f0, .int .i64 ap.f1, .int .i64 ap.f2] 36 (0, 0))
  R : Kd.R k101 101 w w0.heap.size (fun _ => True) v acc
section
variable {w0 w w' : World} {gb : Nat} {ap : S36} {v : Value} {acc : List S101}
theorem EdB.below (h : EdB w0 gb ap v acc w) (hb : Below w.heap.size w w') : EdB w0 gb ap v acc w' :=
  ⟨h.B.trans (hb.mono h.B.size), (hb.block _ (Array.getElem?_eq_some_iff.1 h.G).1).trans h.G, Kd.R_below h.R hb⟩
theorem EdB.cells (h : EdB w0 gb ap v acc w) : w.cell? ⟨gb, 0, none⟩ = some (.int .i64 ap.f0) ∧ w.cell? ⟨gb, 1, none⟩ = some (.int .i64 ap.f1) ∧ w.cell? ⟨gb, 2, none⟩ = some (.int .i64 ap.f2) :=
  ⟨cell_of w gb 0 _ _ _ h.G, cell_of w gb 1 _ _ _ h.G, cell_of w gb 2 _ _ _ h.G⟩
theorem EdB.more (h : EdB w0 gb ap v acc w) {v1 : Value} {w1 : World} {e : S101} (hR : Kd.R k101 101 w1 w0.heap.size (fun _ => True) v1 (acc ++ [e])) (hB : Below w0.heap.size w0 w1) (hg : w.grownBy w1 v.ownBlock) : EdB w0 gb ap v1 (acc ++ [e]) w1 :=
  ⟨hB, (hg.block gb (Array.getElem?_eq_some_iff.1 h.G).1 (Kd.R_ne h.R h.G (by decide))).trans h.G, hR⟩
theorem EdB.keep {b : Nat} {q : S106} (h : EdB w0 gb ap v acc w) (hs : SBlk w b q) {w1 : World} (hg : w.grownBy w1 v.ownBlock) : SBlk w1 b q :=
  hs.of_heap (hg.block b hs.lt (Kd.R_ne h.R hs (by decide)))
end
theorem stB_range {x : S106} (h : stB x = true) : 0 ≤ x.f0 ∧ x.f0 ≤ 1073741824 ∧ ∀ i, i < 3 → 0 ≤ cmp x.f1 i ∧ cmp x.f1 i ≤ 1073741824 := by
  unfold stB gok gokB at h
  simp only [Bool.and_eq_true, decide_eq_true_eq, lvB_true] at h
  obtain ⟨h1, h2, h3, h4, h5⟩ := h
  refine ⟨h1, h2, fun i hi => ?_⟩
  match i, hi with
  | 0, _ => exact ⟨by show 0 ≤ x.f1.f0; omega, by show x.f1.f0 ≤ 1073741824; omega⟩
  | 1, _ => exact ⟨by show 0 ≤ x.f1.f1; omega, by show x.f1.f1 ≤ 1073741824; omega⟩
  | 2, _ => exact ⟨by show 0 ≤ x.f1.f2; omega, by show x.f1.f2 ≤ 1073741824; omega⟩
theorem near_any (W : World) (a b m : Int) (ha : 0 ≤ a ∧ a ≤ 1073741824) (hb : 0 ≤ b ∧ b ≤ 1073741824) : Calls Try.prog 104 #[.int .i64 a, .int .i64 b, .int .i64 m] W fun e w' => e = .returned (.bool (nearB a b m)) ∧ Below W.heap.size W w' := by
  refine (pair_near.calls a b m _ W (near_f ha.1 ha.2 hb.1 hb.2)).mono ?_
  rintro e w' ⟨rfl, h⟩
  exact ⟨rfl, h.below⟩
/-- .. and within a pair. -/
structure EeB (w0 : World) (gb : Nat) (ap : S36) (v : Value) (acc : List S101) (pb : Nat) (x : S106) (ob : Nat) (y : S106) (w : World) : Prop where
  E : EdB w0 gb ap v acc w
  X : SBlk w pb x
  Y : SBlk w ob y
theorem EdB.drewN {w0 w : World} {gb : Nat} {ap : S36} {v : Value} {acc : List S101} (h : EdB w0 gb ap v acc w) (m : Nat) : EdB w0 gb ap v acc (w.drewN m) :=
  ⟨bel_drewN h.B m, h.G, Kd.R_step h.R (fun _ _ _ => rfl)⟩
theorem EeB.drewN {w0 w : World} {gb pb ob : Nat} {ap : S36} {v : Value} {acc : List S101} {x y : S106} (h : EeB w0 gb ap v acc pb x ob y w) (m : Nat) : EeB w0 gb ap v acc pb x ob y (w.drewN m) := ⟨h.E.drewN m, h.X.of_heap rfl, h.Y.of_heap rfl⟩
theorem EeB.below {w0 w w' : World} {gb pb ob : Nat} {ap : S36} {v : Value} {acc : List S101} {x y : S106} (h : EeB w0 gb ap v acc pb x ob y w) (hb : Below w.heap.size w w') : EeB w0 gb ap v acc pb x ob y w' := ⟨h.E.below hb, h.X.of_heap (hb.block _ h.X.lt), h.Y.of_heap (hb.block _ h.Y.lt)⟩
section
variable {ops : Array Oper} {rest : List Oper} {o : Oper} {a : Act} {w : World} {Q : Exit → Act → World → Prop}
theorem wpL_idx36 (hgd : o.guard = none) (x y : Operand) (ho : o.op = .index 36 x y) (g : S36) (hx : a.eval x = .agg #[.int .i64 g.f0, .int .i64 g.f1, .int .i64 g.f2]) (k : Nat) (hy : a.eval y = .int .i64 (k : Int)) (hk : k < 3)
    (h : wpList Try.prog ops Q rest (a.put o.dst (.int .i64 (cmp g k))) w) : wpList Try.prog ops Q (o :: rest) a w :=
  wpList_plain hgd fun K hK => by
    unfold Oper.wp execOp
    have e : (#[Value.int .i64 g.f0, .int .i64 g.f1, .int .i64 g.f2] : Array Value)[k]? = some (.int .i64 (cmp g k)) := by
      match k, hk with
      | 0, _ => rfl
      | 1, _ => rfl
      | 2, _ => rfl
    have hk2 : (0 : Int) ≤ (k : Int) ∧ (k : Int) < (3 : Nat) := by omega
    simp only [ho, hx, hy, Instr.index, asIntOf, Sem.run_bind, Sem.run_pure, Result.andThen_ok, Try.runUnderlying36, hk2, and_self, if_true, Try.sizeOf3, part, Try.isAgg3, Int.toNat_natCast, Nat.mul_one, e, Bool.false_eq_true, if_false, Sem.run_ite]
    exact hK _ _ h
end
set_option maxRecDepth 100000 in
set_option maxHeartbeats 8000000 in
theorem edges_ok (w : World) (A : Option Addr) (c : Nat) (l : List S106) (hC : Kd.C k106 w A l.length l) (hn : l.length ≤ 24) (m : Int) (hm0 : 0 ≤ m) (hm1 : m ≤ 1073741824) (ap : S36) (hap : gok ap = true) (hst : l.any (fun x => !stB x) = false) (hall : ∀ i, i < l.length → stB (sAt l i) = true) :
    Calls Try.prog 65 #[.slice A l.length c, .int .i64 m, gv ap] w fun e w' => ∃ v, e = .returned (.tuple #[v, .int .i64 (if 128 < (eOut l m ap l.length).length then 8 else 0)]) ∧ Kd.R k101 101 w' w.heap.size (fun _ => True) v (if 128 < (eOut l m ap l.length).length then [] else eOut l m ap l.length) ∧ Below w.heap.size w w' := by
  have eg : ∀ args w, (callFunc 102 args).run Try.prog w = .ok (.enter 102 args) w := enters_of Try.func102 (by kernel_rfl) rfl
  have HC := Hd.mk (fun W (hb : Below w.heap.size w W) => Kd.C_below hC hb)
  have HI := Hd.mk (fun W => inN_any W ap)
  rw [hap] at HI
  have HF := Hd.mk (fun W (hb : Below w.heap.size w W) => containsS_any W 102 #[] _ eg A c l (Kd.C_below hC hb) (pred102 W) false hst)
  have HALL := Hd.mk hall
  have hu106 := Try.underlying106
  have hu36 := Try.underlying36
  have hu101 := Try.underlying101
  have dn : decide ((l.length : Int) > 24) = false := decide_eq_false (by omega)
  have dm0 : decide (m < 0) = false := decide_eq_false (by omega)
  have dm1 : decide (m > 1073741824) = false := decide_eq_false (by omega)
  have HE0 := Hd.mk (show EdB w w.heap.size ap (.slice none 0 0) [] (w.alloc (.cells #[.int .i64 ap.f0, .int .i64 ap.f1, .int .i64 ap.f2] 36)) from ⟨(Below.refl _ _).alloc (Nat.le_refl _) _, blk_new w _, Kd.R_nil _ _ _ _ _⟩)
  simp only [if_true] at HI
  clear hC hap hst hall
  go_enter Try.func65, Try.ntmps65
  go_wp2_with fail
  refine (HI.out _).mono ?_
  rintro e w1 ⟨b0, rfl, hb1⟩
  have HE1 := Hd.mk (HE0.out.below hb1)
  clear hb1 HE0 HI
  go_wp2_with fail
  refine (HF.out _ HE1.out.B).mono ?_
  rintro e w2 ⟨rfl, hb2⟩
  have HE2 := Hd.mk (HE1.out.below hb2)
  clear hb2 HE1 HF
  go_wp2_with fail
  obtain ⟨gb, hgb⟩ : ∃ gb, w.heap.size = gb := ⟨_, rfl⟩
  have HE3 := Hd.mk (show EdB w gb ap (.slice none 0 0) [] w2 from by rw [← hgb]; exact HE2.out)
  rw [hgb]
  clear HE2
  go_loopg [10, 40] l.length (fun gg v10 v40 wr => ∃ (a : Nat), v40 = .int .i64 a ∧ a ≤ l.length ∧ l.length - a ≤ gg ∧ Hd (EdB w gb ap v10 (eOut l m ap a) wr))
  case atStart => exact ⟨0, rfl, Nat.zero_le _, by omega, HE3⟩
  case round =>
    clear HE3
    obtain ⟨a, rfl, ha, hga, HE⟩ := hrel
    by_cases hlt : a < l.length
    · have hltz : (a : Int) < (l.length : Int) := by omega
      obtain ⟨ad, rfl, c0, c1, c2, c3⟩ := at_T106 (HC.out _ HE.out.B) (a : Int) (by omega) (by omega)
      rw [Int.toNat_natCast] at c0 c1 c2 c3
      rw [show rd_T106 l (a : Int) = sAt l a from rfl] at c0 c1 c2 c3
      have HSa := Hd.mk (HALL.out a hlt)
      obtain ⟨x, hx⟩ : ∃ x, sAt l a = x := ⟨_, rfl⟩
      have HX := Hd.mk hx
      rw [hx] at c0 c1 c2 c3 HSa
      clear hx
      have x0 := Hd.mk (newS_blk wr)
      have x1 := Hd.mk (putS_blk (newS_blk wr) x)
      have x2 := Hd.mk (HE.out.below (putS_bel (newS_bel wr) (Nat.le_refl _) x))
      go_wp2_with (first | ((with_reducible refine wpL_newS rfl rfl ?_); go_simp) | ((with_reducible refine wpL_storeS rfl _ _ rfl wr.heap.size z106 x rfl rfl x0.out ?_); clear x0 c0 c1 c2 c3 HE; generalize putS (newS wr) wr.heap.size x = w3 at x1 x2 ⊢; generalize wr.heap.size = pb at x1 x2 ⊢; go_simp))
      go_loopg [10, 13] l.length (fun gg v10 v13 wr => ∃ (k : Nat), v13 = .int .i64 ((a + 1 + k : Nat) : Int) ∧ a + 1 + k ≤ l.length ∧ l.length - (a + 1 + k) ≤ gg ∧ Hd (EdB w gb ap v10 (eIn l m ap a (eOut l m ap a) k) wr) ∧ Hd (SBlk wr pb x))
      case atStart => exact ⟨0, by go_num, by omega, by omega, x2, x1⟩
      case round =>
        clear x1 x2
        obtain ⟨k, rfl, hk, hgk, HE, HP⟩ := hrel
        by_cases hlk : a + 1 + k < l.length
        · have hlkz : ((a + 1 + k : Nat) : Int) < (l.length : Int) := by omega
          obtain ⟨ad2, had, c0, c1, c2, c3⟩ := at_T106 (HC.out _ HE.out.B) ((a + 1 + k : Nat) : Int) (by omega) (by omega)
          injection had with had
          subst had
          rw [Int.toNat_natCast] at c0 c1 c2 c3
          rw [show rd_T106 l ((a + 1 + k : Nat) : Int) = sAt l (a + 1 + k) from rfl] at c0 c1 c2 c3
          have HSb := Hd.mk (HALL.out (a + 1 + k) hlk)
          obtain ⟨y, hy⟩ : ∃ y, sAt l (a + 1 + k) = y := ⟨_, rfl⟩
          have HY := Hd.mk hy
          rw [hy] at c0 c1 c2 c3 HSb
          clear hy
          have hst : eIn l m ap a (eOut l m ap a) (k + 1) = if fitK x y m ap 3 = true then eIn l m ap a (eOut l m ap a) k ++ [⟨(a : Int), ((a + 1 + k : Nat) : Int)⟩] else eIn l m ap a (eOut l m ap a) k := by rw [eIn, HX.out, HY.out]
          have HST := Hd.mk hst
          clear hst
          generalize ha1 : a + 1 + k = b at hlk hlkz c0 c1 c2 c3 HY HST ⊢
          have x0 := Hd.mk (newS_blk wr)
          have x1 := Hd.mk (putS_blk (newS_blk wr) y)
          have x2 := Hd.mk (HE.out.below (putS_bel (newS_bel wr) (Nat.le_refl _) y))
          have x3 := Hd.mk (HP.out.of_heap ((putS_ne (newS wr) wr.heap.size pb y (by have := HP.out.lt; omega)).trans ((newS_bel wr).block _ HP.out.lt)))
          have rx := stB_range HSa.out
          have ry := stB_range HSb.out
          have HN0 := Hd.mk (fun W => near_any W x.f0 y.f0 m ⟨rx.1, rx.2.1⟩ ⟨ry.1, ry.2.1⟩)
          have HNk := Hd.mk (fun W i (hi : i < 3) => near_any W (cmp x.f1 i) (cmp y.f1 i) (cmp ap i) (rx.2.2 i hi) (ry.2.2 i hi))
          clear HP rx ry
          go_wp2_with (first | ((with_reducible refine wpL_newS rfl rfl ?_); go_simp) | ((with_reducible refine wpL_storeS rfl _ _ rfl wr.heap.size z106 y rfl rfl x0.out ?_); clear x0 c0 c1 c2 c3 HE; generalize putS (newS wr) wr.heap.size y = w4 at x1 x2 x3 ⊢; generalize wr.heap.size = ob at x1 x2 x3 ⊢; obtain ⟨c0, c1, c2, c3⟩ := x1.out.cells; obtain ⟨e0, e1, e2, e3⟩ := x3.out.cells; go_simp))
          refine (HN0.out _).mono ?_
          rintro e w5 ⟨rfl, hb5⟩
          have y2 := Hd.mk (x2.out.below hb5)
          have y1 := Hd.mk (x1.out.of_heap (hb5.block _ x1.out.lt))
          have y3 := Hd.mk (x3.out.of_heap (hb5.block _ x3.out.lt))
          clear hb5 x1 x2 x3 c0 c1 c2 c3 e0 e1 e2 e3 HN0
          obtain ⟨g0, g1, g2⟩ := y2.out.cells
          go_wp2_with fail
          have HD0 := Hd.mk (show EeB w gb ap u10 (eIn l m ap a (eOut l m ap a) k) pb x ob y w5 from ⟨y2.out, y3.out, y1.out⟩)
          clear y1 y2 y3 g0 g1 g2
          go_loopg [15, 64] 3 (fun gg v15 v64 wr => ∃ (i : Nat), v64 = .int .i64 i ∧ v15 = .bool (fitK x y m ap i) ∧ i ≤ 3 ∧ 3 - i ≤ gg ∧ Hd (EeB w gb ap u10 (eIn l m ap a (eOut l m ap a) k) pb x ob y wr))
          case atStart => exact ⟨0, rfl, rfl, by omega, by omega, HD0⟩
          case round =>
            clear HD0
            obtain ⟨i, rfl, rfl, hi, hgi, ED⟩ := hrel
            by_cases hi3 : i < 3
            · rcases (by omega : i = 0 ∨ i = 1 ∨ i = 2) with rfl | rfl | rfl
              · cases hfi : fitK x y m ap 0 with
                | false =>
                  have HS9 := Hd.mk (show fitK x y m ap (0 + 1) = false from by rw [fitK, hfi]; rfl)
                  clear hfi
                  go_wp2_with (with_reducible refine wpL_idx36 rfl _ _ rfl ap rfl 0 rfl (by decide) ?_)
                  go_region
                  have z2 := Hd.mk (ED.out.drewN 1)
                  go_wp2_with (with_reducible refine wpL_idx36 rfl _ _ rfl ap rfl 0 rfl (by decide) ?_)
                  go_roundg (3 - (0 + 1))
                  case measure => omega
                  case rel => exact ⟨0 + 1, by go_num, by rw [HS9.out], by omega, by omega, z2⟩
                | true =>
                  have HNi := Hd.mk (fun W => HNk.out W 0 (by omega))
                  cases hnb : nearB (cmp x.f1 0) (cmp y.f1 0) (cmp ap 0) with
                  | false =>
                    have HS9 := Hd.mk (show fitK x y m ap (0 + 1) = false from by rw [fitK, hfi, hnb]; rfl)
                    rw [hnb] at HNi
                    clear hfi hnb
                    obtain ⟨c0, c1, c2, c3⟩ := ED.out.Y.cells
                    obtain ⟨e0, e1, e2, e3⟩ := ED.out.X.cells
                    go_wp2_with (with_reducible refine wpL_idx36 rfl _ _ rfl ap rfl 0 rfl (by decide) ?_)
                    go_region_held3 (fun w' => w'.cell? ⟨pb, 1, none⟩ = some (.int .i64 x.f1.f0) ∧ w'.cell? ⟨ob, 1, none⟩ = some (.int .i64 y.f1.f0)) (first | exact ⟨e1, c1⟩ | exact ⟨cell_bel hb e1, cell_bel hb c1⟩) ((go_at_call 104; refine (HNi.out _).mono ?_; rintro e w6 ⟨rfl, hb⟩))
                    have z2 := Hd.mk ((ED.out.drewN 1).below hb)
                    clear ED hb c0 c1 c2 c3 e0 e1 e2 e3
                    go_wp2_with (with_reducible refine wpL_idx36 rfl _ _ rfl ap rfl 0 rfl (by decide) ?_)
                    go_roundg (3 - (0 + 1))
                    case measure => omega
                    case rel => exact ⟨0 + 1, by go_num, by rw [HS9.out], by omega, by omega, z2⟩
                  | true =>
                    have HS9 := Hd.mk (show fitK x y m ap (0 + 1) = true from by rw [fitK, hfi, hnb]; rfl)
                    rw [hnb] at HNi
                    clear hfi hnb
                    obtain ⟨c0, c1, c2, c3⟩ := ED.out.Y.cells
                    obtain ⟨e0, e1, e2, e3⟩ := ED.out.X.cells
                    go_wp2_with (with_reducible refine wpL_idx36 rfl _ _ rfl ap rfl 0 rfl (by decide) ?_)
                    go_region_held3 (fun w' => w'.cell? ⟨pb, 1, none⟩ = some (.int .i64 x.f1.f0) ∧ w'.cell? ⟨ob, 1, none⟩ = some (.int .i64 y.f1.f0)) (first | exact ⟨e1, c1⟩ | exact ⟨cell_bel hb e1, cell_bel hb c1⟩) ((go_at_call 104; refine (HNi.out _).mono ?_; rintro e w6 ⟨rfl, hb⟩))
                    have z2 := Hd.mk ((ED.out.drewN 1).below hb)
                    clear ED hb c0 c1 c2 c3 e0 e1 e2 e3
                    go_wp2_with (with_reducible refine wpL_idx36 rfl _ _ rfl ap rfl 0 rfl (by decide) ?_)
                    go_roundg (3 - (0 + 1))
                    case measure => omega
                    case rel => exact ⟨0 + 1, by go_num, by rw [HS9.out], by omega, by omega, z2⟩
              · cases hfi : fitK x y m ap 1 with
                | false =>
                  have HS9 := Hd.mk (show fitK x y m ap (1 + 1) = false from by rw [fitK, hfi]; rfl)
                  clear hfi
                  go_wp2_with (with_reducible refine wpL_idx36 rfl _ _ rfl ap rfl 1 rfl (by decide) ?_)
                  go_region
                  have z2 := Hd.mk (ED.out.drewN 1)
                  go_wp2_with (with_reducible refine wpL_idx36 rfl _ _ rfl ap rfl 1 rfl (by decide) ?_)
                  go_roundg (3 - (1 + 1))
                  case measure => omega
                  case rel => exact ⟨1 + 1, by go_num, by rw [HS9.out], by omega, by omega, z2⟩
                | true =>
                  have HNi := Hd.mk (fun W => HNk.out W 1 (by omega))
                  cases hnb : nearB (cmp x.f1 1) (cmp y.f1 1) (cmp ap 1) with
                  | false =>
                    have HS9 := Hd.mk (show fitK x y m ap (1 + 1) = false from by rw [fitK, hfi, hnb]; rfl)
                    rw [hnb] at HNi
                    clear hfi hnb
                    obtain ⟨c0, c1, c2, c3⟩ := ED.out.Y.cells
                    obtain ⟨e0, e1, e2, e3⟩ := ED.out.X.cells
                    go_wp2_with (with_reducible refine wpL_idx36 rfl _ _ rfl ap rfl 1 rfl (by decide) ?_)
                    go_region_held3 (fun w' => w'.cell? ⟨pb, 2, none⟩ = some (.int .i64 x.f1.f1) ∧ w'.cell? ⟨ob, 2, none⟩ = some (.int .i64 y.f1.f1)) (first | exact ⟨e2, c2⟩ | exact ⟨cell_bel hb e2, cell_bel hb c2⟩) ((go_at_call 104; refine (HNi.out _).mono ?_; rintro e w6 ⟨rfl, hb⟩))
                    have z2 := Hd.mk ((ED.out.drewN 1).below hb)
                    clear ED hb c0 c1 c2 c3 e0 e1 e2 e3
                    go_wp2_with (with_reducible refine wpL_idx36 rfl _ _ rfl ap rfl 1 rfl (by decide) ?_)
                    go_roundg (3 - (1 + 1))
                    case measure => omega
                    case rel => exact ⟨1 + 1, by go_num, by rw [HS9.out], by omega, by omega, z2⟩
                  | true =>
                    have HS9 := Hd.mk (show fitK x y m ap (1 + 1) = true from by rw [fitK, hfi, hnb]; rfl)
                    rw [hnb] at HNi
                    clear hfi hnb
                    obtain ⟨c0, c1, c2, c3⟩ := ED.out.Y.cells
                    obtain ⟨e0, e1, e2, e3⟩ := ED.out.X.cells
                    go_wp2_with (with_reducible refine wpL_idx36 rfl _ _ rfl ap rfl 1 rfl (by decide) ?_)
                    go_region_held3 (fun w' => w'.cell? ⟨pb, 2, none⟩ = some (.int .i64 x.f1.f1) ∧ w'.cell? ⟨ob, 2, none⟩ = some (.int .i64 y.f1.f1)) (first | exact ⟨e2, c2⟩ | exact ⟨cell_bel hb e2, cell_bel hb c2⟩) ((go_at_call 104; refine (HNi.out _).mono ?_; rintro e w6 ⟨rfl, hb⟩))
                    have z2 := Hd.mk ((ED.out.drewN 1).below hb)
                    clear ED hb c0 c1 c2 c3 e0 e1 e2 e3
                    go_wp2_with (with_reducible refine wpL_idx36 rfl _ _ rfl ap rfl 1 rfl (by decide) ?_)
                    go_roundg (3 - (1 + 1))
                    case measure => omega
                    case rel => exact ⟨1 + 1, by go_num, by rw [HS9.out], by omega, by omega, z2⟩
              · cases hfi : fitK x y m ap 2 with
                | false =>
                  have HS9 := Hd.mk (show fitK x y m ap (2 + 1) = false from by rw [fitK, hfi]; rfl)
                  clear hfi
                  go_wp2_with (with_reducible refine wpL_idx36 rfl _ _ rfl ap rfl 2 rfl (by decide) ?_)
                  go_region
                  have z2 := Hd.mk (ED.out.drewN 1)
                  go_wp2_with (with_reducible refine wpL_idx36 rfl _ _ rfl ap rfl 2 rfl (by decide) ?_)
                  go_roundg (3 - (2 + 1))
                  case measure => omega
                  case rel => exact ⟨2 + 1, by go_num, by rw [HS9.out], by omega, by omega, z2⟩
                | true =>
                  have HNi := Hd.mk (fun W => HNk.out W 2 (by omega))
                  cases hnb : nearB (cmp x.f1 2) (cmp y.f1 2) (cmp ap 2) with
                  | false =>
                    have HS9 := Hd.mk (show fitK x y m ap (2 + 1) = false from by rw [fitK, hfi, hnb]; rfl)
                    rw [hnb] at HNi
                    clear hfi hnb
                    obtain ⟨c0, c1, c2, c3⟩ := ED.out.Y.cells
                    obtain ⟨e0, e1, e2, e3⟩ := ED.out.X.cells
                    go_wp2_with (with_reducible refine wpL_idx36 rfl _ _ rfl ap rfl 2 rfl (by decide) ?_)
                    go_region_held3 (fun w' => w'.cell? ⟨pb, 3, none⟩ = some (.int .i64 x.f1.f2) ∧ w'.cell? ⟨ob, 3, none⟩ = some (.int .i64 y.f1.f2)) (first | exact ⟨e3, c3⟩ | exact ⟨cell_bel hb e3, cell_bel hb c3⟩) ((go_at_call 104; refine (HNi.out _).mono ?_; rintro e w6 ⟨rfl, hb⟩))
                    have z2 := Hd.mk ((ED.out.drewN 1).below hb)
                    clear ED hb c0 c1 c2 c3 e0 e1 e2 e3
                    go_wp2_with (with_reducible refine wpL_idx36 rfl _ _ rfl ap rfl 2 rfl (by decide) ?_)
                    go_roundg (3 - (2 + 1))
                    case measure => omega
                    case rel => exact ⟨2 + 1, by go_num, by rw [HS9.out], by omega, by omega, z2⟩
                  | true =>
                    have HS9 := Hd.mk (show fitK x y m ap (2 + 1) = true from by rw [fitK, hfi, hnb]; rfl)
                    rw [hnb] at HNi
                    clear hfi hnb
                    obtain ⟨c0, c1, c2, c3⟩ := ED.out.Y.cells
                    obtain ⟨e0, e1, e2, e3⟩ := ED.out.X.cells
                    go_wp2_with (with_reducible refine wpL_idx36 rfl _ _ rfl ap rfl 2 rfl (by decide) ?_)
                    go_region_held3 (fun w' => w'.cell? ⟨pb, 3, none⟩ = some (.int .i64 x.f1.f2) ∧ w'.cell? ⟨ob, 3, none⟩ = some (.int .i64 y.f1.f2)) (first | exact ⟨e3, c3⟩ | exact ⟨cell_bel hb e3, cell_bel hb c3⟩) ((go_at_call 104; refine (HNi.out _).mono ?_; rintro e w6 ⟨rfl, hb⟩))
                    have z2 := Hd.mk ((ED.out.drewN 1).below hb)
                    clear ED hb c0 c1 c2 c3 e0 e1 e2 e3
                    go_wp2_with (with_reducible refine wpL_idx36 rfl _ _ rfl ap rfl 2 rfl (by decide) ?_)
                    go_roundg (3 - (2 + 1))
                    case measure => omega
                    case rel => exact ⟨2 + 1, by go_num, by rw [HS9.out], by omega, by omega, z2⟩
            · obtain rfl : i = 3 := by omega
              cases hf3 : fitK x y m ap 3 with
              | false =>
                have hs9 := HST.out
                rw [if_neg (by rw [hf3]; decide)] at hs9
                have HS9 := Hd.mk hs9
                clear hs9 hf3 HNk
                go_wp2_with fail
                go_roundg (l.length - (b + 1))
                case measure => omega
                case rel => exact ⟨k + 1, by go_num, by omega, by omega, ⟨by rw [HS9.out]; exact ED.out.E⟩, ⟨ED.out.X⟩⟩
              | true =>
                have hs9 := HST.out
                rw [if_pos hf3] at hs9
                have HS9 := Hd.mk hs9
                have HLn := Hd.mk (eIn_len l m ap a (eOut l m ap a) k)
                have HLo := Hd.mk (eOut_len l m ap a (by omega))
                have HLm := Hd.mk (show a * l.length ≤ 24 * 24 from Nat.mul_le_mul (by omega) hn)
                clear hs9 hf3 HNk
                go_wp2_with ((with_reducible refine gate_builtin (b := .append) (xs := #[.tmp 83, .tmp 87]) rfl ?_); at_builtin; refine Kd.R_append k101 (w0 := w) w.heap.size rfl (.tmp 83) (.tmp 87) 68 101 (.agg #[(.int .i64 0), (.int .i64 0)]) 16 rfl Try.underlying68 info101 rfl (by decide) (by omega) _ _ (⟨(a : Int), (b : Int)⟩ : S101) [.int .i64 (a : Int), .int .i64 (b : Int)] (fun _ => True) (fun _ => False) rfl rfl ?aP (fun _ hk => hk.elim) (fun _ _ => trivial) ED.out.E.R ED.out.E.B ED.out.E.B.size ?aL ?_; (case aP => exact k101_mkM _ _ _ ⟨(a : Int), (b : Int)⟩); (case aL => have := HLn.out; have := HLo.out; have := HLm.out; omega); intro v8 w8 ho hb hg2 hat; have z2 := Hd.mk (ED.out.E.more ho hb hg2); have z3 := Hd.mk (ED.out.E.keep ED.out.X hg2); clear ho hb hg2 hat)
                go_roundg (l.length - (b + 1))
                case measure => omega
                case rel => exact ⟨k + 1, by go_num, by omega, by omega, ⟨by rw [HS9.out]; exact z2.out⟩, z3⟩
        · have hlkz : ¬ ((a + 1 + k : Nat) : Int) < (l.length : Int) := by omega
          have hk9 : k = l.length - (a + 1) := by omega
          have HE6 := HE
          clear HE
          go_wp2_with fail
          go_roundg (l.length - (a + 1))
          case measure => omega
          case rel => exact ⟨a + 1, by go_num, by omega, by omega, ⟨by rw [eOut, ← hk9]; exact HE6.out⟩⟩
    · have hltz : ¬ (a : Int) < (l.length : Int) := by omega
      obtain rfl : a = l.length := by omega
      by_cases hlen : 128 < (eOut l m ap l.length).length
      · have hlh := Hd.mk hlen
        obtain ⟨A9, c9, rfl⟩ := Kd.R_slice HE.out.R
        have d9 : decide (((eOut l m ap l.length).length : Int) > 128) = true := decide_eq_true (by omega)
        have d8 : (128 : Int) < ((eOut l m ap l.length).length : Int) := by omega
        go_wp2_with fail
        go_ret2
        exact ⟨_, rfl, Kd.R_nil _ _ _ _ _, hgb ▸ HE.out.B⟩
      · have hlh := Hd.mk hlen
        have HR := Hd.mk HE.out.R
        obtain ⟨A9, c9, rfl⟩ := Kd.R_slice HE.out.R
        have d9 : decide (((eOut l m ap l.length).length : Int) > 128) = false := decide_eq_false (by omega)
        have d8 : ¬ (128 : Int) < ((eOut l m ap l.length).length : Int) := by omega
        go_wp2_with fail
        go_ret2
        exact ⟨_, rfl, hgb ▸ HR.out, hgb ▸ HE.out.B⟩
end Go.Proofs.Ytnbdfmdjedakcaa
