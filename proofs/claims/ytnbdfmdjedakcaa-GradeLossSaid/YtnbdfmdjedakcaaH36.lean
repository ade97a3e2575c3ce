/- above: the walk. No conditions. -/
import Derived.Test.YtnbdfmdjedakcaaH35
namespace Go.Proofs.Ytnbdfmdjedakcaa
open Go.RowKit Go.Proofs.YtnbdfmdjedakcaaW.PrintWords Go.Proofs.YtnbdfmdjedakcaaW.PrintLast Go.Proofs.YtnbdfmdjedakcaaW.PrintMore PP
set_option linter.unusedVariables false
set_option linter.unusedSimpArgs false
/-- The cells of a quote. -/
def qCells (q : S38) : List Value := [.int .i64 q.f0.f0, .int .i64 q.f0.f1, .int .i64 q.f0.f2, .int .i64 q.f1, .int .i64 q.f2]
def QBlk (w : World) (b : Nat) (q : S38) : Prop := w.heap[b]? = some (.cells (qCells q).toArray 38 (0, 0))
def newQ (w : World) : World := w.alloc (.cells (qCells z38).toArray 38)
def putQ (w : World) (b : Nat) (q : S38) : World := w.setCells b 0 (qCells q)
section
variable {w w' : World} {b : Nat} {q : S38}
theorem newQ_size (w : World) : (newQ w).heap.size = w.heap.size + 1 := World.size_alloc _ _
theorem newQ_bel (w : World) : Below w.heap.size w (newQ w) := (Below.refl w.heap.size w).alloc (Nat.le_refl _) _
theorem newQ_blk (w : World) : QBlk (newQ w) w.heap.size z38 := blk_new w _
theorem putQ_size (w : World) (b : Nat) (q : S38) : (putQ w b q).heap.size = w.heap.size := setCells_size b _ _ _
theorem putQ_ne (w : World) (b k : Nat) (q : S38) (h : k ≠ b) : (putQ w b q).heap[k]? = w.heap[k]? := setCells_ne b _ _ _ k h
theorem putQ_bel {w0 w : World} {B b : Nat} (h : Below B w0 w) (hb : B ≤ b) (q : S38) : Below B w0 (putQ w b q) := setCells_bel b _ _ _ _ _ hb h
theorem putQ_blk {q0 : S38} (h : QBlk w b q0) (q : S38) : QBlk (putQ w b q) b q := by
  have h1 := heap_set w b 0 (.int .i64 q.f0.f0) _ _ _ h
  have h2 := heap_set _ b 1 (.int .i64 q.f0.f1) _ _ _ h1
  have h3 := heap_set _ b 2 (.int .i64 q.f0.f2) _ _ _ h2
  have h4 := heap_set _ b 3 (.int .i64 q.f1) _ _ _ h3
  exact heap_set _ b 4 (.int .i64 q.f2) _ _ _ h4
theorem QBlk.of_heap (h : QBlk w b q) (e : w'.heap[b]? = w.heap[b]?) : QBlk w' b q := e.trans h
theorem QBlk.lt (h : QBlk w b q) : b < w.heap.size := (Array.getElem?_eq_some_iff.1 h).1
theorem QBlk.cells (h : QBlk w b q) : w.cell? ⟨b, 0, none⟩ = some (.int .i64 q.f0.f0) ∧ w.cell? ⟨b, 1, none⟩ = some (.int .i64 q.f0.f1) ∧ w.cell? ⟨b, 2, none⟩ = some (.int .i64 q.f0.f2) ∧ w.cell? ⟨b, 3, none⟩ = some (.int .i64 q.f1) ∧ w.cell? ⟨b, 4, none⟩ = some (.int .i64 q.f2) :=
  ⟨cell_of w b 0 _ _ _ h, cell_of w b 1 _ _ _ h, cell_of w b 2 _ _ _ h, cell_of w b 3 _ _ _ h, cell_of w b 4 _ _ _ h⟩
end
section
variable {ops : Array Oper} {rest : List Oper} {o : Oper} {a : Act} {w : World} {Q : Exit → Act → World → Prop}
theorem wpL_newQ (hgd : o.guard = none) (ho : o.op = .alloc 38) (h : wpList Try.prog ops Q rest (a.put o.dst (.pointer (some ⟨w.heap.size, 0, none⟩))) (newQ w)) : wpList Try.prog ops Q (o :: rest) a w :=
  wpList_plain hgd fun K hK => by
    unfold Oper.wp execOp
    have e := Try.zeroValue38 w
    have e2 : (Go.newVar 38 (.agg (qCells z38).toArray)).run Try.prog w = .ok ⟨w.heap.size, 0, none⟩ (newQ w) := rfl
    rw [show (Value.agg #[Value.int IntKind.i64 0, Value.int IntKind.i64 0, Value.int IntKind.i64 0, Value.int IntKind.i64 0, Value.int IntKind.i64 0]) = .agg (qCells z38).toArray from rfl] at e
    simp only [ho, Instr.alloc, Sem.run_bind, e, Result.andThen_ok, e2, Sem.run_pure]
    exact hK _ _ h
theorem wpL_storeQ (hgd : o.guard = none) (x y : Operand) (ho : o.op = .store 38 x y) (b : Nat) (q0 q : S38) (hx : a.eval x = .pointer (some ⟨b, 0, none⟩)) (hy : a.eval y = .agg #[.int .i64 q.f0.f0, .int .i64 q.f0.f1, .int .i64 q.f0.f2, .int .i64 q.f1, .int .i64 q.f2])
    (hv : QBlk w b q0) (h : wpList Try.prog ops Q rest (a.put o.dst undef) (putQ w b q)) : wpList Try.prog ops Q (o :: rest) a w :=
  wpList_plain hgd fun K hK => by
    unfold Oper.wp execOp
    have e := run_storeCells_cells (P := Try.prog) b 0 (qCells q) 0 w (fun j hj => by
      rw [Nat.add_zero, Nat.zero_add, cell_of w b j _ _ _ hv]
      rw [List.getElem?_toArray, List.getElem?_eq_getElem (show j < (qCells q0).length from hj)]; rfl) (fun j hj => by rw [Nat.add_zero, Nat.zero_add]; exact frozen_of w b j _ _ hv) (fun v hv => by
      simp only [qCells, List.mem_cons, List.not_mem_nil, or_false] at hv
      rcases hv with rfl | rfl | rfl | rfl | rfl <;> rfl)
    rw [Nat.add_zero] at e
    have e2 : (Value.agg #[.int .i64 q.f0.f0, .int .i64 q.f0.f1, .int .i64 q.f0.f2, .int .i64 q.f1, .int .i64 q.f2]).cells.size = 5 := rfl
    have e3 : (Value.agg #[.int .i64 q.f0.f0, .int .i64 q.f0.f1, .int .i64 q.f0.f2, .int .i64 q.f1, .int .i64 q.f2]).cells.toList = qCells q := rfl
    simp only [ho, hx, hy, Instr.storeAt, Instr.sureAddr, storeVar, Sem.run_bind, Sem.run_pure, Result.andThen_ok, Try.sizeOf38, e2, e3, ne_eq, not_true_eq_false, if_false, e, Sem.run_ite]
    exact hK _ _ h
end
/-- The network, as above writes it. -/
def put2 (c : Nat → Nat → Int) (u v : Nat) (x : Int) : Nat → Nat → Int := fun a b => if a = u ∧ b = v then x else c a b
def qAt (l : List S38) (i : Nat) : S38 := rd_T38 l i
def gIn (l : List S38) (i : Nat) (c : Nat → Nat → Int) : Nat → Nat → Nat → Int
  | 0 => c
  | k + 1 => if i ≠ k ∧ belowG (qAt l i).f0 (qAt l k).f0 = true then put2 (gIn l i c k) i k 1152921504606846976 else gIn l i c k
def gFirst (l : List S38) (z : Int) (i : Nat) (c : Nat → Nat → Int) : Nat → Nat → Int := if (qAt l i).f1 > z then put2 c 24 i (qAt l i).f2 else put2 c i 25 (qAt l i).f2
def gOut (l : List S38) (z : Int) : Nat → Nat → Nat → Int
  | 0 => fun _ _ => 0
  | i + 1 => gIn l i (gFirst l z i (gOut l z i)) l.length
theorem FuB.set {w0 w : World} {lo nb rb : Nat} {r : Nat → Nat → Int} (h : FuB w0 lo nb rb w r) (u v : Nat) (hu : u < 26) (hv : v < 26) (x : Int) : FuB w0 lo nb rb (w.setCell ⟨nb, u * 26 + v, none⟩ (.int .i64 x)) (put2 r u v x) :=
  ⟨bel_set h.B h.bn _ _, h.N.set u v hu hv x, h.R.other h.nr.symm _ _, h.bn, h.br, by rw [size_set]; exact h.bs, h.nr⟩
theorem FuB.putQ {w0 w : World} {lo nb rb b : Nat} {r : Nat → Nat → Int} (h : FuB w0 lo nb rb w r) (hb : w.heap.size ≤ b) (w1 : World) (h1 : Below w.heap.size w w1) (q : S38) : FuB w0 lo nb rb (Ytnbdfmdjedakcaa.putQ w1 b q) r := h.below (putQ_bel h1 hb q)
theorem FuB.drewN {w0 w : World} {lo nb rb : Nat} {r : Nat → Nat → Int} (h : FuB w0 lo nb rb w r) (m : Nat) : FuB w0 lo nb rb (w.drewN m) r :=
  ⟨bel_drewN h.B m, h.N.of_heap rfl, h.R.of_heap rfl, h.bn, h.br, h.bs, h.nr⟩
theorem NetQ {w : World} {nb qb : Nat} {r : Nat → Nat → Int} {q : S38} (h : NetB w nb r) (h1 : QBlk w qb q) : qb ≠ nb := fun hh => by
  obtain ⟨C, hC, hs, _⟩ := h
  subst hh
  rw [QBlk] at h1
  rw [h1] at hC
  have := (Option.some.inj hC)
  injection this with _ h2 _
  exact absurd h2 (by decide)
set_option maxRecDepth 100000 in
set_option maxHeartbeats 4000000 in
theorem above_any (w : World) (A : Option Addr) (c : Nat) (l : List S38) (hC : Kd.C k38 w A l.length l) (hl : l.length ≤ 24) (z : Int) (f : Nat) (F2 : Nat → Int) (r2 : Nat → Nat → Int) (hF : fullN 26 24 25 1152921504606846976 f (gOut l z l.length) = some (F2, r2)) :
    Calls Try.prog 96 #[.slice A l.length c, .int .i64 z] w fun e w' => e = .returned (aggI F2) ∧ Below w.heap.size w w' := by
  have HC := Hd.mk (fun W (hb : Below w.heap.size w W) => Kd.C_below hC hb)
  have HU := Hd.mk (show FuB w w.heap.size (newRow w).heap.size w.heap.size (newNet (newRow w)) (fun _ _ => 0) from ⟨(newRow_bel w).trans ((newNet_bel _).mono (newRow_bel w).size), newNet_blk _, (newRow_blk w).of_heap ((newNet_bel _).block _ (newRow_blk w).lt), (newRow_bel w).size, Nat.le_refl _, Nat.le_trans (newRow_bel w).size (newNet_bel _).size, by rw [newRow_size]; omega⟩)
  have HF := Hd.mk hF
  have hu38 := Try.underlying38
  have hu36 := Try.underlying36
  clear hF hC
  go_enter Try.func96, Try.ntmps96
  go_wp2_with (first | ((with_reducible refine wpL_alloc rfl rfl ?_); go_simp) | ((with_reducible refine wpL_net rfl rfl ?_); go_simp))
  have HRN := Hd.mk (show w.heap.size < (newRow w).heap.size by rw [newRow_size]; omega)
  generalize newNet (newRow w) = w1 at HU ⊢
  generalize (newRow w).heap.size = nb at HU HRN ⊢
  obtain ⟨rb, hrb⟩ : ∃ rb, w.heap.size = rb := ⟨_, rfl⟩
  have HRN : Hd (rb < nb) := ⟨by rw [← hrb]; exact HRN.out⟩
  have HU : Hd (FuB w w.heap.size nb rb w1 (gOut l z 0)) := ⟨by rw [← hrb]; exact HU.out⟩
  rw [hrb]
  go_loopg [12] l.length (fun gg v12 wr => ∃ (i : Nat), v12 = .int .i64 i ∧ i ≤ l.length ∧ l.length - i ≤ gg ∧ Hd (FuB w w.heap.size nb rb wr (gOut l z i)))
  case atStart => exact ⟨0, rfl, Nat.zero_le _, by omega, HU⟩
  case round =>
    clear HU
    obtain ⟨i, rfl, hi, hg, HU⟩ := hrel
    by_cases hlt : i < l.length
    · have hltz : (i : Int) < (l.length : Int) := by omega
      obtain ⟨ad, rfl, c0, c1, c2, c3, c4⟩ := at_T38 (HC.out _ HU.out.B) (i : Int) (by omega) (by omega)
      rw [Int.toNat_natCast] at c0 c1 c2 c3 c4
      have hq : rd_T38 l (i : Int) = qAt l i := rfl
      rw [hq] at c0 c1 c2 c3 c4
      clear hq
      obtain ⟨q, hq⟩ : ∃ q, qAt l i = q := ⟨_, rfl⟩
      have HQ := Hd.mk hq
      rw [hq] at c0 c1 c2 c3 c4
      clear hq
      have x0 := Hd.mk (newQ_blk wr)
      have x1 := Hd.mk (putQ_blk (newQ_blk wr) q)
      have x2 := Hd.mk (HU.out.putQ (Nat.le_refl _) _ (newQ_bel wr) q)
      by_cases hp : q.f1 > z
      · have d1 : decide (q.f1 > z) = true := decide_eq_true hp
        go_wp2_with (first | ((with_reducible refine wpL_newQ rfl rfl ?_); go_simp) | ((with_reducible refine wpL_storeQ rfl _ _ rfl wr.heap.size z38 q rfl rfl x0.out ?_); clear x0 c0 c1 c2 c3 c4 HU; generalize putQ (newQ wr) wr.heap.size q = w3 at x1 x2 ⊢; generalize wr.heap.size = qb at x1 x2 ⊢; obtain ⟨c0, c1, c2, c3, c4⟩ := x1.out.cells; have gn : w3.cell? ⟨nb, 624 + i, none⟩ = _ := x2.out.N.get 24 i (by decide) (by omega); have fn : w3.frozen? ⟨nb, 624 + i, none⟩ = false := x2.out.N.frozen (624 + i); go_simp))
        have hgf : gFirst l z i (gOut l z i) = put2 (gOut l z i) 24 i q.f2 := by unfold gFirst; rw [HQ.out, if_pos hp]
        have HU2 := Hd.mk (show FuB w w.heap.size nb rb (w3.setCell ⟨nb, 624 + i, none⟩ (.int .i64 q.f2)) (gIn l i (gFirst l z i (gOut l z i)) 0) from by rw [gIn, hgf]; exact x2.out.set 24 i (by decide) (by omega) q.f2)
        have HQB := Hd.mk (x1.out.of_heap (heap_set_ne w3 nb (624 + i) qb (.int .i64 q.f2) (fun hh => NetQ x2.out.N x1.out hh)))
        clear x1 x2 gn fn c0 c1 c2 c3 c4 hgf d1 hp
        go_loopg [33] l.length (fun gg v33 wr => ∃ (k : Nat), v33 = .int .i64 k ∧ k ≤ l.length ∧ l.length - k ≤ gg ∧ Hd (FuB w w.heap.size nb rb wr (gIn l i (gFirst l z i (gOut l z i)) k)) ∧ Hd (QBlk wr qb q))
        case atStart => exact ⟨0, rfl, Nat.zero_le _, by omega, HU2, HQB⟩
        case round =>
          clear HU2 HQB
          obtain ⟨k, rfl, hk, hgk, HU, HQB⟩ := hrel
          by_cases hlk : k < l.length
          · have hlkz : (k : Int) < (l.length : Int) := by omega
            obtain ⟨ad2, had, c0, c1, c2, c3, c4⟩ := at_T38 (HC.out _ HU.out.B) (k : Int) (by omega) (by omega)
            injection had with had
            subst had
            rw [Int.toNat_natCast] at c0 c1 c2 c3 c4
            have ho : rd_T38 l (k : Int) = qAt l k := rfl
            rw [ho] at c0 c1 c2 c3 c4
            clear ho
            obtain ⟨o, ho⟩ : ∃ o, qAt l k = o := ⟨_, rfl⟩
            have HO := Hd.mk ho
            rw [ho] at c0 c1 c2 c3 c4
            clear ho
            have x0 := Hd.mk (newQ_blk wr)
            have x1 := Hd.mk (putQ_blk (newQ_blk wr) o)
            have x2 := Hd.mk (HU.out.putQ (Nat.le_refl _) _ (newQ_bel wr) o)
            have x3 := Hd.mk (HQB.out.of_heap ((putQ_ne (newQ wr) wr.heap.size qb o (by have := HQB.out.lt; omega)).trans ((newQ_bel wr).block _ HQB.out.lt)))
            have hst : gIn l i (gFirst l z i (gOut l z i)) (k + 1) = if i ≠ k ∧ belowG q.f0 o.f0 = true then put2 (gIn l i (gFirst l z i (gOut l z i)) k) i k 1152921504606846976 else gIn l i (gFirst l z i (gOut l z i)) k := by rw [gIn, HQ.out, HO.out]
            clear HQB
            by_cases hik : i = k
            · subst hik
              have HS := Hd.mk (hst.trans (if_neg (fun hh => hh.1 rfl)))
              clear hst
              go_wp2_with (first | ((with_reducible refine wpL_newQ rfl rfl ?_); go_simp) | ((with_reducible refine wpL_storeQ rfl _ _ rfl wr.heap.size z38 o rfl rfl x0.out ?_); clear x0 c0 c1 c2 c3 c4 HU; generalize putQ (newQ wr) wr.heap.size o = w4 at x1 x2 x3 ⊢; generalize wr.heap.size = ob at x1 x2 x3 ⊢; go_simp))
              go_roundg (l.length - (i + 1))
              case measure => omega
              case rel => exact ⟨i + 1, by go_num, by omega, by omega, ⟨by rw [HS.out]; exact x2.out⟩, x3⟩
            · have d3 : decide ((i : Int) ≠ (k : Int)) = true := decide_eq_true (by omega)
              have d4 : ((i : Int) == (k : Int)) = false := beq_eq_false_iff_ne.mpr (by omega)
              cases hbe : belowG q.f0 o.f0 with
              | false =>
                have HS := Hd.mk (hst.trans (if_neg (fun hh => by rw [hbe] at hh; exact absurd hh.2 (by decide))))
                have HBE := Hd.mk (fun W => rule26 W q.f0 o.f0)
                rw [hbe] at HBE
                clear hst hbe
                go_wp2_with (first | ((with_reducible refine wpL_newQ rfl rfl ?_); go_simp) | ((with_reducible refine wpL_storeQ rfl _ _ rfl wr.heap.size z38 o rfl rfl x0.out ?_); clear x0 c0 c1 c2 c3 c4 HU; generalize putQ (newQ wr) wr.heap.size o = w4 at x1 x2 x3 ⊢; generalize wr.heap.size = ob at x1 x2 x3 ⊢; obtain ⟨c0, c1, c2, c3, c4⟩ := x1.out.cells; obtain ⟨e0, e1, e2, e3, e4⟩ := x3.out.cells; go_simp) | (go_at_call 26; refine (HBE.out _).mono ?_; rintro e w5 ⟨rfl, hb5⟩; have x5 := Hd.mk (x2.out.below hb5); have x6 := Hd.mk (x3.out.of_heap (hb5.block _ x3.out.lt)); clear hb5 x2 x3 c0 c1 c2 c3 c4 e0 e1 e2 e3 e4 HBE))
                go_roundg (l.length - (k + 1))
                case measure => omega
                case rel => exact ⟨k + 1, by go_num, by omega, by omega, ⟨by rw [HS.out]; exact x5.out⟩, x6⟩
              | true =>
                have HS := Hd.mk (hst.trans (if_pos ⟨hik, hbe⟩))
                have HBE := Hd.mk (fun W => rule26 W q.f0 o.f0)
                rw [hbe] at HBE
                clear hst hbe
                go_wp2_with (first | ((with_reducible refine wpL_newQ rfl rfl ?_); go_simp) | ((with_reducible refine wpL_storeQ rfl _ _ rfl wr.heap.size z38 o rfl rfl x0.out ?_); clear x0 c0 c1 c2 c3 c4 HU; generalize putQ (newQ wr) wr.heap.size o = w4 at x1 x2 x3 ⊢; generalize wr.heap.size = ob at x1 x2 x3 ⊢; obtain ⟨c0, c1, c2, c3, c4⟩ := x1.out.cells; obtain ⟨e0, e1, e2, e3, e4⟩ := x3.out.cells; go_simp) | (go_at_call 26; refine (HBE.out _).mono ?_; rintro e w5 ⟨rfl, hb5⟩; have x5 := Hd.mk (x2.out.below hb5); have x6 := Hd.mk (x3.out.of_heap (hb5.block _ x3.out.lt)); clear hb5 x2 x3 c0 c1 c2 c3 c4 e0 e1 e2 e3 e4 HBE; have gn := x5.out.N.get i k (by omega) (by omega); have fn : w5.frozen? ⟨nb, i * 26 + k, none⟩ = false := x5.out.N.frozen _))
                have x7 := Hd.mk (x5.out.set i k (by omega) (by omega) 1152921504606846976)
                have x8 := Hd.mk (x6.out.of_heap (heap_set_ne w5 nb (i * 26 + k) qb (.int .i64 1152921504606846976) (fun hh => NetQ x5.out.N x6.out hh)))
                go_roundg (l.length - (k + 1))
                case measure => omega
                case rel => exact ⟨k + 1, by go_num, by omega, by omega, ⟨by rw [HS.out]; exact x7.out⟩, x8⟩
          · have hlkz : ¬ (k : Int) < (l.length : Int) := by omega
            obtain rfl : k = l.length := by omega
            have HU6 := HU
            clear HU HQB
            go_wp2_with fail
            go_roundg (l.length - (i + 1))
            case measure => omega
            case rel => exact ⟨i + 1, by go_num, by omega, by omega, ⟨by rw [gOut]; exact HU6.out⟩⟩
      · have d1 : decide (q.f1 > z) = false := decide_eq_false hp
        go_wp2_with (first | ((with_reducible refine wpL_newQ rfl rfl ?_); go_simp) | ((with_reducible refine wpL_storeQ rfl _ _ rfl wr.heap.size z38 q rfl rfl x0.out ?_); clear x0 c0 c1 c2 c3 c4 HU; generalize putQ (newQ wr) wr.heap.size q = w3 at x1 x2 ⊢; generalize wr.heap.size = qb at x1 x2 ⊢; obtain ⟨c0, c1, c2, c3, c4⟩ := x1.out.cells; have gn : w3.cell? ⟨nb, i * 26 + 25, none⟩ = _ := x2.out.N.get i 25 (by omega) (by decide); have fn : w3.frozen? ⟨nb, i * 26 + 25, none⟩ = false := x2.out.N.frozen (i * 26 + 25); go_simp))
        go_region
        have hgf : gFirst l z i (gOut l z i) = put2 (gOut l z i) i 25 q.f2 := by unfold gFirst; rw [HQ.out, if_neg (by omega)]
        have HU2 := Hd.mk (show FuB w w.heap.size nb rb (w3.setCell ⟨nb, i * 26 + 25, none⟩ (.int .i64 q.f2)).drew (gIn l i (gFirst l z i (gOut l z i)) 0) from by rw [gIn, hgf]; exact (x2.out.set i 25 (by omega) (by decide) q.f2).drewN 1)
        have HQB := Hd.mk (show QBlk (w3.setCell ⟨nb, i * 26 + 25, none⟩ (.int .i64 q.f2)).drew qb q from x1.out.of_heap (heap_set_ne w3 nb (i * 26 + 25) qb (.int .i64 q.f2) (fun hh => NetQ x2.out.N x1.out hh)))
        clear x1 x2 gn fn c0 c1 c2 c3 c4 hgf d1 hp
        go_wp2_with fail
        go_loopg [33] l.length (fun gg v33 wr => ∃ (k : Nat), v33 = .int .i64 k ∧ k ≤ l.length ∧ l.length - k ≤ gg ∧ Hd (FuB w w.heap.size nb rb wr (gIn l i (gFirst l z i (gOut l z i)) k)) ∧ Hd (QBlk wr qb q))
        case atStart => exact ⟨0, rfl, Nat.zero_le _, by omega, HU2, HQB⟩
        case round =>
          clear HU2 HQB
          obtain ⟨k, rfl, hk, hgk, HU, HQB⟩ := hrel
          by_cases hlk : k < l.length
          · have hlkz : (k : Int) < (l.length : Int) := by omega
            obtain ⟨ad2, had, c0, c1, c2, c3, c4⟩ := at_T38 (HC.out _ HU.out.B) (k : Int) (by omega) (by omega)
            injection had with had
            subst had
            rw [Int.toNat_natCast] at c0 c1 c2 c3 c4
            have ho : rd_T38 l (k : Int) = qAt l k := rfl
            rw [ho] at c0 c1 c2 c3 c4
            clear ho
            obtain ⟨o, ho⟩ : ∃ o, qAt l k = o := ⟨_, rfl⟩
            have HO := Hd.mk ho
            rw [ho] at c0 c1 c2 c3 c4
            clear ho
            have x0 := Hd.mk (newQ_blk wr)
            have x1 := Hd.mk (putQ_blk (newQ_blk wr) o)
            have x2 := Hd.mk (HU.out.putQ (Nat.le_refl _) _ (newQ_bel wr) o)
            have x3 := Hd.mk (HQB.out.of_heap ((putQ_ne (newQ wr) wr.heap.size qb o (by have := HQB.out.lt; omega)).trans ((newQ_bel wr).block _ HQB.out.lt)))
            have hst : gIn l i (gFirst l z i (gOut l z i)) (k + 1) = if i ≠ k ∧ belowG q.f0 o.f0 = true then put2 (gIn l i (gFirst l z i (gOut l z i)) k) i k 1152921504606846976 else gIn l i (gFirst l z i (gOut l z i)) k := by rw [gIn, HQ.out, HO.out]
            clear HQB
            by_cases hik : i = k
            · subst hik
              have HS := Hd.mk (hst.trans (if_neg (fun hh => hh.1 rfl)))
              clear hst
              go_wp2_with (first | ((with_reducible refine wpL_newQ rfl rfl ?_); go_simp) | ((with_reducible refine wpL_storeQ rfl _ _ rfl wr.heap.size z38 o rfl rfl x0.out ?_); clear x0 c0 c1 c2 c3 c4 HU; generalize putQ (newQ wr) wr.heap.size o = w4 at x1 x2 x3 ⊢; generalize wr.heap.size = ob at x1 x2 x3 ⊢; go_simp))
              go_roundg (l.length - (i + 1))
              case measure => omega
              case rel => exact ⟨i + 1, by go_num, by omega, by omega, ⟨by rw [HS.out]; exact x2.out⟩, x3⟩
            · have d3 : decide ((i : Int) ≠ (k : Int)) = true := decide_eq_true (by omega)
              have d4 : ((i : Int) == (k : Int)) = false := beq_eq_false_iff_ne.mpr (by omega)
              cases hbe : belowG q.f0 o.f0 with
              | false =>
                have HS := Hd.mk (hst.trans (if_neg (fun hh => by rw [hbe] at hh; exact absurd hh.2 (by decide))))
                have HBE := Hd.mk (fun W => rule26 W q.f0 o.f0)
                rw [hbe] at HBE
                clear hst hbe
                go_wp2_with (first | ((with_reducible refine wpL_newQ rfl rfl ?_); go_simp) | ((with_reducible refine wpL_storeQ rfl _ _ rfl wr.heap.size z38 o rfl rfl x0.out ?_); clear x0 c0 c1 c2 c3 c4 HU; generalize putQ (newQ wr) wr.heap.size o = w4 at x1 x2 x3 ⊢; generalize wr.heap.size = ob at x1 x2 x3 ⊢; obtain ⟨c0, c1, c2, c3, c4⟩ := x1.out.cells; obtain ⟨e0, e1, e2, e3, e4⟩ := x3.out.cells; go_simp) | (go_at_call 26; refine (HBE.out _).mono ?_; rintro e w5 ⟨rfl, hb5⟩; have x5 := Hd.mk (x2.out.below hb5); have x6 := Hd.mk (x3.out.of_heap (hb5.block _ x3.out.lt)); clear hb5 x2 x3 c0 c1 c2 c3 c4 e0 e1 e2 e3 e4 HBE))
                go_roundg (l.length - (k + 1))
                case measure => omega
                case rel => exact ⟨k + 1, by go_num, by omega, by omega, ⟨by rw [HS.out]; exact x5.out⟩, x6⟩
              | true =>
                have HS := Hd.mk (hst.trans (if_pos ⟨hik, hbe⟩))
                have HBE := Hd.mk (fun W => rule26 W q.f0 o.f0)
                rw [hbe] at HBE
                clear hst hbe
                go_wp2_with (first | ((with_reducible refine wpL_newQ rfl rfl ?_); go_simp) | ((with_reducible refine wpL_storeQ rfl _ _ rfl wr.heap.size z38 o rfl rfl x0.out ?_); clear x0 c0 c1 c2 c3 c4 HU; generalize putQ (newQ wr) wr.heap.size o = w4 at x1 x2 x3 ⊢; generalize wr.heap.size = ob at x1 x2 x3 ⊢; obtain ⟨c0, c1, c2, c3, c4⟩ := x1.out.cells; obtain ⟨e0, e1, e2, e3, e4⟩ := x3.out.cells; go_simp) | (go_at_call 26; refine (HBE.out _).mono ?_; rintro e w5 ⟨rfl, hb5⟩; have x5 := Hd.mk (x2.out.below hb5); have x6 := Hd.mk (x3.out.of_heap (hb5.block _ x3.out.lt)); clear hb5 x2 x3 c0 c1 c2 c3 c4 e0 e1 e2 e3 e4 HBE; have gn := x5.out.N.get i k (by omega) (by omega); have fn : w5.frozen? ⟨nb, i * 26 + k, none⟩ = false := x5.out.N.frozen _))
                have x7 := Hd.mk (x5.out.set i k (by omega) (by omega) 1152921504606846976)
                have x8 := Hd.mk (x6.out.of_heap (heap_set_ne w5 nb (i * 26 + k) qb (.int .i64 1152921504606846976) (fun hh => NetQ x5.out.N x6.out hh)))
                go_roundg (l.length - (k + 1))
                case measure => omega
                case rel => exact ⟨k + 1, by go_num, by omega, by omega, ⟨by rw [HS.out]; exact x7.out⟩, x8⟩
          · have hlkz : ¬ (k : Int) < (l.length : Int) := by omega
            obtain rfl : k = l.length := by omega
            have HU6 := HU
            clear HU HQB
            go_wp2_with fail
            go_roundg (l.length - (i + 1))
            case measure => omega
            case rel => exact ⟨i + 1, by go_num, by omega, by omega, ⟨by rw [gOut]; exact HU6.out⟩⟩
    · have hltz : ¬ (i : Int) < (l.length : Int) := by omega
      obtain rfl : i = l.length := by omega
      have HFull := Hd.mk (full_any wr nb nb (Nat.le_refl _) (Nat.le_of_lt HU.out.N.lt) _ HU.out.N f F2 r2 HF.out)
      go_wp2_with fail
      refine HFull.out.mono ?_
      rintro e w5 ⟨rfl, hb5⟩
      have HR := Hd.mk (HU.out.R.of_heap (hb5.block _ HRN.out))
      have HB := Hd.mk (putRow_bel (HU.out.B.trans (hb5.mono HU.out.bn)) HU.out.br F2)
      have HE := Hd.mk (putRow_blk HR.out F2)
      clear hb5 HU HFull
      go_wp2_with (with_reducible refine wpL_store rfl _ _ rfl rb _ F2 rfl rfl HR.out ?_)
      generalize putRow w5 rb F2 = w9 at HE HB ⊢
      refine bodyPost_ret (results_row rfl _ rb F2 rfl HE.out) rfl ?_
      exact ⟨rfl, HB.out⟩
end Go.Proofs.Ytnbdfmdjedakcaa
