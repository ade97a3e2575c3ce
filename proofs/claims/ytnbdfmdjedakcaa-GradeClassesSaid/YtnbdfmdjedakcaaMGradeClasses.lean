/- No conditions. -/
import Derived.Test.YtnbdfmdjedakcaaU4
import Derived.Test.YtnbdfmdjedakcaaH29
namespace Go.Proofs.Ytnbdfmdjedakcaa.PP
open Go.RowKit Go.Proofs.YtnbdfmdjedakcaaW.PrintWords Go.Proofs.YtnbdfmdjedakcaaW.PrintLast Go.Proofs.YtnbdfmdjedakcaaW.PrintMore Go.Proofs.Ytnbdfmdjedakcaa
theorem rowB_congr {U V : S36 → Bool} (h : ∀ g, gok g = true → U g = V g) : rowB U = rowB V := List.map_congr_left fun g hg => h g (mem_all.1 hg)
def upto (V U : S36 → Bool) (n : Nat) (g : S36) : Bool := if plN g < n then V g else U g
theorem upto_0 (V U : S36 → Bool) : rowB (upto V U 0) = rowB U := rowB_congr fun g _ => by unfold upto; rw [if_neg (by omega)]
theorem upto_all (V U : S36 → Bool) : rowB (upto V U 1728) = rowB V := rowB_congr fun g hg => by unfold upto; rw [if_pos (nth_pl hg).2]
theorem upto_set (V U : S36 → Bool) {n : Nat} (hn : n < 1728) : (rowB (upto V U n)).set n (V (nthG n)) = rowB (upto V U (n + 1)) := by
 have h := rowB_set (upto V U n) (gok_nth hn) (V (nthG n))
 rw [pl_nth hn] at h
 rw [h]
 refine rowB_congr fun g hg => ?_
 unfold upto
 by_cases e : eqG g (nthG n) = true
 ·obtain rfl := eqG_iff.1 e
  rw [if_pos e, if_pos (by rw [pl_nth hn]; omega)]
 ·rw [if_neg e]
  have : plN g ≠ n := fun e2 => e (eqG_iff.2 (by rw [← e2, (nth_pl hg).1]))
  by_cases h2 : plN g < n
  ·rw [if_pos h2, if_pos (by omega)]
  ·rw [if_neg h2, if_neg (by omega)]
theorem upto_rd (V U : S36 → Bool) {n : Nat} (hn : n < 1728) : rdOf false (rowB (upto V U n)) (n : Int) = U (nthG n) := by
 rw [rowB_rd _ n hn]
 unfold upto
 rw [pl_nth hn, if_neg (by omega)]
theorem edge_f (V : S36 → Bool) (up : Bool) : kimberliteref02_edge.f (rowB V) up = some (edgeL V (if up = true then 1 else -1)) := by
 unfold kimberliteref02_edge.f
 rw [if_pos (rowB_len _)]
 congr 1
 refine edge_congr fun g hg => ?_
 unfold rowU
 rw [rowB_rd _ _ (nth_pl hg).2, (nth_pl hg).1]
theorem rowB_at (U : S36 → Bool) {n : Nat} (hn : n < 1728) (b : Bool) : (rowB U).set n b = rowB fun g => if eqG g (nthG n) = true then b else U g := by
 have h := rowB_set U (gok_nth hn) b
 rwa [pl_nth hn] at h
theorem row_set2 (U : S36 → Bool) {n : Nat} (hn : n < 1728) (b b' : Bool) : ((rowB U).set n b).set n b' = (rowB U).set n b' := by rw [List.set_set]
theorem row_rd2 (U : S36 → Bool) {n : Nat} (hn : n < 1728) (b : Bool) : rdOf false ((rowB U).set n b) (n : Int) = b := by
 rw [rowB_at U hn, rowB_rd _ n hn]
 simp only [eqG_iff.2 rfl, if_true]
theorem row_len2 (U : S36 → Bool) (n : Nat) (b : Bool) : ((rowB U).set n b).length = 1728 := by rw [List.length_set, rowB_len]
theorem row_l1 (c : List S36) (hc : c.length ≤ 1000000) (U : S36 → Bool) (n : Nat) (hn : n < 1728) (r : List Bool × Bool) (h : Ev (fun k => kimberliteref02_Row.l0 k c ((rowB U).set n (upS c (nthG n))) ((n + 1 : Nat) : Int)) r) : ∀ m (i : Nat), i + m = c.length → Ev (fun k => kimberliteref02_Row.l1 k c ((rowB U).set n (upS (c.take i) (nthG n))) (n : Int) (i : Int)) r
 | 0, i, hi => by
  rw [List.take_of_length_le (by omega)]
  refine Ev.step h (fun k => ?_)
  show kimberliteref02_Row.l1 (k + 1) c ((rowB U).set n (upS c (nthG n))) (n : Int) (i : Int) = _
  rw [kimberliteref02_Row.l1, if_neg (by omega), sucN (by omega)]
 | m + 1, i, hi => by
  have hil : i < c.length := by omega
  have ih := row_l1 c hc U n hn r h m (i + 1) (by omega)
  refine Ev.step ih (fun k => ?_)
  show kimberliteref02_Row.l1 (k + 1) c ((rowB U).set n (upS (c.take i) (nthG n))) (n : Int) (i : Int) = _
  have e : upS (c.take (i + 1)) (nthG n) = (upS (c.take i) (nthG n) || belowG c[i] (nthG n)) := by
   rw [List.take_succ_eq_append_getElem hil, upS_append]
   unfold upS
   simp
  rw [kimberliteref02_Row.l1, if_pos (by omega), if_pos (by omega), if_pos (by rw [row_len2]; omega), row_rd2 U hn, sucN (by omega), e]
  cases hq : upS (c.take i) (nthG n) with
  | true => rw [if_pos rfl, Int.toNat_natCast, row_set2 U hn]; rfl
  | false =>
   rw [if_neg (by decide), if_pos (by omega), nth_f hn, rdG c i hil, Bool.false_or]
   simp only [Option.bind_some]
   rw [show kimberliteref02_Below.f c[i].f0 c[i].f1 c[i].f2 (nthG n).f0 (nthG n).f1 (nthG n).f2 = some (belowG c[i] (nthG n)) from below_f _ _]
   simp only [Option.bind_some]
   rw [Int.toNat_natCast, row_set2 U hn]
theorem row_l0 (c : List S36) (hc : c.length ≤ 1000000) : ∀ m (n : Nat), n + m = 1728 → Ev (fun k => kimberliteref02_Row.l0 k c (rowB (upto (upS c) (fun _ => false) n)) (n : Int)) (rowB (upS c), true)
 | 0, n, hn => by
  obtain rfl : n = 1728 := by omega
  refine Ev.step (Ev.pure _) (fun k => ?_)
  show kimberliteref02_Row.l0 (k + 1) c (rowB (upto (upS c) (fun _ => false) 1728)) ((1728 : Nat) : Int) = _
  rw [kimberliteref02_Row.l0, if_neg (by omega), upto_all]
 | m + 1, n, hn => by
  have hn1 : n < 1728 := by omega
  have ih := row_l0 c hc m (n + 1) (by omega)
  rw [← upto_set _ _ hn1] at ih
  have h1 := row_l1 c hc (upto (upS c) (fun _ => false) n) n hn1 _ ih c.length 0 (by omega)
  have e : (rowB (upto (upS c) (fun _ => false) n)).set n (upS (c.take 0) (nthG n)) = rowB (upto (upS c) (fun _ => false) n) := by
   rw [rowB_at _ hn1]
   refine rowB_congr fun g hg => ?_
   by_cases e : eqG g (nthG n) = true
   ·obtain rfl := eqG_iff.1 e
    rw [if_pos e]
    unfold upto
    rw [pl_nth hn1, if_neg (by omega)]
    rfl
   ·rw [if_neg e]
  rw [e] at h1
  refine Ev.step h1 (fun k => ?_)
  show kimberliteref02_Row.l0 (k + 1) c (rowB (upto (upS c) (fun _ => false) n)) (n : Int) = _
  rw [kimberliteref02_Row.l0, if_pos (by omega)]
  rfl
theorem rep_row : List.replicate 1728 false = rowB (fun _ => false) := by
 refine rowB_ext List.length_replicate fun n hn => ?_
 rw [List.getElem?_replicate, if_pos hn]
theorem row_ev (c : List S36) (hc : c.length ≤ 1000000) : Ev (fun k => kimberliteref02_Row.f k c) (if anB c = true then (rowB (upS c), true) else ([], false)) := by
 unfold kimberliteref02_Row.f
 refine Ev.bind (refAnti_ev c hc) ?_
 cases anB c with
 | false =>
  simp only [Bool.false_eq_true, if_false]
  exact Ev.pure _
 | true =>
  simp only [if_true, show (1728 : Nat) ≤ 281474976710656 by omega]
  rw [rep_row]
  have := row_l0 c hc 1728 0 (by omega)
  rw [upto_0] at this
  exact this
theorem two_l0 (both : Bool) (A B : S36 → Bool) : ∀ m (n : Nat), n + m = 1728 → Ev (fun k => kimberliteref02_Two.l0 k both (rowB (upto (fun g => if both = true then A g && B g else A g || B g) A n)) (rowB B) (n : Int)) (clU (fun g => if both = true then A g && B g else A g || B g), 0)
 | 0, n, hn => by
  obtain rfl : n = 1728 := by omega
  refine Ev.step (Ev.pure _) (fun k => ?_)
  show kimberliteref02_Two.l0 (k + 1) both _ _ ((1728 : Nat) : Int) = _
  rw [kimberliteref02_Two.l0, if_neg (by omega), upto_all, edge_f]
  rfl
 | m + 1, n, hn => by
  have hn1 : n < 1728 := by omega
  have ih := two_l0 both A B m (n + 1) (by omega)
  rw [← upto_set _ _ hn1] at ih
  refine Ev.step ih (fun k => ?_)
  show kimberliteref02_Two.l0 (k + 1) both (rowB (upto (fun g => if both = true then A g && B g else A g || B g) A n)) (rowB B) (n : Int) = _
  rw [kimberliteref02_Two.l0, if_pos (by omega), sucN (by omega), upto_rd _ _ hn1, rowB_rd B n hn1]
  simp only [rowB_len, Int.toNat_natCast]
  cases both with
  | true =>
   rw [if_pos rfl, if_pos (by omega), if_pos (by omega)]
   cases A (nthG n) with
   | true => rw [if_pos rfl, if_pos (by omega)]; rfl
   | false => rw [if_neg (by decide)]; rfl
  | false =>
   rw [if_neg (by decide), if_pos (by omega), if_pos (by omega)]
   cases A (nthG n) with
   | true => rw [if_pos rfl]; rfl
   | false => rw [if_neg (by decide), if_pos (by omega)]; rfl
theorem two_ev (a b : List S36) (ha : a.length ≤ 1000000) (hb : b.length ≤ 1000000) (both : Bool) : Ev (fun k => kimberliteref02_Two.f k a b both) (if (anB a && anB b) = true then (clU (fun g => if both = true then upS a g && upS b g else upS a g || upS b g), 0) else ([], 2)) := by
 unfold kimberliteref02_Two.f
 refine Ev.bind (row_ev a ha) (Ev.bind (row_ev b hb) ?_)
 have no : ∀ x y, Ev (fun k => kimberliteref02_Two.j0 k both x y true) ([], 2) := fun x y => Ev.step (Ev.pure _) (fun k => by
  show kimberliteref02_Two.j0 (k + 1) both x y true = _
  rw [kimberliteref02_Two.j0, if_pos rfl])
 cases anB a with
 | false =>
  simp only [Bool.false_eq_true, if_false, Bool.false_and]
  exact no _ _
 | true =>
  cases anB b with
  | false =>
   simp only [Bool.false_eq_true, if_false, if_true, Bool.and_false, Bool.not_false]
   exact no _ _
  | true =>
   simp only [if_true, Bool.and_self, Bool.not_true]
   have := two_l0 both (upS a) (upS b) 1728 0 (by omega)
   rw [upto_0] at this
   refine Ev.step this (fun k => ?_)
   show kimberliteref02_Two.j0 (k + 1) both (rowB (upS a)) (rowB (upS b)) false = _
   rw [kimberliteref02_Two.j0, if_neg (by decide)]
   rfl
theorem outs_l0 (A : S36 → Bool) : ∀ m (n : Nat), n + m = 1728 → Ev (fun k => kimberliteref02_Outside.l0 k (rowB (upto (fun g => !A g) A n)) (n : Int)) (edgeL (fun g => !A g) 1, 0)
 | 0, n, hn => by
  obtain rfl : n = 1728 := by omega
  refine Ev.step (Ev.pure _) (fun k => ?_)
  show kimberliteref02_Outside.l0 (k + 1) _ ((1728 : Nat) : Int) = _
  rw [kimberliteref02_Outside.l0, if_neg (by omega), upto_all, edge_f]
  rfl
 | m + 1, n, hn => by
  have hn1 : n < 1728 := by omega
  have ih := outs_l0 A m (n + 1) (by omega)
  rw [← upto_set _ _ hn1] at ih
  refine Ev.step ih (fun k => ?_)
  show kimberliteref02_Outside.l0 (k + 1) (rowB (upto (fun g => !A g) A n)) (n : Int) = _
  rw [kimberliteref02_Outside.l0, if_pos (by omega), if_pos (by omega), if_pos (by rw [rowB_len]; omega), sucN (by omega), upto_rd _ _ hn1, Int.toNat_natCast]
theorem outs_ev (a : List S36) (ha : a.length ≤ 1000000) : Ev (fun k => kimberliteref02_Outside.f k a) (outF a) := by
 unfold kimberliteref02_Outside.f outF
 refine Ev.bind (row_ev a ha) ?_
 cases anB a with
 | false =>
  simp only [Bool.false_eq_true, if_false]
  exact Ev.pure _
 | true =>
  simp only [if_true]
  have := outs_l0 (upS a) 1728 0 (by omega)
  rw [upto_0] at this
  exact this
def notUnder (c : List S36) (g : S36) : Bool := !c.any fun m => belowG g m
theorem bey_l1 (c : List S36) (hc : c.length ≤ 1000000) (U : S36 → Bool) (n : Nat) (hn : n < 1728) (r : List S36 × Int) (h : Ev (fun k => kimberliteref02_Beyond.l0 k c ((rowB U).set n (notUnder c (nthG n))) ((n + 1 : Nat) : Int)) r) : ∀ m (i : Nat), i + m = c.length → Ev (fun k => kimberliteref02_Beyond.l1 k c ((rowB U).set n (notUnder (c.take i) (nthG n))) (n : Int) (i : Int)) r
 | 0, i, hi => by
  rw [List.take_of_length_le (by omega)]
  refine Ev.step h (fun k => ?_)
  show kimberliteref02_Beyond.l1 (k + 1) c ((rowB U).set n (notUnder c (nthG n))) (n : Int) (i : Int) = _
  rw [kimberliteref02_Beyond.l1, if_neg (by omega), sucN (by omega)]
 | m + 1, i, hi => by
  have hil : i < c.length := by omega
  have ih := bey_l1 c hc U n hn r h m (i + 1) (by omega)
  refine Ev.step ih (fun k => ?_)
  show kimberliteref02_Beyond.l1 (k + 1) c ((rowB U).set n (notUnder (c.take i) (nthG n))) (n : Int) (i : Int) = _
  have e : notUnder (c.take (i + 1)) (nthG n) = (notUnder (c.take i) (nthG n) && !belowG (nthG n) c[i]) := by
   unfold notUnder
   rw [List.take_succ_eq_append_getElem hil, List.any_append, Bool.not_or]
   simp
  rw [kimberliteref02_Beyond.l1, if_pos (by omega), if_pos (by omega), if_pos (by rw [row_len2]; omega), row_rd2 U hn, sucN (by omega), e]
  cases hq : notUnder (c.take i) (nthG n) with
  | false => rw [if_neg (by decide), Int.toNat_natCast, row_set2 U hn]; rfl
  | true =>
   rw [if_pos rfl, nth_f hn, Option.bind_some, if_pos (by omega), rdG c i hil, Bool.true_and]
   rw [show kimberliteref02_Below.f (nthG n).f0 (nthG n).f1 (nthG n).f2 c[i].f0 c[i].f1 c[i].f2 = some (belowG (nthG n) c[i]) from below_f _ _]
   simp only [Option.bind_some]
   rw [Int.toNat_natCast, row_set2 U hn]
theorem bey_l0 (c : List S36) (hc : c.length ≤ 1000000) : ∀ m (n : Nat), n + m = 1728 → Ev (fun k => kimberliteref02_Beyond.l0 k c (rowB (upto (notUnder c) (fun _ => false) n)) (n : Int)) (edgeL (notUnder c) (-1), 0)
 | 0, n, hn => by
  obtain rfl : n = 1728 := by omega
  refine Ev.step (Ev.pure _) (fun k => ?_)
  show kimberliteref02_Beyond.l0 (k + 1) c (rowB (upto (notUnder c) (fun _ => false) 1728)) ((1728 : Nat) : Int) = _
  rw [kimberliteref02_Beyond.l0, if_neg (by omega), upto_all, edge_f]
  rfl
 | m + 1, n, hn => by
  have hn1 : n < 1728 := by omega
  have ih := bey_l0 c hc m (n + 1) (by omega)
  rw [← upto_set _ _ hn1] at ih
  have h1 := bey_l1 c hc (upto (notUnder c) (fun _ => false) n) n hn1 _ ih c.length 0 (by omega)
  refine Ev.step h1 (fun k => ?_)
  show kimberliteref02_Beyond.l0 (k + 1) c (rowB (upto (notUnder c) (fun _ => false) n)) (n : Int) = _
  rw [kimberliteref02_Beyond.l0, if_pos (by omega), if_pos (by omega), if_pos (by rw [rowB_len]; omega), Int.toNat_natCast]
  rfl
theorem bey_ev (a : List S36) (ha : a.length ≤ 1000000) : Ev (fun k => kimberliteref02_Beyond.f k a) (beyF a) := by
 unfold kimberliteref02_Beyond.f beyF
 refine Ev.bind (refAnti_ev a ha) ?_
 cases anB a with
 | false =>
  simp only [Bool.false_eq_true, if_false]
  exact Ev.pure _
 | true =>
  simp only [if_true, show (1728 : Nat) ≤ 281474976710656 by omega]
  rw [rep_row]
  have := bey_l0 a ha 1728 0 (by omega)
  rw [upto_0] at this
  exact this
def cntF (a : List S36) : Int × Int := if anB a = true then ((((allL.filter (upS a)).length : Nat) : Int), 0) else (0, 2)
theorem cnt_ev (a : List S36) (ha : a.length ≤ 1000000) : Ev (fun k => grade_Count.f k a) (cntF a) := by
 unfold cntF
 cases hq : anB a with
 | true =>
  rw [if_pos rfl]
  exact count_cl (anB_iff.1 hq)
 | false =>
  unfold grade_Count.f
  refine Ev.bind ((antichain_ev a ha).to hq) ?_
  simp only [Bool.false_eq_true, if_false]
  exact Ev.pure _
theorem rcnt_l0 (U : S36 → Bool) : ∀ m (n c : Nat), n + m = 1728 → c ≤ n → Ev (fun k => kimberliteref02_Count.l0 k (rowB U) (c : Int) (n : Int)) ((((c + ((List.range' n m).filter fun i => U (nthG i)).length : Nat)) : Int), 0)
 | 0, n, c, hn, hc => by
  refine Ev.step (Ev.pure _) (fun k => ?_)
  show kimberliteref02_Count.l0 (k + 1) (rowB U) (c : Int) (n : Int) = _
  rw [kimberliteref02_Count.l0, if_neg (by omega)]
  simp
 | m + 1, n, c, hn, hc => by
  have hn1 : n < 1728 := by omega
  rw [List.range'_succ, List.filter_cons]
  have e : ∀ k, kimberliteref02_Count.l0 (k + 1) (rowB U) (c : Int) (n : Int) = if U (nthG n) = true then kimberliteref02_Count.l0 k (rowB U) ((c + 1 : Nat) : Int) ((n + 1 : Nat) : Int) else kimberliteref02_Count.l0 k (rowB U) (c : Int) ((n + 1 : Nat) : Int) := fun k => by
   rw [kimberliteref02_Count.l0, if_pos (by omega), if_pos (by omega), if_pos (by rw [rowB_len]; omega), rowB_rd U n hn1, sucN (by omega), sucN (by omega)]
  cases hq : U (nthG n) with
  | true =>
   refine Ev.step ((rcnt_l0 U m (n + 1) (c + 1) (by omega) (by omega)).to ?_) (fun k => ?_)
   ·rw [if_pos rfl, List.length_cons]
    congr 2
    omega
   ·show kimberliteref02_Count.l0 (k + 1) (rowB U) (c : Int) (n : Int) = _
    rw [e, hq, if_pos rfl]
  | false =>
   refine Ev.step ((rcnt_l0 U m (n + 1) c (by omega) (by omega)).to ?_) (fun k => ?_)
   ·rw [if_neg (by decide)]
   ·show kimberliteref02_Count.l0 (k + 1) (rowB U) (c : Int) (n : Int) = _
    rw [e, hq, if_neg (by decide)]
theorem rcnt_ev (a : List S36) (ha : a.length ≤ 1000000) : Ev (fun k => kimberliteref02_Count.f k a) (cntF a) := by
 unfold kimberliteref02_Count.f cntF
 refine Ev.bind (row_ev a ha) ?_
 cases anB a with
 | false =>
  simp only [Bool.false_eq_true, if_false]
  exact Ev.pure _
 | true =>
  simp only [if_true]
  refine (rcnt_l0 (upS a) 1728 0 0 (by omega) (by omega)).to ?_
  rw [all_nth, List.filter_map, List.length_map, List.range_eq_range', Nat.zero_add]
  rfl
def inF (a : List S36) (x : S36) : Bool × Int := if (anB a && gok x) = true then (upS a x, 0) else (false, 2)
theorem inn_ev (a : List S36) (ha : a.length ≤ 1000000) (x : S36) : Ev (fun k => grade_In.f k a x.f0 x.f1 x.f2) (inF a x) := by
 unfold inF
 cases hq : anB a with
 | true =>
  refine (in_ev (anB_iff.1 hq) x).to ?_
  rw [Bool.true_and]
 | false =>
  unfold grade_In.f
  refine Ev.bind ((antichain_ev a ha).to hq) ?_
  simp only [Bool.false_eq_true, if_false, Bool.false_and]
  exact Ev.pure _
theorem rin_ev (a : List S36) (ha : a.length ≤ 1000000) (x : S36) : Ev (fun k => kimberliteref02_In.f k a x.f0 x.f1 x.f2) (inF a x) := by
 unfold kimberliteref02_In.f inF
 refine Ev.bind (row_ev a ha) ?_
 cases anB a with
 | false =>
  simp only [Bool.false_eq_true, if_false, Bool.false_and]
  exact Ev.pure _
 | true =>
  have e : kimberliteref02_Good.f x.f0 x.f1 x.f2 = some (gok x) := rfl
  simp only [if_true, e, Option.bind_some, Bool.true_and]
  by_cases hg : gok x = true
  ·obtain ⟨h1, h2⟩ := nth_pl hg
   simp only [hg, if_true, place_f hg, Option.bind_some, rowB_len, rowB_rd _ _ h2, h1]
   rw [show (fun _ : Nat => if (0 : Int) ≤ ((plN x : Nat) : Int) then if ((plN x : Nat) : Int) < ((1728 : Nat) : Int) then some (upS a x, (0 : Int)) else none else none) = fun _ => some (upS a x, 0) from funext fun _ => by rw [if_pos (by omega), if_pos (by omega)]]
   exact Ev.pure _
  ·have hg2 : gok x = false := by simpa using hg
   simp only [hg2, Bool.false_eq_true, if_false]
   exact Ev.pure _
theorem eit_two (a b : List S36) : eitF a b = (if (anB a && anB b) = true then (clU (fun g => if false = true then upS a g && upS b g else upS a g || upS b g), 0) else ([], 2)) := by
 by_cases h : (anB a && anB b) = true
 ·rw [if_pos h]
  rw [Bool.and_eq_true] at h
  rw [eit_cl (anB_iff.1 h.1) (anB_iff.1 h.2)]
  rfl
 ·rw [if_neg h]; unfold eitF; rw [if_neg h]
theorem bot_two (a b : List S36) : botF a b = (if (anB a && anB b) = true then (clU (fun g => if true = true then upS a g && upS b g else upS a g || upS b g), 0) else ([], 2)) := by
 by_cases h : (anB a && anB b) = true
 ·rw [if_pos h]
  rw [Bool.and_eq_true] at h
  rw [bot_cl (anB_iff.1 h.1) (anB_iff.1 h.2)]
  rfl
 ·rw [if_neg h]; unfold botF; rw [if_neg h]
theorem edgeL_len (U : S36 → Bool) (s : Int) : (edgeL U s).length ≤ 1728 := by
 have := List.length_filter_le (fun g => U g && !hasNb U s g) allL
 rw [allL_len] at this
 exact this
theorem classes_all (w : World) (A B : Option Addr) (ca cb : Nat) (a b : List S36) (x : S36) (hA : Kd.C k36 w A a.length a) (hB : Kd.C k36 w B b.length b) (hca : a.length ≤ ca) (hcb : b.length ≤ cb) :
  Calls Try.prog 13 #[.slice A a.length ca, .slice B b.length cb, .agg #[.int .i64 x.f0, .int .i64 x.f1, .int .i64 x.f2]] w fun e w' => e = .returned (.bool true) ∧ Below w.heap.size w w' := by
 obtain ⟨k0, h0⟩ := alive_ev
 by_cases hab : a.length ≤ 260 ∧ b.length ≤ 260
 ·have ha : a.length ≤ 1000000 := by omega
  have hb : b.length ≤ 1000000 := by omega
  have l1 : (eitF a b).1.length ≤ 1728 := by
   rw [eit_two]; split
   ·dsimp only [clU]
    exact edgeL_len _ _
   ·simp
  have l2 : (botF a b).1.length ≤ 1728 := by
   rw [bot_two]; split
   ·dsimp only [clU]
    exact edgeL_len _ _
   ·simp
  have l3 : (outF a).1.length ≤ 1728 := by
   unfold outF; split
   ·dsimp only [clU]
    exact edgeL_len _ _
   ·simp
  have l4 : (beyF a).1.length ≤ 1728 := by
   unfold beyF; split
   ·dsimp only [clU]
    exact edgeL_len _ _
   ·simp
  obtain ⟨k1, h1⟩ := (two_ev a b ha hb false).to (eit_two a b).symm
  obtain ⟨k2, h2⟩ := (two_ev a b ha hb true).to (bot_two a b).symm
  obtain ⟨k3, h3⟩ := outs_ev a ha
  obtain ⟨k4, h4⟩ := bey_ev a ha
  obtain ⟨k5, h5⟩ := cnt_ev a ha
  obtain ⟨k6, h6⟩ := rcnt_ev a ha
  obtain ⟨k7, h7⟩ := inn_ev a ha x
  obtain ⟨k8, h8⟩ := rin_ev a ha x
  obtain ⟨k9, h9⟩ := alike_same (eitF a b).1 (by omega)
  obtain ⟨k10, h10⟩ := alike_same (botF a b).1 (by omega)
  obtain ⟨k11, h11⟩ := alike_same (outF a).1 (by omega)
  obtain ⟨k12, h12⟩ := alike_same (beyF a).1 (by omega)
  obtain ⟨k13, h13⟩ := alike_same a ha
  obtain ⟨k14, h14⟩ := alike_same b hb
  let K := k0 + k1 + k2 + k3 + k4 + k5 + k6 + k7 + k8 + k9 + k10 + k11 + k12 + k13 + k14
  exact classes_main w A B ca cb a b x hA hB hca hcb hab.1 hab.2 K (eitF a b) (botF a b) (outF a) (beyF a) rfl rfl rfl rfl (cntF a).1 (cntF a).2 (inF a x).2 (inF a x).1
   (h1 K (by omega)) (h2 K (by omega)) (h3 K (by omega)) (h4 K (by omega)) (h5 K (by omega)) (h6 K (by omega)) (h7 K (by omega)) (h8 K (by omega)) (h9 K (by omega)) (h10 K (by omega)) (h11 K (by omega)) (h12 K (by omega)) (h13 K (by omega)) (h14 K (by omega)) (h0 K (by omega))
 ·exact classes_many w A B ca cb a b x hA hB hca hcb hab k0 (h0 k0 (Nat.le_refl _))
end Go.Proofs.Ytnbdfmdjedakcaa.PP
