/- No conditions. -/
import Derived.Test.YtnbdfmdjedakcaaHA
import Derived.Test.YtnbdfmdjedakcaaSortL
namespace Go.Proofs.Ytnbdfmdjedakcaa
open Go.RowKit Go.Proofs.YtnbdfmdjedakcaaW.PrintWords Go.Proofs.YtnbdfmdjedakcaaW.PrintLast Go.Proofs.YtnbdfmdjedakcaaW.PrintMore PP Go.Sort
set_option linter.unusedVariables false
set_option linter.unusedSimpArgs false
def cmpI (a b : Int) : Int := if a < b then -1 else if a > b then 1 else 0
def or3 (a b c : Int) : Int := if a = 0 then (if b = 0 then c else b) else a
def cfG (x y : S36) : Int := or3 (cmpI x.f0 y.f0) (cmpI x.f1 y.f1) (cmpI x.f2 y.f2)
def ltG (x y : S36) : Bool := decide (x.f0 < y.f0 ∨ (x.f0 = y.f0 ∧ (x.f1 < y.f1 ∨ (x.f1 = y.f1 ∧ x.f2 < y.f2))))
theorem cmpI_f (a b : Int) : cmp_Compare_int.f a b = some (cmpI a b) := by
 unfold cmp_Compare_int.f cmp_isNaN_int.f cmpI
 rw [bne_self_eq_false, bne_self_eq_false]
 simp only [Option.bind_some, Bool.false_eq_true, if_false]
 by_cases h1 : a < b
 ·rw [if_pos h1, if_pos h1]
 ·rw [if_neg h1, if_neg h1]
  by_cases h2 : a > b
  ·rw [if_pos h2, if_pos h2]
  ·rw [if_neg h2, if_neg h2]
theorem or3_f (a b c : Int) : cmp_Or_int.f 9 [a, b, c] = some (or3 a b c) := by
 unfold cmp_Or_int.f or3
 by_cases ha : a = 0
 ·subst ha
  by_cases hb : b = 0
  ·subst hb
   by_cases hc : c = 0
   ·subst hc
    simp [cmp_Or_int.l0, Go.Proofs.YtnbdfmdjedakcaaW.PrintWords.rd, wrap64]
   ·simp [cmp_Or_int.l0, Go.Proofs.YtnbdfmdjedakcaaW.PrintWords.rd, wrap64, hc]
  ·simp [cmp_Or_int.l0, Go.Proofs.YtnbdfmdjedakcaaW.PrintWords.rd, wrap64, hb]
 ·simp [cmp_Or_int.l0, Go.Proofs.YtnbdfmdjedakcaaW.PrintWords.rd, wrap64, ha]
theorem ltOf_G (x y : S36) : ltOf cfG x y = ltG x y := by
 unfold ltOf cfG ltG or3 cmpI
 refine decide_eq_decide.mpr ?_
 repeat (first | split | omega)
theorem ltG_iff {x y : S36} : ltG x y = true ↔ (x.f0 < y.f0 ∨ (x.f0 = y.f0 ∧ (x.f1 < y.f1 ∨ (x.f1 = y.f1 ∧ x.f2 < y.f2)))) := by
 unfold ltG
 rw [decide_eq_true_eq]
theorem ltG_no {x y : S36} : ltG x y = false ↔ ¬ (x.f0 < y.f0 ∨ (x.f0 = y.f0 ∧ (x.f1 < y.f1 ∨ (x.f1 = y.f1 ∧ x.f2 < y.f2)))) := by
 unfold ltG
 rw [decide_eq_false_iff_not]
theorem swoG : SWO (ltOf cfG) where
 irrefl x := by rw [ltOf_G, ltG_no]; omega
 trans x y z h1 h2 := by rw [ltOf_G, ltG_iff] at *; omega
 ntrans x y z h1 h2 := by rw [ltOf_G, ltG_no] at *; omega
theorem ltG_total (x y : S36) (h1 : ltOf cfG x y = false) (h2 : ltOf cfG y x = false) : x = y := by
 rw [ltOf_G, ltG_no] at h1 h2
 obtain ⟨a, b, c⟩ := x
 obtain ⟨d, e, f⟩ := y
 simp only at h1 h2
 simp only [S36.mk.injEq]
 omega
def sortG (xs : List S36) : List S36 := xs.mergeSort fun x y => !ltOf cfG y x
def enc3 (x : S36) : List Value := [.int .i64 x.f0, .int .i64 x.f1, .int .i64 x.f2]
theorem take3 {L : List Value} {o : Nat} {a b c : Value} (h0 : L[o]? = some a) (h1 : L[o + 1]? = some b) (h2 : L[o + 2]? = some c) : (L.drop o).take 3 = [a, b, c] := by
 have e : L.drop o = a :: b :: c :: L.drop (o + 3) := by
  obtain ⟨l0, g0⟩ := List.getElem?_eq_some_iff.mp h0
  obtain ⟨l1, g1⟩ := List.getElem?_eq_some_iff.mp h1
  obtain ⟨l2, g2⟩ := List.getElem?_eq_some_iff.mp h2
  rw [List.drop_eq_getElem_cons l0, List.drop_eq_getElem_cons l1, List.drop_eq_getElem_cons l2, g0, g1, g2]
 rw [e]
 rfl
theorem of_take3 {L : List Value} {o : Nat} {a b c : Value} (h : (L.drop o).take 3 = [a, b, c]) (k : Nat) (hk : k < 3) : L[o + k]? = some ([a, b, c][k]!) := by
 have h1 : ((L.drop o).take 3)[k]? = L[o + k]? := by
  rw [List.getElem?_take, if_pos hk, List.getElem?_drop]
 rw [← h1, h]
 match k, hk with
 | 0, _ => rfl
 | 1, _ => rfl
 | 2, _ => rfl
theorem flat_get (d : Array S36) (j c : Nat) (hj : j < d.size) (hc : c < 3) : (flatK enc3 3 d).toList[j * 3 + c]? = some ((enc3 d[j]!)[c]!) := by
 have h1 := get_flatK enc3 3 d (j * 3 + c) (by omega)
 rw [show (j * 3 + c) / 3 = j by omega, show (j * 3 + c) % 3 = c by omega] at h1
 have h2 : j * 3 + c < (flatK enc3 3 d).size := by rw [size_flatK]; omega
 rw [Array.getElem?_toList, Array.getElem?_eq_getElem h2, ← h1, getElem!_pos (flatK enc3 3 d) (j * 3 + c) h2]
set_option maxHeartbeats 1000000 in
theorem sort_any (W : World) (base : Nat) (v : Value) (xs : List S36) (ok : Nat → Prop) (HO : Kd.R k36 36 W base ok v xs) (hl : xs.length < 4611686018427387904) :
  Calls Try.prog 107 #[v, .func (.func 108) #[] #[]] W fun e w' => e = .returned (.tuple #[]) ∧ Kd.R k36 36 w' base ok v (sortG xs) ∧ Below base W w' ∧ ∀ i, some i ≠ v.ownBlock → i < W.heap.size → w'.heap[i]? = W.heap[i]? := by
 have eg : ∀ args w, (callFunc 108 args).run Try.prog w = .ok (.enter 108 args) w := enters_of Try.func108 (by kernel_rfl) rfl
 obtain ⟨ho, inner, ⟨h1, h2⟩, hr⟩ := HO
 have hs3 : k36.sz = 3 := rfl
 rw [hs3] at h1 h2 hr
 rcases h2 with ⟨rfl, hn⟩ | ⟨g, cap, cur, rfl, hg, hh, h3, h4, h5, h6⟩
 ·obtain rfl := List.eq_nil_of_length_eq_zero hn
  have hcon := AnyF.slices_SortFunc_none (P := Try.prog) (ρ := Try.sortG_ren) { Try.sortG with } none 0 (.func (.func 108) #[] #[]) W
  change Calls Try.prog 107 _ _ _ at hcon
  refine hcon.mono ?_
  rintro e w' ⟨rfl, rfl⟩
  exact ⟨rfl, by simpa [sortG] using Kd.R_nil k36 36 _ base ok, ⟨rfl, rfl, rfl, Nat.le_refl _, fun i hi => rfl⟩, fun _ _ _ => rfl⟩
 ·have hgl : g < W.heap.size := (Array.getElem?_eq_some_iff.1 hh).1
  have hin : ∀ j c, j < xs.length → c < 3 → inner[j * 3 + c]? = some ((enc3 xs[j]!)[c]!) := fun j c hj hc => by
   have h7 := hr.2 j xs[j] (List.getElem?_eq_getElem hj)
   have h8 := k36_openM h7
   have h9 := of_take3 h8 c hc
   rw [h9, getElem!_pos xs j hj]
   rfl
  have hH : HoldsK enc3 3 W g 0 xs.toArray := fun t ht => by
   rw [size_flatK] at ht
   simp only [List.size_toArray] at ht
   have hj : t / 3 < xs.length := by omega
   have h7 := hin (t / 3) (t % 3) hj (by omega)
   rw [show t / 3 * 3 + t % 3 = t by omega] at h7
   have h8 : cur.toList[t]? = inner[t]? := by
    rw [← h6, List.getElem?_take, if_pos (by show t < xs.length * 3; omega)]
   have h9 := get_flatK enc3 3 xs.toArray t (by simpa using ht)
   refine ⟨?_, ?_⟩
   ·have e1 : W.cell? ⟨g, 0 + t, none⟩ = cur[0 + t]? := by simp [World.cell?, hh]
    rw [e1, Nat.zero_add, ← Array.getElem?_toList, h8, h7, h9]
    simp
   ·simp [World.frozen?, hh]
  have hcmp : CmpLays Try.prog 108 #[] enc3 3 cfG g 0 xs.toArray.size W := fun m os dk hs x y => by
   have h7 := compare_gr 9 x.f0 x.f1 x.f2 y.f0 y.f1 y.f2 _ _ _ _ (sortWorldK enc3 3 W g 0 m dk os) (cmpI_f _ _) (cmpI_f _ _) (cmpI_f _ _) (or3_f _ _ _)
   exact h7
  have hcon := AnyQ.slices_SortFunc_total Try.sortG 3 Try.isAgg36 Try.sizeOf36 enc3 (fun _ => rfl) (fun x v hv => by simp [enc3] at hv; rcases hv with rfl | rfl | rfl <;> rfl) cfG swoG 108 #[] g 0 cap xs.toArray W eg hcmp hH hgl (by simpa using hl) ltG_total
  change Calls Try.prog 107 _ _ _ at hcon
  simp only [List.size_toArray] at hcon
  refine hcon.mono ?_
  rintro e w' ⟨rfl, n, os, rfl⟩
  have hd : (xs.toArray.toList.mergeSort fun x y => !ltOf cfG y x) = sortG xs := rfl
  rw [hd]
  have hlen : (sortG xs).length = xs.length := List.length_mergeSort _
  have hsz : (flatK enc3 3 (sortG xs).toArray).size = xs.length * 3 := by rw [size_flatK]; simp [hlen]
  have hother : ∀ i, i ≠ g → i < W.heap.size → (sortWorldK enc3 3 W g 0 n (sortG xs).toArray os).heap[i]? = W.heap[i]? := fun i hi hlt => by
   unfold sortWorldK putRowK putRow mapBlock grow Sort.ahead
   simp only
   rw [Array.getElem?_append_left (by simpa using hlt), Array.getElem?_modify, if_neg (fun e => hi e.symm)]
  have hrow : (sortWorldK enc3 3 W g 0 n (sortG xs).toArray os).heap[g]? = some (.cells (putCells id 0 (flatK enc3 3 (sortG xs).toArray) cur) 36 (0, 0)) := by
   unfold sortWorldK putRowK putRow mapBlock grow Sort.ahead
   simp only
   rw [Array.getElem?_append_left (by simpa using hgl), Array.getElem?_modify, if_pos rfl, hh]
   rfl
  have hF : ((putCells id 0 (flatK enc3 3 (sortG xs).toArray) cur).toList.take (xs.length * 3)) = (flatK enc3 3 (sortG xs).toArray).toList := by
   refine List.ext_getElem? (fun t => ?_)
   rw [List.getElem?_take]
   by_cases ht : t < xs.length * 3
   ·have hc : t < cur.size := by
     rw [h5]
     exact Nat.lt_of_lt_of_le ht (Nat.mul_le_mul_right 3 h3)
    rw [if_pos ht, Array.getElem?_toList, Array.getElem?_toList]
    unfold putCells
    rw [Array.getElem?_mapIdx, Array.getElem?_eq_getElem hc, Option.map_some, if_pos ⟨Nat.zero_le _, by rw [hsz]; omega⟩, Nat.sub_zero, Array.getElem?_eq_getElem (by rw [hsz]; exact ht), getElem!_pos (flatK enc3 3 (sortG xs).toArray) t (by rw [hsz]; exact ht)]
    rfl
   ·rw [if_neg ht, List.getElem?_eq_none (by simp [hlen]; omega)]
  refine ⟨rfl, ⟨ho, (flatK enc3 3 (sortG xs).toArray).toList, ⟨?_, Or.inr ⟨g, cap, _, ?_, hg, hrow, ?_, h4, ?_, ?_⟩⟩, ?_, fun j p hp => ?_⟩, ⟨rfl, rfl, rfl, ?_, fun i hi => hother i (by omega) (by omega)⟩, fun i hi hlt => hother i (fun e => hi (by rw [e]; rfl)) hlt⟩
  ·show (flatK enc3 3 (sortG xs).toArray).toList.length = (sortG xs).length * 3
   simp
  ·rw [hlen]
  ·rw [hlen]; exact h3
  ·show (putCells id 0 _ cur).size = cap * 3
   unfold putCells
   rw [Array.size_mapIdx]
   exact h5
  ·rw [hlen]; exact hF
  ·show (flatK enc3 3 (sortG xs).toArray).toList.length = (sortG xs).length * 3
   simp
  ·have hj : j < (sortG xs).length := by
    rcases Nat.lt_or_ge j (sortG xs).length with h | h
    ·exact h
    ·rw [List.getElem?_eq_none h] at hp; exact absurd hp (by simp)
   have hp2 : (sortG xs).toArray[j]! = p := by
    rw [List.getElem?_eq_getElem hj] at hp
    have hp := Option.some.inj hp
    rw [getElem!_pos (sortG xs).toArray j (by simpa using hj)]
    simpa using hp
   have h7 := fun c hc => flat_get (sortG xs).toArray j c (by simpa using hj) hc
   rw [hp2] at h7
   have h8 := take3 (h7 0 (by omega)) (h7 1 (by omega)) (h7 2 (by omega))
   rw [Nat.add_zero] at h8
   rw [show k36.sz = 3 from rfl, h8]
   exact k36_mkM _ _ _ p
  ·unfold sortWorldK putRowK putRow mapBlock grow Sort.ahead
   simp
end Go.Proofs.Ytnbdfmdjedakcaa
namespace Go.Proofs.Ytnbdfmdjedakcaa
open Go.RowKit Go.Proofs.YtnbdfmdjedakcaaW.PrintWords Go.Proofs.YtnbdfmdjedakcaaW.PrintLast Go.Proofs.YtnbdfmdjedakcaaW.PrintMore PP
set_option linter.unusedVariables false
set_option linter.unusedSimpArgs false
def isIn (seen : List S36) (x : S36) : Bool := seen.any fun y => eqG x y
theorem wpList_look (w : World) {ops : Array Oper} {rest : List Oper} {o : Oper} {a : Act} {Q : Exit → Act → World → Prop} (hg : o.guard = none) (m x : Operand) (hop : o.op = Op.lookup 89 m x false) (mb : Nat) (seen : List S36) (g : S36) (hm : a.eval m = .map (some mb)) (hx : a.eval x = gv g) (h : MapAt w mb seen) (r : Bool) (hr : isIn seen g = r)
  (hK : wpList Try.prog ops Q rest (a.put o.dst (.bool r)) w) : wpList Try.prog ops Q (o :: rest) a w := by
 refine wpList_plain hg fun K' hK' => ?_
 have hrun := look_run w mb seen g h
 rw [show (seen.any fun y => eqG g y) = r from hr] at hrun
 unfold Oper.wp
 simp [execOp, hop, hm, hx, hrun, Result.andThen]
 exact hK' _ _ hK
theorem wpList_mput (w : World) {ops : Array Oper} {rest : List Oper} {o : Oper} {a : Act} {Q : Exit → Act → World → Prop} (hg : o.guard = none) (m x v : Operand) (hop : o.op = Op.mapUpdate 89 m x v) (mb : Nat) (seen : List S36) (g : S36) (hm : a.eval m = .map (some mb)) (hx : a.eval x = gv g) (hv : a.eval v = .bool true) (h : MapAt w mb seen) (hr : isIn seen g = false)
  (hK : ∀ w', MapAt w' mb (seen ++ [g]) → w'.heap.size = w.heap.size → w'.os = w.os → w'.tape = w.tape → w'.output = w.output → (∀ i, i ≠ mb → w'.heap[i]? = w.heap[i]?) → wpList Try.prog ops Q rest (a.put o.dst undef) w') : wpList Try.prog ops Q (o :: rest) a w := by
 refine wpList_plain hg fun K' hK' => ?_
 obtain ⟨w', hrun, h1, h2, h3, h4, h5, h6⟩ := put_run w mb seen g h hr
 unfold Oper.wp
 simp [execOp, hop, hm, hx, hv, hrun, Result.andThen]
 exact hK' _ _ (hK w' h1 h2 h3 h4 h5 h6)
structure ExW (w : World) (mb rb rg : Nat) (wr : World) (seen outs : List S36) (v : Value) : Prop where
 B : Below w.heap.size w wr
 M : MapAt wr mb seen
 Rb : wr.heap[rb]? = some (.cells #[.func (.func rg) #[] #[]] 34 (0, 0))
 O : Kd.R k36 36 wr w.heap.size (fun k => k ≠ mb ∧ k ≠ rb) v outs
 m : w.heap.size ≤ mb
 r : w.heap.size ≤ rb
section
variable {w wr W1 : World} {mb rb rg : Nat} {seen outs : List S36} {v : Value}
theorem ExW.lt (h : ExW w mb rb rg wr seen outs v) : mb < wr.heap.size ∧ rb < wr.heap.size := ⟨h.M.lt, (Array.getElem?_eq_some_iff.1 h.Rb).1⟩
theorem ExW.below (h : ExW w mb rb rg wr seen outs v) (hb : Below wr.heap.size wr W1) : ExW w mb rb rg W1 seen outs v :=
 ⟨h.B.trans (hb.mono h.B.size), h.M.of_heap (hb.block _ h.lt.1), (hb.block _ h.lt.2).trans h.Rb, Kd.R_below h.O hb, h.m, h.r⟩
theorem ExW.alloc (h : ExW w mb rb rg wr seen outs v) (o : Obj) : ExW w mb rb rg (wr.alloc o) seen outs v := h.below ((Below.refl _ _).alloc (Nat.le_refl _) o)
theorem ExW.put (h : ExW w mb rb rg wr seen outs v) {g : S36} (h1 : MapAt W1 mb (seen ++ [g])) (h2 : W1.heap.size = wr.heap.size) (h3 : W1.os = wr.os) (h4 : W1.tape = wr.tape) (h5 : W1.output = wr.output) (h6 : ∀ i, i ≠ mb → W1.heap[i]? = wr.heap[i]?) (hne : rb ≠ mb) : ExW w mb rb rg W1 (seen ++ [g]) outs v :=
 ⟨h.B.trans ⟨h3, h4, h5, by omega, fun i hi => h6 i (by have := h.m; omega)⟩, h1, (h6 rb hne).trans h.Rb, Kd.R_move h.O (fun k hk => h6 k hk.1), h.m, h.r⟩
theorem ExW.grown (h : ExW w mb rb rg wr seen outs v) {v1 : Value} {outs1 : List S36} (hO : Kd.R k36 36 W1 w.heap.size (fun k => k ≠ mb ∧ k ≠ rb) v1 outs1) (hb : Below w.heap.size w W1) (hg : wr.grownBy W1 v.ownBlock) : ExW w mb rb rg W1 seen outs1 v1 := by
 obtain ⟨l1, l2⟩ := h.lt
 refine ⟨hb, h.M.of_heap (hg.block _ l1 (fun e => ?_)), (hg.block _ l2 (fun e => ?_)).trans h.Rb, hO, h.m, h.r⟩
 ·exact (h.O.1 _ e.symm).1 rfl
 ·exact (h.O.1 _ e.symm).2 rfl
end
def exGo (rule : S36 → S36 → Bool) (l : List S36) : Nat → List S36 × List S36
 | 0 => ([], [])
 | k + 1 => let p := exGo rule l k; let x := l[k]!; if isIn p.1 x = true then p else (p.1 ++ [x], if (l.any fun o => !eqG o x && rule o x) = true then p.2 else p.2 ++ [x])
def exF (rule : S36 → S36 → Bool) (l : List S36) : List S36 := sortG (exGo rule l l.length).2
theorem exGo_len (rule : S36 → S36 → Bool) (l : List S36) : ∀ k, (exGo rule l k).2.length ≤ k
 | 0 => Nat.le_refl _
 | k + 1 => by
  have := exGo_len rule l k
  unfold exGo
  simp only
  split
  ·omega
  ·split
   ·show (exGo rule l k).2.length ≤ k + 1; omega
   ·simp; omega
set_option maxRecDepth 100000 in
set_option maxHeartbeats 4000000 in
theorem extreme_any (w : World) (rg : Nat) (rule : S36 → S36 → Bool) (eg : ∀ args w, (callFunc rg args).run Try.prog w = .ok (.enter rg args) w) (hR : RuleB rg rule) (A : Option Addr) (c : Nat) (l : List S36) (hC : Kd.C k36 w A l.length l) (hl : l.length < 5000000000000) :
  Calls Try.prog 75 #[.slice A l.length c, .func (.func rg) #[] #[]] w fun e w' => ∃ v, e = .returned v ∧ Kd.R k36 36 w' w.heap.size (fun _ => True) v (exF rule l) ∧ Below w.heap.size w w' := by
 have hu36 := Try.underlying36
 have eg106 : ∀ args w, (callFunc 106 args).run Try.prog w = .ok (.enter 106 args) w := enters_of Try.func106 (by kernel_rfl) rfl
 have hmm := @run_makeMap Try.prog
 have HC := Hd.mk hC
 have HR := Hd.mk hR
 have HL := Hd.mk hl
 have hbig : l.length ≤ 9223372036854775807 := by omega
 clear hC hR hl
 go_enter Try.func75, Try.ntmps75
 go_wp2
 go_loopg [6, 12] l.length (fun gg v6 v12 wr => ∃ kk : Nat, kk ≤ l.length ∧ l.length - kk ≤ gg ∧ v12 = .int .i64 kk ∧ Hd (ExW w (w.heap.size + 1) w.heap.size rg wr (exGo rule l kk).1 (exGo rule l kk).2 v6))
 case atStart =>
  refine ⟨0, Nat.zero_le _, by omega, rfl, ⟨⟨?_, ?_, ?_, Kd.R_nil _ _ _ _ _, ?_, Nat.le_refl _⟩⟩⟩
  ·exact ((Below.refl _ w).alloc (Nat.le_refl _) _).alloc (by simp) _
  ·refine ⟨#[], 0, ?_, rfl⟩
   have := blk_new (w.alloc (.cells #[.func (.func rg) #[] #[]] 34)) (.map #[] 0)
   simpa using this
  ·show ((w.heap.push (.cells #[.func (.func rg) #[] #[]] 34)).push (.map #[] 0))[w.heap.size]? = _
   rw [Array.getElem?_push, if_neg (by simp), Array.getElem?_push, if_pos rfl]
  ·exact Nat.le_succ _
 case round =>
  obtain ⟨kk, hkk, hg, rfl, EX⟩ := hrel
  by_cases hlt : kk < l.length
  ·have hltz : (kk : Int) < (l.length : Int) := by omega
   obtain ⟨ad, rfl, x0, x1, x2⟩ := at_T36 (Kd.C_below HC.out EX.out.B) (kk : Int) (by omega) hltz
   rw [getB, Int.toNat_natCast] at x0 x1 x2
   obtain ⟨x, hx⟩ : ∃ x, l[kk]! = x := ⟨_, rfl⟩
   rw [hx] at x0 x1 x2
   have hst : exGo rule l (kk + 1) = (let p := exGo rule l kk; if isIn p.1 x = true then p else (p.1 ++ [x], if (l.any fun o => !eqG o x && rule o x) = true then p.2 else p.2 ++ [x])) := by rw [← hx]; rfl
   simp only at hst
   have HX := Hd.mk hx
   have HS := Hd.mk hst
   clear hx hst
   cases hs : isIn (exGo rule l kk).1 x with
   | true =>
    have hs' := HS.out
    rw [if_pos hs] at hs'
    have HQ := Hd.mk hs
    have HS' := Hd.mk hs'
    clear hs hs' HS
    go_wp2_with (at_lookup; refine wpList_look _ rfl _ _ rfl (w.heap.size + 1) _ x rfl rfl (EX.out.alloc _).M true HQ.out ?_)
    go_roundg (l.length - (kk + 1))
    case measure => omega
    case rel =>
     refine ⟨kk + 1, by omega, by omega, by go_num, ⟨?_⟩⟩
     rw [HS'.out]
     exact EX.out.alloc _
   | false =>
    cases ha : l.any (fun o => !eqG o x && rule o x) with
    | true =>
     have hs' := HS.out
     rw [if_neg (by rw [hs]; decide), if_pos ha] at hs'
     have HQ := Hd.mk hs
     have HA := Hd.mk ha
     have HS' := Hd.mk hs'
     clear hs ha hs' HS
     go_wp2_with (first
      | (at_lookup; refine wpList_look _ rfl _ _ rfl (w.heap.size + 1) _ x rfl rfl (EX.out.alloc _).M false HQ.out ?_)
      | (at_mapUpdate; refine wpList_mput _ rfl _ _ _ rfl (w.heap.size + 1) _ x rfl rfl rfl (EX.out.alloc _).M HQ.out ?_; intro w1 q1 q2 q3 q4 q5 q6; have hEX1 := (EX.out.alloc (.cells #[.int .i64 x.f0, .int .i64 x.f1, .int .i64 x.f2] 36)).put q1 q2 q3 q4 q5 q6 (by omega); have hgb : w1.heap[wr.heap.size]? = some (.cells #[.int .i64 x.f0, .int .i64 x.f1, .int .i64 x.f2] 36 (0, 0)) := (q6 _ (by have := EX.out.lt.1; omega)).trans (blk_new wr _); have EX1 := Hd.mk hEX1; have GB := Hd.mk hgb; clear hEX1 hgb q1 q2 q3 q4 q5 q6)
      | (go_at_call 85; refine (containsF_any w1 106 _ _ eg106 (some ad) c l (Kd.C_below HC.out EX1.out.B) (pred106 w1 wr.heap.size w.heap.size rg rule x eg HR.out GB.out EX1.out.Rb) true HA.out).mono ?_; rintro e w' ⟨rfl, hb'⟩; have hEX2 := EX1.out.below hb'; have EX2 := Hd.mk hEX2; clear hEX2 hb'))
     go_roundg (l.length - (kk + 1))
     case measure => omega
     case rel =>
      refine ⟨kk + 1, by omega, by omega, by go_num, ⟨?_⟩⟩
      rw [HS'.out]
      exact EX2.out
    | false =>
     have hs' := HS.out
     rw [if_neg (by rw [hs]; decide), if_neg (by rw [ha]; decide)] at hs'
     have HQ := Hd.mk hs
     have HA := Hd.mk ha
     have HS' := Hd.mk hs'
     clear hs ha hs' HS
     go_wp2_with (first
      | (at_lookup; refine wpList_look _ rfl _ _ rfl (w.heap.size + 1) _ x rfl rfl (EX.out.alloc _).M false HQ.out ?_)
      | (at_mapUpdate; refine wpList_mput _ rfl _ _ _ rfl (w.heap.size + 1) _ x rfl rfl rfl (EX.out.alloc _).M HQ.out ?_; intro w1 q1 q2 q3 q4 q5 q6; have hEX1 := (EX.out.alloc (.cells #[.int .i64 x.f0, .int .i64 x.f1, .int .i64 x.f2] 36)).put q1 q2 q3 q4 q5 q6 (by omega); have hgb : w1.heap[wr.heap.size]? = some (.cells #[.int .i64 x.f0, .int .i64 x.f1, .int .i64 x.f2] 36 (0, 0)) := (q6 _ (by have := EX.out.lt.1; omega)).trans (blk_new wr _); have EX1 := Hd.mk hEX1; have GB := Hd.mk hgb; clear hEX1 hgb q1 q2 q3 q4 q5 q6)
      | (go_at_call 85; refine (containsF_any w1 106 _ _ eg106 (some ad) c l (Kd.C_below HC.out EX1.out.B) (pred106 w1 wr.heap.size w.heap.size rg rule x eg HR.out GB.out EX1.out.Rb) false HA.out).mono ?_; rintro e w' ⟨rfl, hb'⟩; have hEX2 := EX1.out.below hb'; have EX2 := Hd.mk hEX2; have gb' := (hb'.block _ (Array.getElem?_eq_some_iff.1 GB.out).1).trans GB.out; have g0 : w'.cell? ⟨wr.heap.size, 0, none⟩ = some (.int .i64 x.f0) := (blk_cell gb' 0).trans rfl; have g1 : w'.cell? ⟨wr.heap.size, 1, none⟩ = some (.int .i64 x.f1) := (blk_cell gb' 1).trans rfl; have g2 : w'.cell? ⟨wr.heap.size, 2, none⟩ = some (.int .i64 x.f2) := (blk_cell gb' 2).trans rfl; clear gb' hEX2 hb')
      | ((with_reducible refine gate_builtin (b := .append) (xs := #[.tmp 25, .tmp 27]) rfl ?_); at_builtin; refine Kd.R_append k36 (w0 := w) w.heap.size rfl (.tmp 25) (.tmp 27) 41 36 (.agg #[(.int .i64 0), (.int .i64 0), (.int .i64 0)]) 24 rfl Try.underlying41 info36 rfl (by decide) (by omega) u6 _ x [.int .i64 x.f0, .int .i64 x.f1, .int .i64 x.f2] (fun k => k ≠ w.heap.size + 1 ∧ k ≠ w.heap.size) (fun _ => False) rfl rfl ?aP (fun _ hk => hk.elim) ?aF EX2.out.O EX2.out.B ?aS ?aL ?_; (case aP => exact k36_mkM _ _ _ x); (case aF => intro k hk; have := EX2.out.lt; exact ⟨by omega, by omega⟩); (case aS => exact EX2.out.B.size); (case aL => have := exGo_len rule l kk; have := HL.out; omega); intro v2 w2 ho hb hg2 hat; have hEX3 := EX2.out.grown ho hb hg2; have EX3 := Hd.mk hEX3; clear hEX3 ho hb hg2 hat))
     go_roundg (l.length - (kk + 1))
     case measure => omega
     case rel =>
      refine ⟨kk + 1, by omega, by omega, by go_num, ⟨?_⟩⟩
      rw [HS'.out]
      exact EX3.out
  ·have hltz : ¬ (kk : Int) < (l.length : Int) := by omega
   have e1 : kk = l.length := by omega
   have HE := Hd.mk e1
   clear e1 hlt
   go_wp2_with (go_at_call 107; refine (sort_any wr w.heap.size u6 _ _ EX.out.O (by have := exGo_len rule l kk; have := HL.out; omega)).mono ?_; rintro e w' ⟨rfl, ho, hb, hoth⟩; have HO := Hd.mk ho; have HB := Hd.mk hb; clear ho hb hoth)
   go_ret
   refine ⟨_, rfl, ?_, EX.out.B.trans HB.out⟩
   have h9 := Kd.R_mono HO.out (ok' := fun _ => True) (fun _ _ => trivial)
   rw [HE.out] at h9
   exact h9
end Go.Proofs.Ytnbdfmdjedakcaa
namespace Go.Proofs.Ytnbdfmdjedakcaa
open Go.RowKit Go.Proofs.YtnbdfmdjedakcaaW.PrintWords Go.Proofs.YtnbdfmdjedakcaaW.PrintLast Go.Proofs.YtnbdfmdjedakcaaW.PrintMore PP
set_option linter.unusedVariables false
set_option linter.unusedSimpArgs false
theorem enters26 : ∀ args w, (callFunc 26 args).run Try.prog w = .ok (.enter 26 args) w := enters_of Try.func26 (by kernel_rfl) rfl
theorem enters76 : ∀ args w, (callFunc 76 args).run Try.prog w = .ok (.enter 76 args) w := enters_of Try.func76 (by kernel_rfl) rfl
set_option maxHeartbeats 1000000 in
theorem least_any (w : World) (A : Option Addr) (c : Nat) (l : List S36) (hC : Kd.C k36 w A l.length l) (hl : l.length < 5000000000000) :
  Calls Try.prog 71 #[.slice A l.length c] w fun e w' => ∃ v, e = .returned v ∧ Kd.R k36 36 w' w.heap.size (fun _ => True) v (exF belowG l) ∧ Below w.heap.size w w' := by
 have hcon := extreme_any w 26 belowG enters26 rule26 A c l hC hl
 clear hC hl
 generalize exF belowG l = r at hcon ⊢
 go_enter Try.func71, Try.ntmps71
 go_wp2_with (go_at_call 75; refine hcon.mono ?_; rintro e w' ⟨v, rfl, ho, hb⟩; have HO := Hd.mk ho; have HB := Hd.mk hb; clear ho hb)
 go_ret
 exact ⟨_, rfl, HO.out, HB.out⟩
def mostF (l : List S36) : List S36 × Int := if lsF l 256 = 0 then (exF (fun x y => belowG y x) l, 0) else ([], lsF l 256)
set_option maxHeartbeats 1000000 in
theorem most_any (w : World) (A : Option Addr) (c : Nat) (l : List S36) (hC : Kd.C k36 w A l.length l) (hl : l.length < 5000000000000) :
  Calls Try.prog 39 #[.slice A l.length c] w fun e w' => ∃ v, e = .returned (.tuple #[v, .int .i64 (mostF l).2]) ∧ Kd.R k36 36 w' w.heap.size (fun _ => True) v (mostF l).1 ∧ Below w.heap.size w w' := by
 have hls := listed_any w A c l 256 hC
 unfold mostF
 obtain ⟨z, hz⟩ : ∃ z, lsF l 256 = z := ⟨_, rfl⟩
 have hls := hls z hz
 rw [hz]
 clear hz
 by_cases h0 : z = 0
 ·subst h0
  rw [if_pos rfl]
  have hcon := fun W (hb : Below w.heap.size w W) => extreme_any W 76 (fun x y => belowG y x) enters76 rule76 A c l (Kd.C_below hC hb) hl
  clear hC hl
  simp only
  generalize exF (fun x y => belowG y x) l = r at hcon ⊢
  have HCON := Hd.mk hcon
  clear hcon
  go_enter Try.func39, Try.ntmps39
  go_wp2_with (first | (go_at_call 70; refine hls.mono ?_; rintro e w1 ⟨rfl, hb⟩; have HB0 := Hd.mk hb; clear hb) | (go_at_call 75; refine (HCON.out _ HB0.out).mono ?_; rintro e w' ⟨v, rfl, ho, hb⟩; have HO := Hd.mk ho; have HB := Hd.mk hb; clear ho hb))
  go_ret2
  exact ⟨_, rfl, Kd.R_lower HO.out HB0.out.size, HB0.out.trans (HB.out.mono HB0.out.size)⟩
 ·rw [if_neg h0]
  have h1 : (z == 0) = false := by simpa using h0
  have h2 : (z != 0) = true := by simpa using h0
  clear hC hl h0
  simp only
  go_enter Try.func39, Try.ntmps39
  go_wp2_with (go_at_call 70; refine hls.mono ?_; rintro e w1 ⟨rfl, hb⟩; have HB0 := Hd.mk hb; clear hb)
  go_ret2
  exact ⟨_, rfl, Kd.R_nil _ _ _ _ _, HB0.out⟩
theorem pred112 (w : World) (gb : Nat) (x : S36) (hgb : w.heap[gb]? = some (.cells #[.int .i64 x.f0, .int .i64 x.f1, .int .i64 x.f2] 36 (0, 0))) :
  PredB 112 #[.pointer (some ⟨gb, 0, none⟩)] (fun o => belowG o x) w := fun W o hb => by
 have l1 : gb < w.heap.size := (Array.getElem?_eq_some_iff.1 hgb).1
 have hz := hb.size
 have g1 : W.heap[gb]? = _ := (hb.block gb l1).trans hgb
 have c0 : W.cell? ⟨gb, 0, none⟩ = some (.int .i64 x.f0) := (blk_cell g1 0).trans rfl
 have c1 : W.cell? ⟨gb, 1, none⟩ = some (.int .i64 x.f1) := (blk_cell g1 1).trans rfl
 have c2 : W.cell? ⟨gb, 2, none⟩ = some (.int .i64 x.f2) := (blk_cell g1 2).trans rfl
 have n1 : gb ≠ W.heap.size := by omega
 have n3 : gb < W.heap.size := by omega
 have hru := fun W => rule26 W o x
 have HB := Hd.mk hb
 have HZ := Hd.mk hz
 clear g1 hgb hb hz l1
 show Calls Try.prog 112 #[.agg #[.int .i64 o.f0, .int .i64 o.f1, .int .i64 o.f2], .pointer (some ⟨gb, 0, none⟩)] W fun e w' => e = .returned (.bool (belowG o x)) ∧ Below w.heap.size w w'
 unfold gv at hru
 generalize belowG o x = r at hru ⊢
 go_enter Try.func112, Try.ntmps112
 go_wp2_with (go_at_call 26; refine (hru _).mono ?_; rintro e w' ⟨rfl, hb'⟩)
 go_ret
 exact ⟨rfl, (HB.out.alloc HZ.out _).trans (hb'.mono (by simp; have := HZ.out; omega))⟩
theorem in_any (w : World) (A : Option Addr) (c : Nat) (l : List S36) (x : S36) (hC : Kd.C k36 w A l.length l) (r : Bool) (hr : l.any (fun o => belowG o x) = r) :
  Calls Try.prog 83 #[.slice A l.length c, gv x] w fun e w' => e = .returned (.bool r) ∧ Below w.heap.size w w' := by
 have eg : ∀ args w, (callFunc 112 args).run Try.prog w = .ok (.enter 112 args) w := enters_of Try.func112 (by kernel_rfl) rfl
 have hcon := containsF_any (w.alloc (.cells #[.int .i64 x.f0, .int .i64 x.f1, .int .i64 x.f2] 36)) 112 _ _ eg A c l (Kd.C_below hC ((Below.refl _ _).alloc (Nat.le_refl _) _)) (pred112 _ w.heap.size x (blk_new w _)) r hr
 clear hC hr
 show Calls Try.prog 83 #[.slice A l.length c, .agg #[.int .i64 x.f0, .int .i64 x.f1, .int .i64 x.f2]] w fun e w' => e = .returned (.bool r) ∧ Below w.heap.size w w'
 go_enter Try.func83, Try.ntmps83
 go_wp2_with (go_at_call 85; refine hcon.mono ?_; rintro e w' ⟨rfl, hb'⟩)
 go_ret
 exact ⟨rfl, ((Below.refl _ w).alloc (Nat.le_refl _) _).trans (hb'.mono (by simp))⟩
end Go.Proofs.Ytnbdfmdjedakcaa
