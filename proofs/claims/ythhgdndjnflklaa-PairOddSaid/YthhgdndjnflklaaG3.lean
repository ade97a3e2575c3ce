import Derived.Test.YthhgdndjnflklaaG2
namespace Go.Proofs.Ythhgdndjnflklaa
open Go.RowKit
set_option linter.unusedVariables false
set_option linter.unusedSimpArgs false

theorem mate_quiet2 (w : World) (bf gb mb n mcap v : Nat) (nx : Nat → Nat → Bool) (M : Nat → Nat) (pa : Nat → Int) (ba : Nat → Nat) (us : Nat → Bool) (qv : Value)
   (h : Fo w bf gb mb n mcap nx M pa ba us qv) (hv : v < n) (r : Int) (hr : mateS n M v = r) (n0 nq : Nat) :
    Calls Try.prog 43 #[.pointer (some ⟨bf, 0, none⟩), .int .i64 v] (w.drewN (n0 + nq)) fun e w'' => e = .returned (.int .i64 r) ∧ ∃ m, w'' = w.drewN (n0 + m) := by
  have h1 := mate_quiet (w.drewN n0) bf gb mb n mcap v nx M pa ba us qv (h.of_heap (w' := w.drewN n0) (fun k hk => rfl)) hv r hr nq
  simpa only [World.drewN_drewN] using h1

/-- A queue of the call's own: a slice somewhere in a block from B on. -/
def QAt (w : World) (B : Nat) (qv : Value) (qb : Nat) (xs : List Nat) : Prop :=
  ∃ off cap C, qv = .slice (some ⟨qb, off, none⟩) xs.length cap ∧ B ≤ qb ∧ xs.length ≤ cap ∧ w.heap[qb]? = some (.cells C 3 (0, 0)) ∧ off + cap ≤ C.size ∧
    ∀ j, j < xs.length → C[off + j]? = some (.int .i64 (xs.getD j 0))
theorem QAt.of_heap {w w' : World} {B qb : Nat} {qv : Value} {xs : List Nat} (h : QAt w B qv qb xs) (e : w'.heap[qb]? = w.heap[qb]?) : QAt w' B qv qb xs := by
  obtain ⟨off, cap, C, h1, h2, h3, h4, h5⟩ := h
  exact ⟨off, cap, C, h1, h2, h3, e.trans h4, h5⟩
theorem QAt.lt {w : World} {B qb : Nat} {qv : Value} {xs : List Nat} (h : QAt w B qv qb xs) : qb < w.heap.size := by
  obtain ⟨off, cap, C, h1, h2, h3, h4, h5⟩ := h
  exact (Array.getElem?_eq_some_iff.1 h4).1
theorem QAt.ne {w : World} {B qb : Nat} {qv : Value} {xs : List Nat} (h : QAt w B qv qb xs) {b t : Nat} {C : Array Value} {fr : Nat × Nat} (hb : w.heap[b]? = some (.cells C t fr)) (ht : t ≠ 3) : qb ≠ b := by
  obtain ⟨off, cap, D, h1, h2, h3, h4, h5⟩ := h
  intro e
  rw [e, hb] at h4
  simp at h4
  exact ht h4.2.1

theorem QAt.shape {w : World} {B qb : Nat} {qv : Value} {xs : List Nat} (h : QAt w B qv qb xs) : ∃ off len cap, qv = .slice (some ⟨qb, off, none⟩) len cap := by
  obtain ⟨off, cap, C, h1, _⟩ := h
  exact ⟨off, _, cap, h1⟩

theorem tinfo3 : (Try.prog.info? 3).map (fun i => (i.zero, i.size, i.bytes)) = some (some (.int .i64 0), 1, 8) := by kernel_rfl

theorem run_app_q (w : World) (B qb ty : Nat) (qv : Value) (xs : List Nat) (y : Nat) (hQ : QAt w B qv qb xs) (hB : B ≤ w.heap.size) (ad : Addr) (c : Nat) (hy : w.cell? ad = some (.int .i64 y)) (hlen : xs.length < 100000) :
    ∃ v' w' qb', (Builtin.append_ #[25, 25] ty #[qv, .slice (some ad) 1 c]).run Try.prog w = .ok v' w' ∧ QAt w' B v' qb' (xs ++ [y]) ∧ w.grownBy w' (some qb) ∧ (qb' = qb ∨ w.heap.size ≤ qb') := by
  obtain ⟨i0, hi, hzz⟩ := Option.map_eq_some_iff.1 tinfo3
  simp only [Prod.mk.injEq] at hzz
  obtain ⟨hz0, hz1, hz2⟩ := hzz
  obtain ⟨off, cap, C, rfl, h2, h3, h4, h5, h6⟩ := hQ
  have hnews : ∀ j u, [Value.int .i64 (y : Int)][j]? = some u → w.cell? (ad.add j) = some u := by
    intro j u hj
    match j, hj with
    | 0, hj => simp at hj; subst hj; simpa [Addr.add] using hy
  by_cases hr : xs.length + 1 ≤ cap
  · have hq : qb < w.heap.size := (Array.getElem?_eq_some_iff.1 h4).1
    have hcell : w.cell? ⟨qb, off + xs.length, none⟩ = C[off + xs.length]? := cell_of w qb _ C _ _ h4
    have hin : off + xs.length < C.size := by omega
    have hrun := run_append_room_cells (P := Try.prog) w 25 ty 3 i0 Try.underlying25 hi qb off xs.length cap ad 1 c [.int .i64 y] (by simp [hz1]) hnews (by intro u hu; simp at hu; subst hu; rfl) hr
      (by intro j hj; simp at hj; subst hj; rw [hz1]; simp [hcell, hin]) (by intro j hj; exact frozen_of w qb _ C _ h4)
    rw [hz1] at hrun
    simp only [Nat.mul_one] at hrun
    refine ⟨_, _, qb, hrun, ⟨off, cap, C.setIfInBounds (off + xs.length) (.int .i64 y), by simp, h2, by simpa using hr, ?_, by simpa using h5, ?_⟩, ?_, .inl rfl⟩
    · simp only [World.setCells]
      exact heap_set w qb _ _ C _ _ h4
    · intro j hj
      rw [set_get C _ _ _ hin]
      simp only [List.length_append, List.length_cons, List.length_nil] at hj
      by_cases e : j = xs.length
      · subst e; simp
      · rw [if_neg (by omega), h6 j (by omega)]
        simp [List.getElem?_append_left (show j < xs.length by omega)]
    · simp only [World.setCells]
      exact ⟨rfl, rfl, rfl, by simp [World.setCell], fun k _ hk => heap_set_ne w qb _ k _ (fun e => hk (by rw [e]))⟩
  · obtain ⟨v', w', hrun, r1, r2⟩ := run_append_arg_grows (P := Try.prog) w 25 ty 3 i0 (.int .i64 0) 1 8 Try.underlying25 hi hz0 hz1 hz2 rfl (by decide) ⟨qb, off, none⟩ xs.length cap (xs.map fun (z : Nat) => Value.int .i64 (z : Int)) (by simp) (by
        intro j u hj
        rw [show (⟨qb, off, none⟩ : Addr).add j = ⟨qb, off + j, none⟩ from Addr.add_lit .., cell_of w qb _ C _ _ h4]
        have hjl : j < xs.length := by
          have := (List.getElem?_eq_some_iff.1 hj).1
          simpa using this
        rw [h6 j hjl]
        simp only [List.getElem?_map, Option.map_eq_some_iff] at hj
        obtain ⟨z, hz, rfl⟩ := hj
        simp [hz]) ad 1 c [.int .i64 y] (by simp) hnews (by omega) (by unfold maxLen; omega) (by omega)
    obtain ⟨hl, hv⟩ := r1
    rcases hv with ⟨_, hv⟩ | ⟨g, cp, cur, rfl, hg, hh, hn, hm, hs, ht⟩
    · omega
    · refine ⟨_, w', g, hrun, ⟨0, cp, cur, by simp, by omega, by simpa using hn, hh, by omega, ?_⟩, ⟨r2.os, r2.tape, r2.output, r2.size, fun k hk _ => r2.block k hk (by simp)⟩, .inr hg⟩
      intro j hj
      have hj' : j < cur.size := by simp at hj; omega
      have e1 : (cur.toList.take ((xs.length + 1) * 1))[j]? = cur[j]? := by
        rw [List.getElem?_take, if_pos (by simpa using hj)]
        simp
      rw [Nat.zero_add, ← e1, ht]
      simp only [List.length_append, List.length_cons, List.length_nil] at hj
      by_cases e : j = xs.length
      · subst e; simp
      · rw [List.getElem?_append_left (by simp; omega)]
        simp [List.getElem?_append_left (show j < xs.length by omega), List.getElem?_eq_getElem (show j < xs.length by omega)]

/-- append(queue, y): 'W.alloc' is the variadic's box. -/
theorem op_app_q {W : World} {o : Oper} {a : Act} {Q : Exit → Act → World → Prop} {K : Act → World → Prop} (B qb : Nat) (qv : Value) (xs : List Nat) (y : Nat) (s x : Operand)
    (ho : o.op = .call { callee := .builtin .append, args := #[s, x], argTypes := #[25, 25] }) (hs : a.eval s = qv) (hx : a.eval x = .slice (some ⟨W.heap.size, 0, none⟩) 1 1)
    (hQ : QAt W B qv qb xs) (hB : B ≤ W.heap.size) (hlen : xs.length < 100000)
    (h : ∀ v1 w1 qb1, QAt w1 B v1 qb1 (xs ++ [y]) → W.grownBy w1 (some qb) → (qb1 = qb ∨ W.heap.size ≤ qb1) → K (a.put o.dst v1) w1) :
    o.wp Try.prog a (W.alloc (.cells #[.int .i64 y] 3)) K Q := by
  have hQ' : QAt (W.alloc (.cells #[.int .i64 y] 3)) B qv qb xs := hQ.of_heap (alloc_old W _ _ hQ.lt)
  have hy : (W.alloc (.cells #[.int .i64 y] 3)).cell? ⟨W.heap.size, 0, none⟩ = some (.int .i64 y) := by
    rw [cell_of _ _ 0 _ _ _ (alloc_new W _)]; rfl
  have hsz : (W.alloc (.cells #[.int .i64 (y : Int)] 3)).heap.size = W.heap.size + 1 := by show (W.heap.push _).size = _; simp
  obtain ⟨v1, w1, qb1, hrun, r1, r2, r3⟩ := run_app_q (W.alloc (.cells #[.int .i64 y] 3)) B qb o.type qv xs y hQ' (by omega) ⟨W.heap.size, 0, none⟩ 1 hy hlen
  have hk := h v1 w1 qb1 r1 ⟨r2.os, r2.tape, r2.output, by have := r2.size; omega, fun k hk hne => (r2.block k (by omega) hne).trans (alloc_old W _ k hk)⟩ (by omega)
  unfold Oper.wp
  simp [execOp, ho, resolve, invoke, builtin, hs, hx, hrun, Result.andThen]
  exact hk
theorem wpList_app_q {W : World} {ops : Array Oper} {rest : List Oper} {o : Oper} {a : Act} {Q : Exit → Act → World → Prop} (B qb : Nat) (qv : Value) (xs : List Nat) (y : Nat) (hgd : o.guard = none) (s x : Operand)
    (ho : o.op = .call { callee := .builtin .append, args := #[s, x], argTypes := #[25, 25] }) (ad : Nat) (hs : a.eval s = qv) (hx : a.eval x = .slice (some ⟨ad, 0, none⟩) 1 1) (had : ad = W.heap.size)
    (hQ : QAt W B qv qb xs) (hB : B ≤ W.heap.size) (hlen : xs.length < 100000)
    (h : ∀ v1 w1 qb1, QAt w1 B v1 qb1 (xs ++ [y]) → W.grownBy w1 (some qb) → (qb1 = qb ∨ W.heap.size ≤ qb1) → wpList Try.prog ops Q rest (a.put o.dst v1) w1) :
    wpList Try.prog ops Q (o :: rest) a (W.alloc (.cells #[.int .i64 y] 3)) :=
  wpList_plain hgd fun K hK => op_app_q B qb qv xs y s x ho hs (had ▸ hx) hQ hB hlen fun v1 w1 qb1 r1 r2 r3 => hK _ _ (h v1 w1 qb1 r1 r2 r3)

theorem step_app_q {W : World} {ops : Array Oper} {o : Oper} {a : Act} {Q : Exit → Act → World → Prop} {K : Act → World → Prop} {E : Prop} (B qb : Nat) (qv : Value) (xs : List Nat) (y : Nat) (hgd : o.guard = none) (s x : Operand)
    (ho : o.op = .call { callee := .builtin .append, args := #[s, x], argTypes := #[25, 25] }) (ad : Nat) (hs : a.eval s = qv) (hx : a.eval x = .slice (some ⟨ad, 0, none⟩) 1 1) (had : ad = W.heap.size)
    (hQ : QAt W B qv qb xs) (hB : B ≤ W.heap.size) (hlen : xs.length < 100000)
    (h : ∀ v1 w1 qb1, QAt w1 B v1 qb1 (xs ++ [y]) → W.grownBy w1 (some qb) → (qb1 = qb ∨ W.heap.size ≤ qb1) → K (a.put o.dst v1) w1) :
    if Region.wanted o (yielded ops a.tmps) = true then Oper.wp Try.prog o a (W.alloc (.cells #[.int .i64 y] 3)) K Q else E := by
  rw [if_pos (show Region.wanted o (yielded ops a.tmps) = true by simp [Region.wanted, hgd])]
  exact op_app_q B qb qv xs y s x ho hs (had ▸ hx) hQ hB hlen h

/-- The state of a search. -/
structure FS where
  pa : Nat → Int
  ba : Nat → Nat
  us : Nat → Bool
  q : List Nat

/-- The forest in memory. -/
structure FQ (w : World) (B bf gb mb n mcap : Nat) (nx : Nat → Nat → Bool) (M : Nat → Nat) (S : FS) : Prop where
  hB : B ≤ bf
  hM : mb < B
  hG : gb < B
  fo : ∃ qv qb, Fo w bf gb mb n mcap nx M S.pa S.ba S.us qv ∧ QAt w B qv qb S.q

/-- shrink's loop. -/
def shLoop (n b : Nat) (inn : Nat → Bool) : Nat → Nat → FS → Option FS
  | 0, _, S => some S
  | d + 1, i, S =>
    if S.ba i < n then
      if inn (S.ba i) = true then
        if S.us i = true then shLoop n b inn d (i + 1) { S with ba := upd S.ba i b }
        else if S.q.length < 100000 then shLoop n b inn d (i + 1) { S with ba := upd S.ba i b, us := upd S.us i true, q := S.q ++ [i] }
        else none
      else shLoop n b inn d (i + 1) S
    else none
def shrinkS (n : Nat) (M : Nat → Nat) (k : Nat) (S : FS) (v u : Nat) : Option FS :=
  (comS n M S.pa S.ba k v u).bind fun b => (markS n M S.ba b k v u S.pa (fun _ => false)).bind fun r1 =>
    (markS n M S.ba b k u v r1.1 r1.2).bind fun r2 => shLoop n b r2.2 n 0 { S with pa := r2.1 }

end Go.Proofs.Ythhgdndjnflklaa
