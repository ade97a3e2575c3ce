/- The reference's push: the walk. No conditions. -/
import Derived.Test.YtnbdfmdjedakcaaH33
import Derived.Test.YtnbdfmdjedakcaaF6
namespace Go.Proofs.Ytnbdfmdjedakcaa
open Go.RowKit Go.Proofs.YtnbdfmdjedakcaaW.PrintWords Go.Proofs.YtnbdfmdjedakcaaW.PrintLast Go.Proofs.YtnbdfmdjedakcaaW.PrintMore PP
set_option linter.unusedVariables false
set_option linter.unusedSimpArgs false
/-- Rows of numbers, each in a block of its own. -/
structure RmB (w0 : World) (lo ob N : Nat) (rk : Nat → Nat) (w : World) (r : Nat → Nat → Int) : Prop where
  B : Below lo w0 w
  s : lo ≤ w.heap.size
  O : ∀ u, u < N → w.cell? ⟨ob, u, none⟩ = some (.slice (some ⟨rk u, 0, none⟩) N N)
  o : ob < w.heap.size
  R : ∀ u, u < N → VBlk encI 3 w (rk u) N (r u)
  l : ∀ u, u < N → lo ≤ rk u
  ne : ∀ u, u < N → rk u ≠ ob
  inj : ∀ u v, u < N → v < N → rk u = rk v → u = v
theorem cell_heap {w w' : World} {b : Nat} (h : w'.heap[b]? = w.heap[b]?) (o : Nat) : w'.cell? ⟨b, o, none⟩ = w.cell? ⟨b, o, none⟩ := by
  simp [World.cell?, h]
section
variable {w0 w w' : World} {lo ob N : Nat} {rk : Nat → Nat} {r : Nat → Nat → Int}
theorem RmB.keep (h : RmB w0 lo ob N rk w r) (hb : Below lo w0 w') (hs : w.heap.size ≤ w'.heap.size) (hk : ∀ k, k < w.heap.size → (k = ob ∨ ∃ u, u < N ∧ k = rk u) → w'.heap[k]? = w.heap[k]?) : RmB w0 lo ob N rk w' r :=
  ⟨hb, Nat.le_trans h.s hs, fun u hu => by rw [cell_heap (hk ob h.o (.inl rfl))]; exact h.O u hu, Nat.lt_of_lt_of_le h.o hs, fun u hu => (h.R u hu).of_heap (hk _ (h.R u hu).lt (.inr ⟨u, hu, rfl⟩)), h.l, h.ne, h.inj⟩
theorem RmB.below (h : RmB w0 lo ob N rk w r) (hb : Below w.heap.size w w') : RmB w0 lo ob N rk w' r := h.keep (h.B.trans (hb.mono h.s)) hb.size (fun k hk _ => hb.block k hk)
theorem RmB.other (h : RmB w0 lo ob N rk w r) {g : Nat} (hl : lo ≤ g) (h1 : g ≠ ob) (h2 : ∀ u, u < N → g ≠ rk u) (o : Nat) (v : Value) : RmB w0 lo ob N rk (w.setCell ⟨g, o, none⟩ v) r :=
  h.keep (bel_set h.B hl _ _) (by rw [size_set]; exact Nat.le_refl _) (fun k hk hh => heap_set_ne _ _ _ _ _ (by
    rintro rfl
    rcases hh with e | ⟨u, hu, e⟩
    · exact h1 e
    · exact h2 u hu e))
theorem RmB.drewN (h : RmB w0 lo ob N rk w r) (m : Nat) : RmB w0 lo ob N rk (w.drewN m) r := h.keep (bel_drewN h.B m) (Nat.le_refl _) (fun _ _ _ => rfl)
def put2' (c : Nat → Nat → Int) (u v : Nat) (x : Int) : Nat → Nat → Int := fun a b => if a = u ∧ b = v then x else c a b
theorem RmB.set (h : RmB w0 lo ob N rk w r) (u v : Nat) (hu : u < N) (hv : v < N) (x : Int) : RmB w0 lo ob N rk (w.setCell ⟨rk u, v, none⟩ (.int .i64 x)) (put2' r u v x) := by
  refine ⟨bel_set h.B (h.l u hu) _ _, by rw [size_set]; exact h.s, fun a ha => ?_, by rw [size_set]; exact h.o, fun a ha => ?_, h.l, h.ne, h.inj⟩
  · rw [cell_heap (heap_set_ne _ _ _ _ _ (fun e => h.ne u hu e.symm))]; exact h.O a ha
  · by_cases e : a = u
    · subst e
      refine ((h.R a ha).set v hv x).congr fun j _ => ?_
      unfold upd put2'
      by_cases e2 : j = v
      · rw [if_pos e2, if_pos ⟨rfl, e2⟩]
      · rw [if_neg e2, if_neg (fun hh => e2 hh.2)]
    · refine ((h.R a ha).other (fun e2 => e (h.inj a u ha hu e2)) v (.int .i64 x)).congr fun j _ => ?_
      unfold put2'
      rw [if_neg (fun hh => e hh.1)]
theorem RmB.congr {r' : Nat → Nat → Int} (h : RmB w0 lo ob N rk w r) (e : r = r') : RmB w0 lo ob N rk w r' := e ▸ h
end
/-- The world while push runs. -/
structure PuB (w0 : World) (lo ob N : Nat) (rk : Nat → Nat) (bb : Nat) (w : World) (r : Nat → Nat → Int) (F : Nat → Int) : Prop where
  M : RmB w0 lo ob N rk w r
  K : VBlk encI 3 w bb N (fun k => F k - 1)
  b0 : lo ≤ bb
  bo : bb ≠ ob
  br : ∀ u, u < N → bb ≠ rk u
def okP (ob N : Nat) (rk : Nat → Nat) (bb : Nat) : Nat → Prop := fun k => k ≠ ob ∧ (∀ u, u < N → k ≠ rk u) ∧ k ≠ bb
section
variable {w0 w w' : World} {lo ob N bb : Nat} {rk : Nat → Nat} {r : Nat → Nat → Int} {F : Nat → Int}
theorem PuB.drewN (h : PuB w0 lo ob N rk bb w r F) (m : Nat) : PuB w0 lo ob N rk bb (w.drewN m) r F := ⟨h.M.drewN m, h.K.of_heap rfl, h.b0, h.bo, h.br⟩
theorem PuB.back (h : PuB w0 lo ob N rk bb w r F) (k : Nat) (hk : k < N) (x : Int) : PuB w0 lo ob N rk bb (w.setCell ⟨bb, k, none⟩ (.int .i64 x)) r (upd F k (x + 1)) :=
  ⟨h.M.other h.b0 h.bo h.br _ _, (h.K.set k hk x).congr fun j _ => by
    unfold upd
    split
    · omega
    · rfl, h.b0, h.bo, h.br⟩
theorem PuB.set (h : PuB w0 lo ob N rk bb w r F) (u v : Nat) (hu : u < N) (hv : v < N) (x : Int) : PuB w0 lo ob N rk bb (w.setCell ⟨rk u, v, none⟩ (.int .i64 x)) (put2' r u v x) F :=
  ⟨h.M.set u v hu hv x, h.K.other (h.br u hu) _ _, h.b0, h.bo, h.br⟩
theorem PuB.congr {r' : Nat → Nat → Int} (h : PuB w0 lo ob N rk bb w r F) (e : r = r') : PuB w0 lo ob N rk bb w r' F := e ▸ h
theorem PuB.grown (h : PuB w0 lo ob N rk bb w r F) {v : Value} (hv : ∀ k, v.ownBlock = some k → okP ob N rk bb k) (hb : Below lo w0 w') (hg : w.grownBy w' v.ownBlock) : PuB w0 lo ob N rk bb w' r F := by
  have q : ∀ k, k < w.heap.size → ¬ okP ob N rk bb k → w'.heap[k]? = w.heap[k]? := fun k hk hn => hg.block k hk (fun e => hn (hv k e.symm))
  refine ⟨h.M.keep hb hg.size (fun k hk hh => q k hk (fun z => ?_)), h.K.of_heap (q _ h.K.lt (fun z => z.2.2 rfl)), h.b0, h.bo, h.br⟩
  rcases hh with e | ⟨u, hu, e⟩
  · exact z.1 e
  · exact z.2.1 u hu e
theorem PuB.fresh (h : PuB w0 lo ob N rk bb w r F) (k : Nat) (hk : w.heap.size ≤ k) : okP ob N rk bb k := by
  have a1 := h.M.o
  have a2 := h.K.lt
  exact ⟨by omega, fun u hu => by have := (h.M.R u hu).lt; omega, by omega⟩
theorem PuB.congrF {F' : Nat → Int} (h : PuB w0 lo ob N rk bb w r F) (e : ∀ k, k < N → F k = F' k) : PuB w0 lo ob N rk bb w r F' := ⟨h.M, h.K.congr fun j hj => by rw [e j hj], h.b0, h.bo, h.br⟩
theorem PuB.start (h : RmB w0 lo ob N rk w r) : PuB w0 lo ob N rk w.heap.size (w.alloc (.cells (madeCells #[Value.int .i64 0] N) 3)) r (fun _ => 1) := by
  have hb := (Below.refl w.heap.size w).alloc (Nat.le_refl _) (.cells (madeCells #[Value.int .i64 0] N) 3)
  have a1 := h.o
  exact ⟨h.below hb, (VBlk.made (enc := encI) (z := 0) (blk_new w _)).congr (fun _ _ => rfl), h.s, by omega, fun u hu => by have := (h.R u hu).lt; omega⟩
theorem PuB.alloc (h : PuB w0 lo ob N rk bb w r F) (o : Obj) : PuB w0 lo ob N rk bb (w.alloc o) r F := by
  have hb := (Below.refl w.heap.size w).alloc (Nat.le_refl _) o
  exact ⟨h.M.below hb, h.K.of_heap (hb.block _ h.K.lt), h.b0, h.bo, h.br⟩
end
theorem getD_mid (P R : List Int) (x : Int) : ((P ++ [x]) ++ R).getD P.length 0 = x := by simp
theorem pushR_form {N s t : Nat} {r r2 : Nat → Nat → Int} {m : Int} (h : pushR N s t r = some (m, r2)) : ∃ F, bfsE N r t (N + 2) (upd (fun _ => 0) s ((s : Int) + 1)) [(s : Int)] = some F ∧ ((F t = 0 ∧ m = 0 ∧ r2 = r) ∨ (F t ≠ 0 ∧ leastP F r s N (N + 1) t 1099511627776 = some m ∧ pushP F s N m (N + 1) t r = some r2)) := by
  rw [pushR] at h
  cases e1 : bfsE N r t (N + 2) (upd (fun _ => 0) s ((s : Int) + 1)) [(s : Int)] with
  | none => rw [e1] at h; exact absurd h (by simp)
  | some F =>
    rw [e1] at h
    simp only at h
    refine ⟨F, rfl, ?_⟩
    by_cases e2 : F t = 0
    · rw [if_pos e2] at h
      have := Option.some.inj h
      simp only [Prod.mk.injEq] at this
      exact .inl ⟨e2, this.1.symm, this.2.symm⟩
    · rw [if_neg e2] at h
      cases e3 : leastP F r s N (N + 1) t 1099511627776 with
      | none => rw [e3] at h; exact absurd h (by simp)
      | some L =>
        rw [e3] at h
        simp only at h
        cases e4 : pushP F s N L (N + 1) t r with
        | none => rw [e4] at h; exact absurd h (by simp)
        | some r3 =>
          rw [e4] at h
          have := Option.some.inj h
          simp only [Prod.mk.injEq] at this
          obtain ⟨rfl, rfl⟩ := this
          exact .inr ⟨e2, rfl, e4⟩
set_option maxRecDepth 100000 in
set_option maxHeartbeats 8000000 in
theorem push_any (w0 w : World) (lo ob c N : Nat) (rk : Nat → Nat) (r r2 : Nat → Nat → Int) (s t : Nat) (m : Int) (hN : N ≤ 1000) (hs : s < N) (ht : t < N) (hM : RmB w0 lo ob N rk w r) (hp : pushR N s t r = some (m, r2)) :
    Calls Try.prog 118 #[.slice (some ⟨ob, 0, none⟩) N c, .int .i64 s, .int .i64 t] w fun e w' => e = .returned (.int .i64 m) ∧ RmB w0 lo ob N rk w' r2 := by
  have m1 := mkI N (by omega)
  obtain ⟨F, hF, hcase⟩ := pushR_form hp
  have HP0 := Hd.mk (PuB.start hM)
  have HF := Hd.mk hF
  have HCs := Hd.mk hcase
  have hsz : (s : Int) < (N : Int) := by omega
  have htz : (t : Int) < (N : Int) := by omega
  clear hM hp hF hcase
  go_enter Try.func118, Try.ntmps118
  go_wp2_with fail
  generalize w.alloc (.cells (madeCells #[Value.int .i64 0] N) 3) = w1 at HP0 ⊢
  generalize w.heap.size = bb at HP0 ⊢
  go_loopg [9] N (fun gg v9 wr => ∃ i : Nat, v9 = .int .i64 i ∧ i ≤ N ∧ N - i ≤ gg ∧ Hd (PuB w0 lo ob N rk bb wr r (fun k => if k < i then 0 else 1)))
  case atStart => exact ⟨0, rfl, Nat.zero_le _, by omega, ⟨HP0.out.congrF (fun k _ => by rw [if_neg (by omega)])⟩⟩
  case round =>
    clear HP0
    obtain ⟨i, rfl, hi, hg, HP⟩ := hrel
    by_cases hlt : i < N
    · have hltz : (i : Int) < (N : Int) := by omega
      have g1 := HP.out.K.cell i hlt
      unfold encI at g1
      have f1 := HP.out.K.frozen i
      have HP2 := Hd.mk (HP.out.back i hlt (-1))
      go_wp2_with fail
      go_roundg (N - (i + 1))
      case measure => omega
      case rel => exact ⟨i + 1, by go_num, by omega, by omega, ⟨HP2.out.congrF (fun k _ => by
        show upd (fun k => if k < i then 0 else 1) i ((-1 : Int) + 1) k = if k < i + 1 then 0 else 1
        unfold upd
        by_cases e : k = i
        · rw [if_pos e, if_pos (by omega)]; rfl
        · rw [if_neg e]
          by_cases e2 : k < i
          · rw [if_pos (show k < i + 1 by omega)]; exact if_pos e2
          · rw [if_neg (show ¬ k < i + 1 by omega)]; exact if_neg e2)⟩⟩
    · have hltz : ¬ (i : Int) < (N : Int) := by omega
      obtain rfl : i = N := by omega
      have HPa := Hd.mk (HP.out.congrF (F' := fun _ => 0) (fun k hk => by rw [if_pos hk]))
      clear HP
      have g1 := HPa.out.K.cell s hs
      unfold encI at g1
      have f1 := HPa.out.K.frozen s
      have HPb := Hd.mk (HPa.out.back s hs (s : Int))
      have HPc := Hd.mk (HPb.out.alloc (.cells #[Value.int .i64 (s : Int)] 3))
      have hsz2 : (wr.setCell ⟨bb, s, none⟩ (.int .i64 (s : Int))).heap.size = wr.heap.size := size_set _ _ _ _
      have HQ0 := Hd.mk (show Kd.R qI 3 ((wr.setCell ⟨bb, s, none⟩ (.int .i64 (s : Int))).alloc (.cells #[Value.int .i64 (s : Int)] 3)) lo (okP ob i rk bb) (.slice (some ⟨wr.heap.size, 0, none⟩) 1 1) [(s : Int)] from Kd.R_of_own (enc := Value.int .i64) ⟨rfl, .inr ⟨_, 1, _, rfl, HPa.out.M.s, by rw [← hsz2]; exact blk_new _ _, Nat.le_refl _, by decide, rfl, rfl⟩⟩ (fun k hk => by
        have : wr.heap.size = k := by simpa [Value.ownBlock] using hk
        exact HPa.out.fresh k (by omega)))
      clear HPa HPb hsz2
      go_wp2_with fail
      generalize ((wr.setCell ⟨bb, s, none⟩ (.int .i64 (s : Int))).alloc (.cells #[Value.int .i64 (s : Int)] 3)) = w3 at HPc HQ0 ⊢
      generalize wr.heap.size = qb at HQ0 ⊢
      have HNN := Hd.mk (show ∀ k, k < i → 0 ≤ upd (fun _ => (0 : Int)) s ((s : Int) + 1) k from fun k _ => by unfold upd; split; exact (by omega); exact Int.le_refl _)
      go_loopg [10, 11] (i + 2) (fun gg v10 v11 wr => ∃ (F1 : Nat → Int) (P rem : List Int), v11 = .int .i64 (P.length : Nat) ∧ P.length + gg ≤ i + 2 ∧ Hd (bfsE i r t gg F1 rem = some F) ∧ Hd (Kd.R qI 3 wr lo (okP ob i rk bb) v10 (P ++ rem)) ∧ Hd (PuB w0 lo ob i rk bb wr r F1) ∧ Hd (∀ k, k < i → 0 ≤ F1 k))
      case atStart => exact ⟨_, [], _, rfl, by simp, HF, HQ0, HPc, HNN⟩
      case round =>
        clear HF HQ0 HPc HNN g1 f1
        obtain ⟨F1, P, rem, rfl, hPg, HB, HQ, HM, HNN⟩ := hrel
        cases gk with
        | zero => exact absurd HB.out (by simp [bfsE])
        | succ g1 =>
          have hb := HB.out
          clear HB
          have gt := HM.out.K.cell t ht
          unfold encI at gt
          by_cases hFt : F1 t = 0
          · have d1 : decide (F1 t - 1 < 0) = true := decide_eq_true (by omega)
            cases rem with
            | nil =>
              rw [bfsE, if_neg (fun hh => hh hFt)] at hb
              obtain rfl := Option.some.inj hb
              clear hb
              obtain ⟨_, rfl, rfl⟩ | ⟨h9, _⟩ := HCs.out
              · rw [List.append_nil] at HQ
                obtain ⟨A9, c9, rfl⟩ := Kd.R_slice HQ.out
                clear HQ HCs
                go_wp2_with fail
                go_ret
                exact ⟨rfl, HM.out.M⟩
              · exact absurd hFt h9
            | cons x rem =>
              rw [bfsE, if_neg (fun hh => hh hFt)] at hb
              by_cases hx : 0 ≤ x ∧ x < (i : Nat) ∧ rem.length ≤ 1000000
              · rw [if_pos hx] at hb
                obtain ⟨u, rfl⟩ : ∃ u : Nat, x = (u : Int) := ⟨x.toNat, by omega⟩
                rw [Int.toNat_natCast] at hb
                have hu : u < i := by omega
                have huz : (u : Int) < (i : Int) := by omega
                have hrl : rem.length ≤ 1000000 := hx.2.2
                have HB := Hd.mk hb
                clear hb hx
                obtain ⟨A9, c9, rfl⟩ := Kd.R_slice HQ.out
                have hll : (P ++ (u : Int) :: rem).length = P.length + (rem.length + 1) := by simp
                rw [hll]
                have hlz : (P.length : Int) < ((P.length + (rem.length + 1) : Nat) : Int) := by omega
                have HQ1 := Hd.mk (show Kd.R qI 3 wr lo (okP ob i rk bb) (.slice A9 (P.length + (rem.length + 1)) c9) ((P ++ [(u : Int)]) ++ rem) from by rw [List.append_assoc]; rw [hll] at HQ; exact HQ.out)
                clear HQ hll
                go_wp2_with fail
                go_loopg [10, 12] i (fun gg v10 v12 wr => ∃ k : Nat, v12 = .int .i64 k ∧ k ≤ i ∧ i - k ≤ gg ∧ Hd (Kd.R qI 3 wr lo (okP ob i rk bb) v10 ((P ++ [(u : Int)]) ++ (bf1 r u (F1, rem) k).2)) ∧ Hd (PuB w0 lo ob i rk bb wr r (bf1 r u (F1, rem) k).1) ∧ Hd (∀ j, j < i → 0 ≤ (bf1 r u (F1, rem) k).1 j))
                case atStart => exact ⟨0, rfl, Nat.zero_le _, by omega, HQ1, HM, HNN⟩
                case round =>
                  clear HQ1 HM HNN gt d1 hlz
                  obtain ⟨k, rfl, hk, hgk, HQ, HM, HNN⟩ := hrel
                  by_cases hlk : k < i
                  · have hlkz : (k : Int) < (i : Int) := by omega
                    have hlen := bf1_len r u F1 rem k
                    have hst : bf1 r u (F1, rem) (k + 1) = (if 0 < r u k ∧ (bf1 r u (F1, rem) k).1 k = 0 then (upd (bf1 r u (F1, rem) k).1 k ((u : Int) + 1), (bf1 r u (F1, rem) k).2 ++ [(k : Int)]) else bf1 r u (F1, rem) k) := rfl
                    obtain ⟨sq, hsq⟩ : ∃ sq, bf1 r u (F1, rem) k = sq := ⟨_, rfl⟩
                    rw [hsq] at hlen HQ HM HNN hst
                    clear hsq
                    obtain ⟨F3, t3⟩ := sq
                    simp only at hlen HQ HM HNN hst
                    have gk := HM.out.K.cell k hlk
                    unfold encI at gk
                    by_cases h0 : F3 k = 0
                    · have d2 : decide (F3 k - 1 < 0) = true := decide_eq_true (by omega)
                      obtain ⟨A9, c9, rfl⟩ := Kd.R_slice HQ.out
                      have hl3 : ((P ++ [(u : Int)]) ++ t3).length = P.length + 1 + t3.length := by rw [List.length_append, List.length_append]; rfl
                      obtain ⟨qa, hqa, hqc⟩ := at_I (Kd.R_reads' HQ.out).2.2 P.length (by omega)
                      subst hqa
                      rw [getD_mid] at hqc
                      have hP3 : (P.length : Int) < ((P.length + 1 + t3.length : Nat) : Int) := by omega
                      rw [hl3]
                      rw [hl3] at HQ
                      have ga := HM.out.M.O u hu
                      have gr := (HM.out.M.R u hu).cell k hlk
                      unfold encI at gr
                      by_cases hr : 0 < r u k
                      · rw [if_pos ⟨hr, h0⟩] at hst
                        have d3 : decide (r u k > 0) = true := decide_eq_true hr
                        have HS := Hd.mk hst
                        have fk := HM.out.K.frozen k
                        have HM2 := Hd.mk (HM.out.back k hlk (u : Int))
                        have HQ2 := Hd.mk (Kd.R_far (p := ⟨bb, k, none⟩) HQ.out (fun j hj => hj.2.2) (.int .i64 (u : Int)))
                        have hqb : qa.block ≠ bb := HQ.out.1 qa.block (by simp [Value.ownBlock]) |>.2.2
                        clear hst HQ
                        go_wp2_with (((with_reducible refine gate_builtin (b := .append) (xs := #[.tmp 77, .tmp 79]) rfl ?_); at_builtin; refine Kd.R_append qI (w0 := w0) lo rfl (.tmp 77) (.tmp 79) 28 3 (.int .i64 0) 8 rfl Try.underlying28 info3 rfl (by decide) (by omega) _ _ (k : Int) [.int .i64 k] (okP ob i rk bb) (fun _ => False) rfl ?aX ?aP (fun _ hk => hk.elim) ?aF HQ2.out HM2.out.M.B HM2.out.M.s ?aL ?_; (case aX => rw [size_set]; rfl); (case aP => exact rfl); (case aF => exact HM2.out.fresh); (case aL => rw [hl3]; omega); intro v5 w5 ho hb hg2 hat; have HQ3 := Hd.mk ho; have HM3 := Hd.mk (HM2.out.grown (fun k hk => HQ2.out.1 k hk) hb hg2); clear ho hb hg2 hat HM2 HQ2))
                        go_roundg (i - (k + 1))
                        case measure => omega
                        case rel => exact ⟨k + 1, by go_num, by omega, by omega, ⟨by rw [HS.out, ← List.append_assoc]; exact HQ3.out⟩, ⟨by rw [HS.out]; exact HM3.out⟩, ⟨by
                          rw [HS.out]
                          intro j hj
                          show 0 ≤ upd F3 k ((u : Int) + 1) j
                          unfold upd
                          split
                          · omega
                          · exact HNN.out j hj⟩⟩
                      · rw [if_neg (fun hh => hr hh.1)] at hst
                        have d3 : decide (r u k > 0) = false := decide_eq_false hr
                        have HS := Hd.mk hst
                        clear hst
                        go_wp2_with fail
                        go_roundg (i - (k + 1))
                        case measure => omega
                        case rel => exact ⟨k + 1, by go_num, by omega, by omega, ⟨by rw [HS.out]; exact HQ.out⟩, ⟨by rw [HS.out]; exact HM.out⟩, ⟨by rw [HS.out]; exact HNN.out⟩⟩
                    · have d2 : decide (F3 k - 1 < 0) = false := decide_eq_false (by have := HNN.out k hlk; omega)
                      rw [if_neg (fun hh => h0 hh.2)] at hst
                      have HS := Hd.mk hst
                      clear hst
                      go_wp2_with fail
                      go_roundg (i - (k + 1))
                      case measure => omega
                      case rel => exact ⟨k + 1, by go_num, by omega, by omega, ⟨by rw [HS.out]; exact HQ.out⟩, ⟨by rw [HS.out]; exact HM.out⟩, ⟨by rw [HS.out]; exact HNN.out⟩⟩
                  · have hlkz : ¬ (k : Int) < (i : Int) := by omega
                    obtain rfl : k = i := by omega
                    have HQ5 := HQ
                    have HM5 := HM
                    have HN5 := HNN
                    clear HQ HM HNN
                    go_wp2_with fail
                    go_roundg g1
                    case measure => omega
                    case rel => exact ⟨_, P ++ [(u : Int)], _, by rw [List.length_append]; go_num, by rw [List.length_append, List.length_singleton]; omega, HB, HQ5, HM5, HN5⟩
              · rw [if_neg hx] at hb
                exact absurd hb (by simp)
          · have d1 : decide (F1 t - 1 < 0) = false := decide_eq_false (by have := HNN.out t ht; omega)
            cases rem with
            | nil =>
              rw [bfsE, if_pos hFt] at hb
              have e9 : F = F1 := (Option.some.inj hb).symm
              subst e9
              clear hb
              rw [List.append_nil] at HQ
              obtain ⟨A9, c9, rfl⟩ := Kd.R_slice HQ.out
              clear HQ
              obtain ⟨h9, _⟩ | ⟨_, hL, hPP⟩ := HCs.out
              · exact absurd h9 hFt
              · have HL := Hd.mk hL
                have HPP := Hd.mk hPP
                clear hL hPP HCs hFt HNN
                go_wp2_with fail
                go_loopg [13, 14] (i + 1) (fun gg v13 v14 wr => ∃ (d : Int) (v : Nat), v13 = .int .i64 d ∧ v14 = .int .i64 v ∧ v < i ∧ Hd (gg ≤ i + 1 ∧ leastP F r s i gg v d = some m) ∧ Hd (PuB w0 lo ob i rk bb wr r F))
                case atStart => exact ⟨_, t, rfl, rfl, ht, ⟨Nat.le_refl _, HL.out⟩, HM⟩
                case round =>
                  clear HL HM gt d1
                  obtain ⟨d, v, rfl, rfl, hv, HL, HM⟩ := hrel
                  cases gk with
                  | zero => exact absurd HL.out.2 (by simp [leastP])
                  | succ g2 =>
                    have HG2 := Hd.mk HL.out.1
                    have hm := HL.out.2
                    rw [leastP] at hm
                    clear HL
                    by_cases hvs : v = s
                    · rw [if_pos hvs] at hm
                      obtain rfl := Option.some.inj hm
                      subst hvs
                      clear hm HG2
                      go_wp2_with fail
                      go_loopg [15] (i + 1) (fun gg v15 wr => ∃ (x : Nat) (r' : Nat → Nat → Int), v15 = .int .i64 x ∧ x < i ∧ Hd (gg ≤ i + 1 ∧ pushP F v i d gg x r' = some r2) ∧ Hd (PuB w0 lo ob i rk bb wr r' F))
                      case atStart => exact ⟨t, _, rfl, ht, ⟨Nat.le_refl _, HPP.out⟩, HM⟩
                      case round =>
                        clear HPP HM
                        obtain ⟨x, r', rfl, hx, HL, HM⟩ := hrel
                        cases gk with
                        | zero => exact absurd HL.out.2 (by simp [pushP])
                        | succ g3 =>
                          have HG3 := Hd.mk HL.out.1
                          have hm := HL.out.2
                          rw [pushP] at hm
                          clear HL
                          by_cases hvs : x = v
                          · rw [if_pos hvs] at hm
                            obtain rfl := Option.some.inj hm
                            subst hvs
                            clear hm HG3
                            go_wp2_with fail
                            go_ret
                            exact ⟨rfl, HM.out.M⟩
                          · rw [if_neg hvs] at hm
                            by_cases hF9 : (1 ≤ F x ∧ F x ≤ (i : Nat)) ∧ par F x ≠ x ∧ 0 ≤ d ∧ d ≤ r' (par F x) x ∧ r' (par F x) x ≤ 4611686018427387904 ∧ 0 ≤ r' x (par F x) ∧ r' x (par F x) + d ≤ 4611686018427387904
                            · rw [if_pos hF9] at hm
                              obtain ⟨p, hp⟩ : ∃ p, par F x = p := ⟨_, rfl⟩
                              have hFp : F x - 1 = (p : Int) := by rw [← hp]; unfold par; omega
                              have hpi : p < i := by omega
                              rw [hp] at hm hF9
                              obtain ⟨_, hpx, h1, h2, h3, h4, h5⟩ := hF9
                              have HL := Hd.mk hm
                              clear hm
                              have gx := HM.out.K.cell x hx
                              unfold encI at gx
                              rw [hFp] at gx
                              have ga := HM.out.M.O p hpi
                              have gr := (HM.out.M.R p hpi).cell x hx
                              unfold encI at gr
                              have fr := (HM.out.M.R p hpi).frozen x
                              have dvx : decide ((x : Int) ≠ (v : Int)) = true := decide_eq_true (by omega)
                              have dvb : ((x : Int) != (v : Int)) = true := bne_iff_ne.mpr (by omega)
                              have pz : (p : Int) < (i : Int) := by omega
                              have xz : (x : Int) < (i : Int) := by omega
                              have HM2 := Hd.mk (HM.out.set p x hpi hx (r' p x - d))
                              clear hp
                              have gx2 := HM2.out.K.cell x hx
                              unfold encI at gx2
                              rw [hFp] at gx2
                              have ga2 := HM2.out.M.O x hx
                              have gr2 := (HM2.out.M.R x hx).cell p hpi
                              unfold encI at gr2
                              rw [show put2' r' p x (r' p x - d) x p = r' x p from if_neg (fun hh => hpx hh.1.symm)] at gr2
                              have fr2 := (HM2.out.M.R x hx).frozen p
                              go_wp2_with fail
                              generalize wr.setCell ⟨rk p, x, none⟩ (.int .i64 (r' p x - d)) = wd at HM2 gx2 ga2 gr2 fr2 ⊢
                              clear gx ga gr fr HM
                              go_region
                              have HM3 := Hd.mk ((show PuB w0 lo ob i rk bb (wd.setCell ⟨rk x, p, none⟩ (Value.int IntKind.i64 (r' x p + d))).drew _ F from (HM2.out.set x p hx hpi (r' x p + d)).drewN 1).congr (r' := push1 r' p x d) (by
                                funext a b
                                unfold push1 put2'
                                by_cases e1 : a = p ∧ b = x
                                · rw [if_pos e1, if_neg (fun e2 => hpx (by omega)), if_pos e1, e1.1, e1.2]
                                · rw [if_neg e1]
                                  by_cases e2 : a = x ∧ b = p
                                  · rw [if_pos e2, if_pos e2, if_neg e1, e2.1, e2.2]
                                  · rw [if_neg e2, if_neg e2, if_neg e1]))
                              clear gx2 ga2 gr2 fr2 HM2
                              generalize (wd.setCell ⟨rk x, p, none⟩ (Value.int IntKind.i64 (r' x p + d))).drew = we at HM3 ⊢
                              have gx := HM3.out.K.cell x hx
                              unfold encI at gx
                              rw [hFp] at gx
                              go_wp2_with fail
                              go_roundg g3
                              case measure => omega
                              case rel => exact ⟨p, _, by go_num, hpi, ⟨by have := HG3.out; omega, HL.out⟩, HM3⟩
                            · rw [if_neg hF9] at hm
                              exact absurd hm (by simp)
                    · rw [if_neg hvs] at hm
                      by_cases hF9 : 1 ≤ F v ∧ F v ≤ (i : Nat)
                      · rw [if_pos hF9] at hm
                        have HL := Hd.mk hm
                        clear hm
                        obtain ⟨p, hp⟩ : ∃ p, par F v = p := ⟨_, rfl⟩
                        have hFp : F v - 1 = (p : Int) := by rw [← hp]; unfold par; omega
                        have hpi : p < i := by omega
                        rw [hp] at HL
                        have gx := HM.out.K.cell v hv
                        unfold encI at gx
                        rw [hFp] at gx
                        have ga := HM.out.M.O p hpi
                        have gr := (HM.out.M.R p hpi).cell v hv
                        unfold encI at gr
                        have dvx : decide ((v : Int) ≠ (s : Int)) = true := decide_eq_true (by omega)
                        have dvb : ((v : Int) != (s : Int)) = true := bne_iff_ne.mpr (by omega)
                        have pz : (p : Int) < (i : Int) := by omega
                        have xz : (v : Int) < (i : Int) := by omega
                        clear hp hF9
                        go_wp2_with fail
                        go_roundg g2
                        case measure => omega
                        case rel => exact ⟨_, p, by go_num, by go_num, hpi, ⟨by have := HG2.out; omega, HL.out⟩, HM⟩
                      · rw [if_neg hF9] at hm
                        exact absurd hm (by simp)
            | cons x rem =>
              rw [bfsE, if_pos hFt] at hb
              have e9 : F = F1 := (Option.some.inj hb).symm
              subst e9
              clear hb
              obtain ⟨A9, c9, rfl⟩ := Kd.R_slice HQ.out
              have hll : (P ++ x :: rem).length = P.length + (rem.length + 1) := by simp
              rw [hll]
              have hlz : (P.length : Int) < ((P.length + (rem.length + 1) : Nat) : Int) := by omega
              clear HQ hll
              obtain ⟨h9, _⟩ | ⟨_, hL, hPP⟩ := HCs.out
              · exact absurd h9 hFt
              · have HL := Hd.mk hL
                have HPP := Hd.mk hPP
                clear hL hPP HCs hFt HNN
                go_wp2_with fail
                go_loopg [13, 14] (i + 1) (fun gg v13 v14 wr => ∃ (d : Int) (v : Nat), v13 = .int .i64 d ∧ v14 = .int .i64 v ∧ v < i ∧ Hd (gg ≤ i + 1 ∧ leastP F r s i gg v d = some m) ∧ Hd (PuB w0 lo ob i rk bb wr r F))
                case atStart => exact ⟨_, t, rfl, rfl, ht, ⟨Nat.le_refl _, HL.out⟩, HM⟩
                case round =>
                  clear HL HM gt d1
                  obtain ⟨d, v, rfl, rfl, hv, HL, HM⟩ := hrel
                  cases gk with
                  | zero => exact absurd HL.out.2 (by simp [leastP])
                  | succ g2 =>
                    have HG2 := Hd.mk HL.out.1
                    have hm := HL.out.2
                    rw [leastP] at hm
                    clear HL
                    by_cases hvs : v = s
                    · rw [if_pos hvs] at hm
                      obtain rfl := Option.some.inj hm
                      subst hvs
                      clear hm HG2
                      go_wp2_with fail
                      go_loopg [15] (i + 1) (fun gg v15 wr => ∃ (x : Nat) (r' : Nat → Nat → Int), v15 = .int .i64 x ∧ x < i ∧ Hd (gg ≤ i + 1 ∧ pushP F v i d gg x r' = some r2) ∧ Hd (PuB w0 lo ob i rk bb wr r' F))
                      case atStart => exact ⟨t, _, rfl, ht, ⟨Nat.le_refl _, HPP.out⟩, HM⟩
                      case round =>
                        clear HPP HM
                        obtain ⟨x, r', rfl, hx, HL, HM⟩ := hrel
                        cases gk with
                        | zero => exact absurd HL.out.2 (by simp [pushP])
                        | succ g3 =>
                          have HG3 := Hd.mk HL.out.1
                          have hm := HL.out.2
                          rw [pushP] at hm
                          clear HL
                          by_cases hvs : x = v
                          · rw [if_pos hvs] at hm
                            obtain rfl := Option.some.inj hm
                            subst hvs
                            clear hm HG3
                            go_wp2_with fail
                            go_ret
                            exact ⟨rfl, HM.out.M⟩
                          · rw [if_neg hvs] at hm
                            by_cases hF9 : (1 ≤ F x ∧ F x ≤ (i : Nat)) ∧ par F x ≠ x ∧ 0 ≤ d ∧ d ≤ r' (par F x) x ∧ r' (par F x) x ≤ 4611686018427387904 ∧ 0 ≤ r' x (par F x) ∧ r' x (par F x) + d ≤ 4611686018427387904
                            · rw [if_pos hF9] at hm
                              obtain ⟨p, hp⟩ : ∃ p, par F x = p := ⟨_, rfl⟩
                              have hFp : F x - 1 = (p : Int) := by rw [← hp]; unfold par; omega
                              have hpi : p < i := by omega
                              rw [hp] at hm hF9
                              obtain ⟨_, hpx, h1, h2, h3, h4, h5⟩ := hF9
                              have HL := Hd.mk hm
                              clear hm
                              have gx := HM.out.K.cell x hx
                              unfold encI at gx
                              rw [hFp] at gx
                              have ga := HM.out.M.O p hpi
                              have gr := (HM.out.M.R p hpi).cell x hx
                              unfold encI at gr
                              have fr := (HM.out.M.R p hpi).frozen x
                              have dvx : decide ((x : Int) ≠ (v : Int)) = true := decide_eq_true (by omega)
                              have dvb : ((x : Int) != (v : Int)) = true := bne_iff_ne.mpr (by omega)
                              have pz : (p : Int) < (i : Int) := by omega
                              have xz : (x : Int) < (i : Int) := by omega
                              have HM2 := Hd.mk (HM.out.set p x hpi hx (r' p x - d))
                              clear hp
                              have gx2 := HM2.out.K.cell x hx
                              unfold encI at gx2
                              rw [hFp] at gx2
                              have ga2 := HM2.out.M.O x hx
                              have gr2 := (HM2.out.M.R x hx).cell p hpi
                              unfold encI at gr2
                              rw [show put2' r' p x (r' p x - d) x p = r' x p from if_neg (fun hh => hpx hh.1.symm)] at gr2
                              have fr2 := (HM2.out.M.R x hx).frozen p
                              go_wp2_with fail
                              generalize wr.setCell ⟨rk p, x, none⟩ (.int .i64 (r' p x - d)) = wd at HM2 gx2 ga2 gr2 fr2 ⊢
                              clear gx ga gr fr HM
                              go_region
                              have HM3 := Hd.mk ((show PuB w0 lo ob i rk bb (wd.setCell ⟨rk x, p, none⟩ (Value.int IntKind.i64 (r' x p + d))).drew _ F from (HM2.out.set x p hx hpi (r' x p + d)).drewN 1).congr (r' := push1 r' p x d) (by
                                funext a b
                                unfold push1 put2'
                                by_cases e1 : a = p ∧ b = x
                                · rw [if_pos e1, if_neg (fun e2 => hpx (by omega)), if_pos e1, e1.1, e1.2]
                                · rw [if_neg e1]
                                  by_cases e2 : a = x ∧ b = p
                                  · rw [if_pos e2, if_pos e2, if_neg e1, e2.1, e2.2]
                                  · rw [if_neg e2, if_neg e2, if_neg e1]))
                              clear gx2 ga2 gr2 fr2 HM2
                              generalize (wd.setCell ⟨rk x, p, none⟩ (Value.int IntKind.i64 (r' x p + d))).drew = we at HM3 ⊢
                              have gx := HM3.out.K.cell x hx
                              unfold encI at gx
                              rw [hFp] at gx
                              go_wp2_with fail
                              go_roundg g3
                              case measure => omega
                              case rel => exact ⟨p, _, by go_num, hpi, ⟨by have := HG3.out; omega, HL.out⟩, HM3⟩
                            · rw [if_neg hF9] at hm
                              exact absurd hm (by simp)
                    · rw [if_neg hvs] at hm
                      by_cases hF9 : 1 ≤ F v ∧ F v ≤ (i : Nat)
                      · rw [if_pos hF9] at hm
                        have HL := Hd.mk hm
                        clear hm
                        obtain ⟨p, hp⟩ : ∃ p, par F v = p := ⟨_, rfl⟩
                        have hFp : F v - 1 = (p : Int) := by rw [← hp]; unfold par; omega
                        have hpi : p < i := by omega
                        rw [hp] at HL
                        have gx := HM.out.K.cell v hv
                        unfold encI at gx
                        rw [hFp] at gx
                        have ga := HM.out.M.O p hpi
                        have gr := (HM.out.M.R p hpi).cell v hv
                        unfold encI at gr
                        have dvx : decide ((v : Int) ≠ (s : Int)) = true := decide_eq_true (by omega)
                        have dvb : ((v : Int) != (s : Int)) = true := bne_iff_ne.mpr (by omega)
                        have pz : (p : Int) < (i : Int) := by omega
                        have xz : (v : Int) < (i : Int) := by omega
                        clear hp hF9
                        go_wp2_with fail
                        go_roundg g2
                        case measure => omega
                        case rel => exact ⟨_, p, by go_num, by go_num, hpi, ⟨by have := HG2.out; omega, HL.out⟩, HM⟩
                      · rw [if_neg hF9] at hm
                        exact absurd hm (by simp)
end Go.Proofs.Ytnbdfmdjedakcaa
