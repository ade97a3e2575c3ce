/- The reference's atLeast: the walk. No conditions. -/
import Derived.Test.YtnbdfmdjedakcaaH36
import Derived.Test.YtnbdfmdjedakcaaH39
import Derived.Test.YtnbdfmdjedakcaaQ28
namespace Go.Proofs.Ytnbdfmdjedakcaa
open Go.RowKit Go.Proofs.YtnbdfmdjedakcaaW.PrintWords Go.Proofs.YtnbdfmdjedakcaaW.PrintLast Go.Proofs.YtnbdfmdjedakcaaW.PrintMore PP
set_option linter.unusedVariables false
set_option linter.unusedSimpArgs false
theorem rule28 : RuleB 28 belowG := fun W x y => kimberliteref02_Below.calls x.f0 x.f1 x.f2 y.f0 y.f1 y.f2 _ W (show kimberliteref02_Below.f x.f0 x.f1 x.f2 y.f0 y.f1 y.f2 = some (belowG x y) from below_f x y)
/-- The reference's network. -/
def hIn (l : List S38) (i : Nat) (c : Nat → Nat → Int) : Nat → Nat → Nat → Int
  | 0 => c
  | k + 1 => if i ≠ k ∧ belowG (qAt l i).f0 (qAt l k).f0 = true then put2' (hIn l i c k) i k 1099511627776 else hIn l i c k
def hFirst (l : List S38) (v : Int) (i : Nat) (c : Nat → Nat → Int) : Nat → Nat → Int := if (qAt l i).f1 ≥ v then put2' c l.length i (qAt l i).f2 else put2' c i (l.length + 1) (qAt l i).f2
def hOut (l : List S38) (v : Int) : Nat → Nat → Nat → Int
  | 0 => fun _ _ => 0
  | i + 1 => hIn l i (hFirst l v i (hOut l v i)) l.length
def encS (N : Nat) (b : Nat) : Value := .slice (some ⟨b, 0, none⟩) N N
abbrev dS (N : Nat) : Kd Nat := Kd.scalar (encS N) (fun _ => rfl)
theorem info28 : (Try.prog.info? 28).map (fun i => (i.zero, i.size, i.bytes)) = some (some (.slice none 0 0), 1, 24) := by kernel_rfl
/-- Rows that are being made. -/
structure BuB (w0 : World) (N i : Nat) (v : Value) (bs : List Nat) (w : World) : Prop where
  B : Below w0.heap.size w0 w
  len : bs.length = i
  V : Kd.R (dS N) 28 w w0.heap.size (fun _ => True) v bs
  R : ∀ j, j < i → VBlk encI 3 w (bs.getD j 0) N (fun _ => 0)
  l : ∀ j, j < i → w0.heap.size ≤ bs.getD j 0
  inj : ∀ j k, j < i → k < i → bs.getD j 0 = bs.getD k 0 → j = k
section
variable {w0 w w' : World} {N i : Nat} {v : Value} {bs : List Nat}
theorem VBlk.typ {w : World} {b n : Nat} {f : Nat → Int} (h : VBlk encI 3 w b n f) {C : Array Value} (h1 : w.heap[b]? = some (.cells C 28 (0, 0))) : False := by
  obtain ⟨C2, h2, _⟩ := h
  rw [h1] at h2
  have := Option.some.inj h2
  injection this with _ h3 _
  exact absurd h3 (by decide)
theorem BuB.below (h : BuB w0 N i v bs w) (hb : Below w.heap.size w w') : BuB w0 N i v bs w' :=
  ⟨h.B.trans (hb.mono h.B.size), h.len, Kd.R_below h.V hb, fun j hj => (h.R j hj).of_heap (hb.block _ (h.R j hj).lt), h.l, h.inj⟩
theorem BuB.more (h : BuB w0 N i v bs w) {v1 : Value} {w1 : World} (hV : Kd.R (dS N) 28 w1 w0.heap.size (fun _ => True) v1 (bs ++ [w.heap.size])) (hB : Below w0.heap.size w0 w1)
    (hg : (w.alloc (.cells (madeCells #[Value.int .i64 0] N) 3)).grownBy w1 v.ownBlock) : BuB w0 N (i + 1) v1 (bs ++ [w.heap.size]) w1 := by
  have hb := (Below.refl w.heap.size w).alloc (Nat.le_refl _) (.cells (madeCells #[Value.int .i64 0] N) 3)
  have g1 : ∀ j, j < i → (bs ++ [w.heap.size]).getD j 0 = bs.getD j 0 := fun j hj => by
    rw [List.getD_eq_getElem?_getD, List.getElem?_append_left (by rw [h.len]; exact hj), ← List.getD_eq_getElem?_getD]
  have g2 : (bs ++ [w.heap.size]).getD i 0 = w.heap.size := by
    rw [List.getD_eq_getElem?_getD, List.getElem?_append_right (by rw [h.len]; exact Nat.le_refl _), h.len, Nat.sub_self]; rfl
  have nov : ∀ {b : Nat} {f : Nat → Int}, VBlk encI 3 (w.alloc (.cells (madeCells #[Value.int .i64 0] N) 3)) b N f → VBlk encI 3 w1 b N f := fun {b f} hh => by
    refine hh.of_heap (hg.block b hh.lt fun e => ?_)
    obtain ⟨C, hC⟩ := Kd.R_typed (Kd.R_below h.V hb) b e.symm
    exact hh.typ hC
  refine ⟨hB, by rw [List.length_append, h.len]; rfl, hV, fun j hj => ?_, fun j hj => ?_, fun j k hj hk e => ?_⟩
  · by_cases e : j < i
    · rw [g1 j e]; exact nov ((h.R j e).of_heap (hb.block _ (h.R j e).lt))
    · have e2 : j = i := by omega
      rw [e2, g2]; exact nov (VBlk.made (enc := encI) (z := 0) (blk_new w _))
  · by_cases e : j < i
    · rw [g1 j e]; exact h.l j e
    · have e2 : j = i := by omega
      rw [e2, g2]; exact h.B.size
  · by_cases e1 : j < i
    · by_cases e2 : k < i
      · rw [g1 j e1, g1 k e2] at e; exact h.inj j k e1 e2 e
      · have e3 : k = i := by omega
        rw [g1 j e1, e3, g2] at e
        have := (h.R j e1).lt
        omega
    · have e3 : j = i := by omega
      by_cases e2 : k < i
      · rw [g1 k e2, e3, g2] at e
        have := (h.R k e2).lt
        omega
      · omega
theorem BuB.done (h : BuB w0 N N v bs w) (hN : 0 < N) : ∃ g cap, v = .slice (some ⟨g, 0, none⟩) N cap ∧ RmB w0 w0.heap.size g N (fun u => bs.getD u 0) w (fun _ _ => 0) := by
  obtain ⟨g0, cap0, e8, _⟩ := Kd.R_form h.V (by rw [h.len]; exact hN)
  subst e8
  have ho := Kd.own_of_R h.V
  rcases ho.2 with ⟨e0, _⟩ | ⟨g, cap, cur, e1, hbg, hg, h2, h3, h4, h5⟩
  · cases e0
  · refine ⟨g, cap, by rw [e1, h.len], ⟨h.B, h.B.size, fun u hu => ?_, (Array.getElem?_eq_some_iff.1 hg).1, h.R, h.l, fun u hu e => ?_, h.inj⟩⟩
    · rw [cell_of w g u cur _ _ hg]
      have h6 : (cur.toList.take (bs.length * 1))[u]? = (encs (encS N) bs)[u]? := by rw [h5]
      rw [List.getElem?_take_of_lt (by rw [h.len]; omega), Array.getElem?_toList] at h6
      rw [h6]
      have h7 : bs[u]? = some (bs.getD u 0) := by
        rw [List.getElem?_eq_getElem (by rw [h.len]; exact hu)]
        simp [List.getD, List.getElem?_eq_getElem (show u < bs.length by rw [h.len]; exact hu)]
      have h8 : encs (encS N) bs = bs.map (encS N) := by simp only [encs]
      rw [h8, List.getElem?_map, h7]; rfl
    · have := h.R u hu
      rw [e] at this
      exact this.typ hg
end
theorem fullR_step {N s t f : Nat} {r r2 : Nat → Nat → Int} (h : fullR N s t (f + 1) r = some r2) : ∃ m r', pushR N s t r = some (m, r') ∧ ((m > 0 ∧ fullR N s t f r' = some r2) ∨ (¬ m > 0 ∧ r' = r2)) := by
  rw [fullR] at h
  cases e : pushR N s t r with
  | none => rw [e] at h; exact absurd h (by simp)
  | some q =>
    obtain ⟨m, r'⟩ := q
    rw [e] at h
    simp only at h
    by_cases hm : m > 0
    · rw [if_pos hm] at h; exact ⟨m, r', rfl, .inl ⟨hm, h⟩⟩
    · rw [if_neg hm] at h; exact ⟨m, r', rfl, .inr ⟨hm, Option.some.inj h⟩⟩
structure SeenB (w0 : World) (lo ob N : Nat) (rk : Nat → Nat) (sb : Nat) (w : World) (r : Nat → Nat → Int) (S : Nat → Bool) : Prop where
  M : RmB w0 lo ob N rk w r
  K : VBlk encB 4 w sb N S
  b0 : lo ≤ sb
  bo : sb ≠ ob
  br : ∀ u, u < N → sb ≠ rk u
section
variable {w0 w w' : World} {lo ob N sb : Nat} {rk : Nat → Nat} {r : Nat → Nat → Int} {S : Nat → Bool}
theorem SeenB.set (h : SeenB w0 lo ob N rk sb w r S) (k : Nat) (hk : k < N) (x : Bool) : SeenB w0 lo ob N rk sb (w.setCell ⟨sb, k, none⟩ (.bool x)) r (upd S k x) :=
  ⟨h.M.other h.b0 h.bo h.br _ _, h.K.set k hk x, h.b0, h.bo, h.br⟩
theorem SeenB.start (h : RmB w0 lo ob N rk w r) : SeenB w0 lo ob N rk w.heap.size (w.alloc (.cells (madeCells #[Value.bool false] N) 4)) r (fun _ => false) := by
  have hb := (Below.refl w.heap.size w).alloc (Nat.le_refl _) (.cells (madeCells #[Value.bool false] N) 4)
  have a1 := h.o
  exact ⟨h.below hb, VBlk.made (enc := encB) (z := false) (blk_new w _), h.s, by omega, fun u hu => by have := (h.R u hu).lt; omega⟩
theorem SeenB.own (h : SeenB w0 lo ob N rk sb w r S) (hn : N ≤ 1000000) : Kd.R (Kd.scalar Value.bool (fun _ => rfl)) 4 w lo (fun _ => True) (.slice (some ⟨sb, 0, none⟩) N N) ((List.range N).map S) := by
  obtain ⟨C, hC, hs, hf⟩ := h.K
  have hlen : ((List.range N).map S).length = N := by simp
  refine Kd.R_of_own (enc := Value.bool) ⟨?_, .inr ⟨sb, N, C, ?_, h.b0, hC, ?_, ?_, ?_, ?_⟩⟩ (fun _ _ => trivial)
  · rw [encs_length, Nat.mul_one]
  · rw [hlen]
  · rw [hlen]; exact Nat.le_refl _
  · unfold maxLen; omega
  · omega
  · rw [hlen, Nat.mul_one, List.take_of_length_le (by simp [hs])]
    refine List.ext_getElem? fun j => ?_
    by_cases hj : j < N
    · rw [Array.getElem?_toList, hf j hj]
      simp [encs, encB, hj]
    · rw [List.getElem?_eq_none (by simp [hs]; omega), List.getElem?_eq_none (by simp [encs]; omega)]
end
set_option maxRecDepth 100000 in
set_option maxHeartbeats 8000000 in
theorem atLeast_any (w : World) (A : Option Addr) (c : Nat) (l : List S38) (hC : Kd.C k38 w A l.length l) (hl : l.length ≤ 100) (z : Int) (f : Nat) (r2 : Nat → Nat → Int) (hF : fullR (l.length + 2) l.length (l.length + 1) f (hOut l z l.length) = some r2)
    (f2 : Nat) (S : Nat → Bool) (hS : snN (l.length + 2) r2 f2 (upd (fun _ => false) l.length true) = some S) :
    Calls Try.prog 97 #[.slice A l.length c, .int .i64 z] w fun e w' => ∃ v, e = .returned v ∧ Kd.R (Kd.scalar Value.bool (fun _ => rfl)) 4 w' w.heap.size (fun _ => True) v ((List.range (l.length + 2)).map S) ∧ Below w.heap.size w w' := by
  obtain ⟨N, hN⟩ : ∃ N, l.length + 2 = N := ⟨_, rfl⟩
  have m1 := mkI N (by omega)
  have m2 := mkB N (by omega)
  have hNz : (l.length : Int) + 2 = (N : Int) := by omega
  rw [hN] at hF hS ⊢
  have HC := Hd.mk (fun W (hb : Below w.heap.size w W) => Kd.C_below hC hb)
  have HF := Hd.mk hF
  have HS := Hd.mk hS
  have hu38 := Try.underlying38
  have hu36 := Try.underlying36
  have HB0 := Hd.mk (show BuB w N 0 (.slice none 0 0) [] w from ⟨Below.refl _ _, rfl, Kd.R_nil _ _ _ _ _, fun j hj => by omega, fun j hj => by omega, fun j k hj => by omega⟩)
  clear hC hF hS
  go_enter Try.func97, Try.ntmps97
  go_wp2_with fail
  go_loopg [6, 7] N (fun gg v6 v7 wr => ∃ (i : Nat) (bs : List Nat), v7 = .int .i64 i ∧ i ≤ N ∧ N - i ≤ gg ∧ Hd (BuB w N i v6 bs wr))
  case atStart => exact ⟨0, _, rfl, Nat.zero_le _, by omega, HB0⟩
  case round =>
    clear HB0
    obtain ⟨i, bs, rfl, hi, hg, HB⟩ := hrel
    by_cases hlt : i < N
    · have hltz : (i : Int) < (l.length : Int) + 2 := by omega
      have HL := Hd.mk HB.out.len
      go_wp2_with ((with_reducible refine gate_builtin (b := .append) (xs := #[.tmp 22, .tmp 26]) rfl ?_); at_builtin; refine Kd.R_append (dS N) (w0 := w) w.heap.size rfl (.tmp 22) (.tmp 26) 121 28 (.slice none 0 0) 24 rfl Try.underlying121 info28 rfl (show 0 < 1 by decide) (by omega) _ _ wr.heap.size [encS N wr.heap.size] (fun _ => True) (fun _ => False) rfl ?aX ?aP (fun _ hk => hk.elim) (fun _ _ => trivial) (HB.out.below ((Below.refl wr.heap.size wr).alloc (Nat.le_refl _) (.cells (madeCells #[Value.int .i64 0] N) 3))).V (HB.out.below ((Below.refl wr.heap.size wr).alloc (Nat.le_refl _) (.cells (madeCells #[Value.int .i64 0] N) 3))).B (HB.out.below ((Below.refl wr.heap.size wr).alloc (Nat.le_refl _) (.cells (madeCells #[Value.int .i64 0] N) 3))).B.size ?aL ?_; (case aX => first | rfl | (simp; rfl)); (case aP => exact rfl); (case aL => rw [HL.out]; omega); intro v8 w8 ho hb hg2 hat; have HB8 := Hd.mk (HB.out.more ho hb hg2); clear ho hb hg2 hat)
      go_roundg (N - (i + 1))
      case measure => omega
      case rel => exact ⟨i + 1, _, by go_num, by omega, by omega, HB8⟩
    · have hltz : ¬ (i : Int) < (l.length : Int) + 2 := by omega
      obtain rfl : N = i := by omega
      obtain ⟨g, cap, rfl, hM⟩ := HB.out.done (by omega)
      have HM := Hd.mk hM
      clear hM HB hltz
      generalize (fun u => bs.getD u 0) = rk at HM
      go_wp2_with fail
      have HM : Hd (RmB w w.heap.size g N rk wr (hOut l z 0)) := HM
      go_loopg [8] l.length (fun gg v8 wr => ∃ (i : Nat), v8 = .int .i64 i ∧ i ≤ l.length ∧ l.length - i ≤ gg ∧ Hd (RmB w w.heap.size g N rk wr (hOut l z i)))
      case atStart => exact ⟨0, rfl, Nat.zero_le _, by omega, HM⟩
      case round =>
        clear HM
        obtain ⟨i, rfl, hi, hg, HM⟩ := hrel
        by_cases hlt : i < l.length
        · have hltz : (i : Int) < (l.length : Int) := by omega
          have hiN : (i : Int) < (N : Int) := by omega
          have hnN : (l.length : Int) < (N : Int) := by omega
          have hn1N : (l.length : Int) + 1 < (N : Int) := by omega
          obtain ⟨ad, rfl, c0, c1, c2, c3, c4⟩ := at_T38 (HC.out _ HM.out.B) (i : Int) (by omega) (by omega)
          rw [Int.toNat_natCast] at c0 c1 c2 c3 c4
          have hq : rd_T38 l (i : Int) = qAt l i := rfl
          rw [hq] at c0 c1 c2 c3 c4
          clear hq
          obtain ⟨q, hq⟩ : ∃ q, qAt l i = q := ⟨_, rfl⟩
          have HQ := Hd.mk hq
          rw [hq] at c0 c1 c2 c3 c4
          clear hq
          by_cases hp : q.f1 ≥ z
          · have d1 : decide (q.f1 ≥ z) = true := decide_eq_true hp
            have ga := HM.out.O l.length (by omega)
            have gr := (HM.out.R l.length (by omega)).cell i (by omega)
            unfold encI at gr
            have fr := (HM.out.R l.length (by omega)).frozen i
            go_wp2_with fail
            go_region
            have hgf : hFirst l z i (hOut l z i) = put2' (hOut l z i) l.length i q.f2 := by unfold hFirst; rw [HQ.out, if_pos (by omega)]
            have HM2 := Hd.mk (show RmB w w.heap.size g N rk (wr.setCell ⟨rk l.length, i, none⟩ (.int .i64 q.f2)).drew (hIn l i (hFirst l z i (hOut l z i)) 0) from by rw [hIn, hgf]; exact (HM.out.set l.length i (by omega) (by omega) q.f2).drewN 1)
            clear HM ga gr fr c0 c1 c2 c3 c4 hgf d1 hp
            generalize (wr.setCell ⟨rk l.length, i, none⟩ (.int .i64 q.f2)).drew = w3 at HM2 ⊢
            go_wp2_with fail
            go_loopg [9] l.length (fun gg v9 wr => ∃ (k : Nat), v9 = .int .i64 k ∧ k ≤ l.length ∧ l.length - k ≤ gg ∧ Hd (RmB w w.heap.size g N rk wr (hIn l i (hFirst l z i (hOut l z i)) k)))
            case atStart => exact ⟨0, rfl, Nat.zero_le _, by omega, HM2⟩
            case round =>
              clear HM2
              obtain ⟨k, rfl, hk, hgk, HM⟩ := hrel
              by_cases hlk : k < l.length
              · have hlkz : (k : Int) < (l.length : Int) := by omega
                have hst : hIn l i (hFirst l z i (hOut l z i)) (k + 1) = if i ≠ k ∧ belowG (qAt l i).f0 (qAt l k).f0 = true then put2' (hIn l i (hFirst l z i (hOut l z i)) k) i k 1099511627776 else hIn l i (hFirst l z i (hOut l z i)) k := rfl
                rw [HQ.out] at hst
                by_cases hik : i = k
                · subst hik
                  have HS9 := Hd.mk (hst.trans (if_neg (fun hh => hh.1 rfl)))
                  clear hst
                  go_wp2_with fail
                  go_region
                  have HM3 := Hd.mk (HM.out.drewN 1)
                  go_wp2_with fail
                  go_roundg (l.length - (i + 1))
                  case measure => omega
                  case rel => exact ⟨i + 1, by go_num, by omega, by omega, ⟨by rw [HS9.out]; exact HM3.out⟩⟩
                · obtain ⟨ad2, had, c0, c1, c2, _, _⟩ := at_T38 (HC.out _ HM.out.B) (i : Int) (by omega) (by omega)
                  injection had with had
                  subst had
                  obtain ⟨ad2, had, b0, b1, b2, _, _⟩ := at_T38 (HC.out _ HM.out.B) (k : Int) (by omega) (by omega)
                  injection had with had
                  subst had
                  rw [Int.toNat_natCast] at c0 c1 c2 b0 b1 b2
                  rw [show rd_T38 l (i : Int) = qAt l i from rfl, HQ.out] at c0 c1 c2
                  obtain ⟨o, ho⟩ : ∃ o, qAt l k = o := ⟨_, rfl⟩
                  rw [show rd_T38 l (k : Int) = qAt l k from rfl, ho] at b0 b1 b2
                  rw [ho] at hst
                  have HO := Hd.mk ho
                  clear ho
                  have d3 : decide ((i : Int) ≠ (k : Int)) = true := decide_eq_true (by omega)
                  have d4 : ((i : Int) != (k : Int)) = true := bne_iff_ne.mpr (by omega)
                  have HBE := Hd.mk (fun W => rule28 W q.f0 o.f0)
                  have HM' := HM
                  cases hbe : belowG q.f0 o.f0 with
                  | false =>
                    have HS9 := Hd.mk (hst.trans (if_neg (fun hh => by rw [hbe] at hh; exact absurd hh.2 (by decide))))
                    rw [hbe] at HBE
                    clear hst hbe
                    go_wp2_with fail
                    go_region_held3 (fun w' => w'.cell? (ad.add (i * 5)) = some (.int .i64 q.f0.f0) ∧ w'.cell? ⟨(ad.add (i * 5)).block, (ad.add (i * 5)).off + 1, none⟩ = some (.int .i64 q.f0.f1) ∧ w'.cell? ⟨(ad.add (i * 5)).block, (ad.add (i * 5)).off + 2, none⟩ = some (.int .i64 q.f0.f2) ∧ w'.cell? (ad.add (k * 5)) = some (.int .i64 o.f0.f0) ∧ w'.cell? ⟨(ad.add (k * 5)).block, (ad.add (k * 5)).off + 1, none⟩ = some (.int .i64 o.f0.f1) ∧ w'.cell? ⟨(ad.add (k * 5)).block, (ad.add (k * 5)).off + 2, none⟩ = some (.int .i64 o.f0.f2)) (first | exact ⟨c0, c1, c2, b0, b1, b2⟩ | exact ⟨cell_bel hb c0, cell_bel hb c1, cell_bel hb c2, cell_bel hb b0, cell_bel hb b1, cell_bel hb b2⟩) ((go_at_call 28; refine (HBE.out _).mono ?_; rintro e w5 ⟨rfl, hb⟩))
                    have HM5 := Hd.mk ((HM.out.drewN 1).below hb)
                    clear HM HM' hb c0 c1 c2 b0 b1 b2
                    go_wp2_with fail
                    go_roundg (l.length - (k + 1))
                    case measure => omega
                    case rel => exact ⟨k + 1, by go_num, by omega, by omega, ⟨by rw [HS9.out]; exact HM5.out⟩⟩
                  | true =>
                    have HS9 := Hd.mk (hst.trans (if_pos ⟨hik, hbe⟩))
                    rw [hbe] at HBE
                    clear hst hbe
                    go_wp2_with fail
                    go_region_held3 (fun w' => w'.cell? (ad.add (i * 5)) = some (.int .i64 q.f0.f0) ∧ w'.cell? ⟨(ad.add (i * 5)).block, (ad.add (i * 5)).off + 1, none⟩ = some (.int .i64 q.f0.f1) ∧ w'.cell? ⟨(ad.add (i * 5)).block, (ad.add (i * 5)).off + 2, none⟩ = some (.int .i64 q.f0.f2) ∧ w'.cell? (ad.add (k * 5)) = some (.int .i64 o.f0.f0) ∧ w'.cell? ⟨(ad.add (k * 5)).block, (ad.add (k * 5)).off + 1, none⟩ = some (.int .i64 o.f0.f1) ∧ w'.cell? ⟨(ad.add (k * 5)).block, (ad.add (k * 5)).off + 2, none⟩ = some (.int .i64 o.f0.f2)) (first | exact ⟨c0, c1, c2, b0, b1, b2⟩ | exact ⟨cell_bel hb c0, cell_bel hb c1, cell_bel hb c2, cell_bel hb b0, cell_bel hb b1, cell_bel hb b2⟩) ((go_at_call 28; refine (HBE.out _).mono ?_; rintro e w5 ⟨rfl, hb⟩))
                    have HM5 := Hd.mk ((HM.out.drewN 1).below hb)
                    clear HM HM' hb c0 c1 c2 b0 b1 b2
                    have ga := HM5.out.O i (by omega)
                    have gr := (HM5.out.R i (by omega)).cell k (by omega)
                    unfold encI at gr
                    have fr := (HM5.out.R i (by omega)).frozen k
                    have kN : (k : Int) < (N : Int) := by omega
                    have HM6 := Hd.mk (HM5.out.set i k (by omega) (by omega) 1099511627776)
                    go_wp2_with fail
                    go_roundg (l.length - (k + 1))
                    case measure => omega
                    case rel => exact ⟨k + 1, by go_num, by omega, by omega, ⟨by rw [HS9.out]; exact HM6.out⟩⟩
              · have hlkz : ¬ (k : Int) < (l.length : Int) := by omega
                obtain rfl : k = l.length := by omega
                have HM6 := HM
                clear HM
                go_wp2_with fail
                go_roundg (l.length - (i + 1))
                case measure => omega
                case rel => exact ⟨i + 1, by go_num, by omega, by omega, ⟨by rw [hOut]; exact HM6.out⟩⟩
          · have d1 : decide (q.f1 ≥ z) = false := decide_eq_false hp
            have ga := HM.out.O i (by omega)
            have gr := (HM.out.R i (by omega)).cell (l.length + 1) (by omega)
            unfold encI at gr
            have fr := (HM.out.R i (by omega)).frozen (l.length + 1)
            go_wp2_with fail
            go_region
            have hgf : hFirst l z i (hOut l z i) = put2' (hOut l z i) i (l.length + 1) q.f2 := by unfold hFirst; rw [HQ.out, if_neg (by omega)]
            have HM2 := Hd.mk (show RmB w w.heap.size g N rk (wr.setCell ⟨rk i, l.length + 1, none⟩ (.int .i64 q.f2)).drew (hIn l i (hFirst l z i (hOut l z i)) 0) from by rw [hIn, hgf]; exact (HM.out.set i (l.length + 1) (by omega) (by omega) q.f2).drewN 1)
            clear HM ga gr fr c0 c1 c2 c3 c4 hgf d1 hp
            generalize (wr.setCell ⟨rk i, l.length + 1, none⟩ (.int .i64 q.f2)).drew = w3 at HM2 ⊢
            go_wp2_with fail
            go_loopg [9] l.length (fun gg v9 wr => ∃ (k : Nat), v9 = .int .i64 k ∧ k ≤ l.length ∧ l.length - k ≤ gg ∧ Hd (RmB w w.heap.size g N rk wr (hIn l i (hFirst l z i (hOut l z i)) k)))
            case atStart => exact ⟨0, rfl, Nat.zero_le _, by omega, HM2⟩
            case round =>
              clear HM2
              obtain ⟨k, rfl, hk, hgk, HM⟩ := hrel
              by_cases hlk : k < l.length
              · have hlkz : (k : Int) < (l.length : Int) := by omega
                have hst : hIn l i (hFirst l z i (hOut l z i)) (k + 1) = if i ≠ k ∧ belowG (qAt l i).f0 (qAt l k).f0 = true then put2' (hIn l i (hFirst l z i (hOut l z i)) k) i k 1099511627776 else hIn l i (hFirst l z i (hOut l z i)) k := rfl
                rw [HQ.out] at hst
                by_cases hik : i = k
                · subst hik
                  have HS9 := Hd.mk (hst.trans (if_neg (fun hh => hh.1 rfl)))
                  clear hst
                  go_wp2_with fail
                  go_region
                  have HM3 := Hd.mk (HM.out.drewN 1)
                  go_wp2_with fail
                  go_roundg (l.length - (i + 1))
                  case measure => omega
                  case rel => exact ⟨i + 1, by go_num, by omega, by omega, ⟨by rw [HS9.out]; exact HM3.out⟩⟩
                · obtain ⟨ad2, had, c0, c1, c2, _, _⟩ := at_T38 (HC.out _ HM.out.B) (i : Int) (by omega) (by omega)
                  injection had with had
                  subst had
                  obtain ⟨ad2, had, b0, b1, b2, _, _⟩ := at_T38 (HC.out _ HM.out.B) (k : Int) (by omega) (by omega)
                  injection had with had
                  subst had
                  rw [Int.toNat_natCast] at c0 c1 c2 b0 b1 b2
                  rw [show rd_T38 l (i : Int) = qAt l i from rfl, HQ.out] at c0 c1 c2
                  obtain ⟨o, ho⟩ : ∃ o, qAt l k = o := ⟨_, rfl⟩
                  rw [show rd_T38 l (k : Int) = qAt l k from rfl, ho] at b0 b1 b2
                  rw [ho] at hst
                  have HO := Hd.mk ho
                  clear ho
                  have d3 : decide ((i : Int) ≠ (k : Int)) = true := decide_eq_true (by omega)
                  have d4 : ((i : Int) != (k : Int)) = true := bne_iff_ne.mpr (by omega)
                  have HBE := Hd.mk (fun W => rule28 W q.f0 o.f0)
                  have HM' := HM
                  cases hbe : belowG q.f0 o.f0 with
                  | false =>
                    have HS9 := Hd.mk (hst.trans (if_neg (fun hh => by rw [hbe] at hh; exact absurd hh.2 (by decide))))
                    rw [hbe] at HBE
                    clear hst hbe
                    go_wp2_with fail
                    go_region_held3 (fun w' => w'.cell? (ad.add (i * 5)) = some (.int .i64 q.f0.f0) ∧ w'.cell? ⟨(ad.add (i * 5)).block, (ad.add (i * 5)).off + 1, none⟩ = some (.int .i64 q.f0.f1) ∧ w'.cell? ⟨(ad.add (i * 5)).block, (ad.add (i * 5)).off + 2, none⟩ = some (.int .i64 q.f0.f2) ∧ w'.cell? (ad.add (k * 5)) = some (.int .i64 o.f0.f0) ∧ w'.cell? ⟨(ad.add (k * 5)).block, (ad.add (k * 5)).off + 1, none⟩ = some (.int .i64 o.f0.f1) ∧ w'.cell? ⟨(ad.add (k * 5)).block, (ad.add (k * 5)).off + 2, none⟩ = some (.int .i64 o.f0.f2)) (first | exact ⟨c0, c1, c2, b0, b1, b2⟩ | exact ⟨cell_bel hb c0, cell_bel hb c1, cell_bel hb c2, cell_bel hb b0, cell_bel hb b1, cell_bel hb b2⟩) ((go_at_call 28; refine (HBE.out _).mono ?_; rintro e w5 ⟨rfl, hb⟩))
                    have HM5 := Hd.mk ((HM.out.drewN 1).below hb)
                    clear HM HM' hb c0 c1 c2 b0 b1 b2
                    go_wp2_with fail
                    go_roundg (l.length - (k + 1))
                    case measure => omega
                    case rel => exact ⟨k + 1, by go_num, by omega, by omega, ⟨by rw [HS9.out]; exact HM5.out⟩⟩
                  | true =>
                    have HS9 := Hd.mk (hst.trans (if_pos ⟨hik, hbe⟩))
                    rw [hbe] at HBE
                    clear hst hbe
                    go_wp2_with fail
                    go_region_held3 (fun w' => w'.cell? (ad.add (i * 5)) = some (.int .i64 q.f0.f0) ∧ w'.cell? ⟨(ad.add (i * 5)).block, (ad.add (i * 5)).off + 1, none⟩ = some (.int .i64 q.f0.f1) ∧ w'.cell? ⟨(ad.add (i * 5)).block, (ad.add (i * 5)).off + 2, none⟩ = some (.int .i64 q.f0.f2) ∧ w'.cell? (ad.add (k * 5)) = some (.int .i64 o.f0.f0) ∧ w'.cell? ⟨(ad.add (k * 5)).block, (ad.add (k * 5)).off + 1, none⟩ = some (.int .i64 o.f0.f1) ∧ w'.cell? ⟨(ad.add (k * 5)).block, (ad.add (k * 5)).off + 2, none⟩ = some (.int .i64 o.f0.f2)) (first | exact ⟨c0, c1, c2, b0, b1, b2⟩ | exact ⟨cell_bel hb c0, cell_bel hb c1, cell_bel hb c2, cell_bel hb b0, cell_bel hb b1, cell_bel hb b2⟩) ((go_at_call 28; refine (HBE.out _).mono ?_; rintro e w5 ⟨rfl, hb⟩))
                    have HM5 := Hd.mk ((HM.out.drewN 1).below hb)
                    clear HM HM' hb c0 c1 c2 b0 b1 b2
                    have ga := HM5.out.O i (by omega)
                    have gr := (HM5.out.R i (by omega)).cell k (by omega)
                    unfold encI at gr
                    have fr := (HM5.out.R i (by omega)).frozen k
                    have kN : (k : Int) < (N : Int) := by omega
                    have HM6 := Hd.mk (HM5.out.set i k (by omega) (by omega) 1099511627776)
                    go_wp2_with fail
                    go_roundg (l.length - (k + 1))
                    case measure => omega
                    case rel => exact ⟨k + 1, by go_num, by omega, by omega, ⟨by rw [HS9.out]; exact HM6.out⟩⟩
              · have hlkz : ¬ (k : Int) < (l.length : Int) := by omega
                obtain rfl : k = l.length := by omega
                have HM6 := HM
                clear HM
                go_wp2_with fail
                go_roundg (l.length - (i + 1))
                case measure => omega
                case rel => exact ⟨i + 1, by go_num, by omega, by omega, ⟨by rw [hOut]; exact HM6.out⟩⟩
        · have hltz : ¬ (i : Int) < (l.length : Int) := by omega
          obtain rfl : i = l.length := by omega
          go_wp2_with fail
          go_loopg [94] f (fun gg v94 wr => ∃ (r1 : Nat → Nat → Int), Hd (gg ≤ f ∧ fullR N l.length (l.length + 1) gg r1 = some r2) ∧ Hd (RmB w w.heap.size g N rk wr r1))
          case atStart => exact ⟨_, ⟨Nat.le_refl _, HF.out⟩, HM⟩
          case round =>
            clear HM HF
            obtain ⟨r1, HF, HM⟩ := hrel
            cases gk with
            | zero => exact absurd HF.out.2 (by simp [fullR])
            | succ g1 =>
              have HG := Hd.mk HF.out.1
              obtain ⟨m, r', hp, hcs⟩ := fullR_step HF.out.2
              have HPu := Hd.mk (push_any w wr w.heap.size g cap N rk r1 r' l.length (l.length + 1) m (by omega) (by omega) (by omega) HM.out hp)
              rw [show ((l.length + 1 : Nat) : Int) = (l.length : Int) + 1 from by omega] at HPu
              have HCs := Hd.mk hcs
              clear hp hcs HF HM
              by_cases hm : m > 0
              · have d1 : decide (m > 0) = true := decide_eq_true hm
                obtain ⟨_, hF2⟩ | ⟨h9, _⟩ := HCs.out
                · have HF2 := Hd.mk hF2
                  clear hF2 HCs hm
                  go_wp2_with fail
                  refine HPu.out.mono ?_
                  rintro e w5 ⟨rfl, hM5⟩
                  have HM5 := Hd.mk hM5
                  clear hM5 HPu
                  go_wp2_with fail
                  go_roundg g1
                  case measure => omega
                  case rel => exact ⟨_, ⟨by have := HG.out; omega, HF2.out⟩, HM5⟩
                · exact absurd hm h9
              · have d1 : decide (m > 0) = false := decide_eq_false hm
                obtain ⟨h9, _⟩ | ⟨_, rfl⟩ := HCs.out
                · exact absurd h9 hm
                · clear HCs hm
                  go_wp2_with fail
                  refine HPu.out.mono ?_
                  rintro e w5 ⟨rfl, hM5⟩
                  have HM5 := Hd.mk hM5
                  clear hM5 HPu
                  have HS0 := Hd.mk (SeenB.start HM5.out)
                  have nN : (l.length : Int) < (N : Int) := by omega
                  have gs := HS0.out.K.cell l.length (by omega)
                  unfold encB at gs
                  have fs := HS0.out.K.frozen l.length
                  have HS1 := Hd.mk (HS0.out.set l.length (by omega) true)
                  clear HM5
                  go_wp2_with fail
                  clear gs fs HS0
                  rw [show ((w5.alloc (.cells (madeCells #[Value.bool false] N) 4)).setCell ⟨w5.heap.size, l.length, none⟩ (.bool true)) = w5.alloc (.cells ((madeCells #[Value.bool false] N).setIfInBounds l.length (.bool true)) 4) from by first | (go_simp; done) | rfl] at HS1
                  generalize w5.alloc (.cells ((madeCells #[Value.bool false] N).setIfInBounds l.length (.bool true)) 4) = w6 at HS1 ⊢
                  generalize w5.heap.size = sb at HS1 ⊢
                  go_loopg [11] f2 (fun gg v11 wr => ∃ (S1 : Nat → Bool) (b : Bool), v11 = .bool b ∧ Hd ((b = true ∧ snN N r' gg S1 = some S) ∨ (b = false ∧ S1 = S)) ∧ Hd (SeenB w w.heap.size g N rk sb wr r' S1))
                  case atStart => exact ⟨_, true, rfl, ⟨.inl ⟨rfl, HS.out⟩⟩, HS1⟩
                  case round =>
                    clear HS HS1
                    obtain ⟨S1, b, rfl, HS, HM⟩ := hrel
                    cases b with
                    | false =>
                      obtain ⟨h9, _⟩ | ⟨_, h8⟩ := HS.out
                      · exact absurd h9 (by decide)
                      · subst h8
                        have HV := Hd.mk (HM.out.own (by omega))
                        clear HS
                        go_wp2_with fail
                        go_ret
                        exact ⟨_, rfl, HV.out, HM.out.M.B⟩
                    | true =>
                      obtain ⟨_, h8⟩ | ⟨h9, _⟩ := HS.out
                      · cases gk with
                        | zero => exact absurd h8 (by simp [snN])
                        | succ g2 =>
                          have H8 := Hd.mk h8
                          clear h8 HS
                          go_wp2_with fail
                          go_loopg [11, 12] N (fun gg v11 v12 wr => ∃ i : Nat, v12 = .int .i64 i ∧ v11 = .bool (sn2 N r' (S1, false) i).2 ∧ i ≤ N ∧ N - i ≤ gg ∧ Hd (SeenB w w.heap.size g N rk sb wr r' (sn2 N r' (S1, false) i).1))
                          case atStart => exact ⟨0, rfl, rfl, Nat.zero_le _, by omega, HM⟩
                          case round =>
                            clear HM
                            obtain ⟨i, rfl, rfl, hi, hgi, HM⟩ := hrel
                            by_cases hlt : i < N
                            · have hltz : (i : Int) < (l.length : Int) + 2 := by omega
                              have hiN : (i : Int) < (N : Int) := by omega
                              go_wp2_with fail
                              go_loopg [11, 13] N (fun gg v11 v13 wr => ∃ k : Nat, v13 = .int .i64 k ∧ v11 = .bool (sn1 r' i (sn2 N r' (S1, false) i) k).2 ∧ k ≤ N ∧ N - k ≤ gg ∧ Hd (SeenB w w.heap.size g N rk sb wr r' (sn1 r' i (sn2 N r' (S1, false) i) k).1))
                              case atStart => exact ⟨0, rfl, rfl, Nat.zero_le _, by omega, HM⟩
                              case round =>
                                clear HM
                                obtain ⟨k, rfl, rfl, hk, hgk, HM⟩ := hrel
                                by_cases hlk : k < N
                                · have hlkz : (k : Int) < (l.length : Int) + 2 := by omega
                                  have hkN : (k : Int) < (N : Int) := by omega
                                  have hst : sn1 r' i (sn2 N r' (S1, false) i) (k + 1) = (if (sn1 r' i (sn2 N r' (S1, false) i) k).1 i = true ∧ (sn1 r' i (sn2 N r' (S1, false) i) k).1 k = false ∧ 0 < r' i k then (upd (sn1 r' i (sn2 N r' (S1, false) i) k).1 k true, true) else sn1 r' i (sn2 N r' (S1, false) i) k) := rfl
                                  obtain ⟨sq, hsq⟩ : ∃ sq, sn1 r' i (sn2 N r' (S1, false) i) k = sq := ⟨_, rfl⟩
                                  rw [hsq] at HM hst ⊢
                                  clear hsq
                                  have gi := HM.out.K.cell i hlt
                                  have gk := HM.out.K.cell k hlk
                                  unfold encB at gi gk
                                  have ga := HM.out.M.O i hlt
                                  have gr := (HM.out.M.R i hlt).cell k hlk
                                  unfold encI at gr
                                  cases hSi : sq.1 i with
                                  | false =>
                                    rw [if_neg (fun hh => by rw [hSi] at hh; exact absurd hh.1 (by decide))] at hst
                                    have HS9 := Hd.mk hst
                                    rw [hSi] at gi
                                    clear hst hSi
                                    go_wp2_with fail
                                    go_roundg (N - (k + 1))
                                    case measure => omega
                                    case rel => exact ⟨k + 1, by go_num, by rw [HS9.out], by omega, by omega, ⟨by rw [HS9.out]; exact HM.out⟩⟩
                                  | true =>
                                    rw [hSi] at gi
                                    cases hSk : sq.1 k with
                                    | true =>
                                      rw [if_neg (fun hh => by rw [hSk] at hh; exact absurd hh.2.1 (by decide))] at hst
                                      have HS9 := Hd.mk hst
                                      rw [hSk] at gk
                                      clear hst hSi hSk
                                      go_wp2_with fail
                                      go_roundg (N - (k + 1))
                                      case measure => omega
                                      case rel => exact ⟨k + 1, by go_num, by rw [HS9.out], by omega, by omega, ⟨by rw [HS9.out]; exact HM.out⟩⟩
                                    | false =>
                                      rw [hSk] at gk
                                      by_cases hr : 0 < r' i k
                                      · rw [if_pos ⟨hSi, hSk, hr⟩] at hst
                                        have HS9 := Hd.mk hst
                                        have d3 : decide (r' i k > 0) = true := decide_eq_true hr
                                        have fk := HM.out.K.frozen k
                                        have HM2 := Hd.mk (HM.out.set k hlk true)
                                        clear hst hSi hSk
                                        go_wp2_with fail
                                        go_roundg (N - (k + 1))
                                        case measure => omega
                                        case rel => exact ⟨k + 1, by go_num, by rw [HS9.out], by omega, by omega, ⟨by rw [HS9.out]; exact HM2.out⟩⟩
                                      · rw [if_neg (fun hh => hr hh.2.2)] at hst
                                        have HS9 := Hd.mk hst
                                        have d3 : decide (r' i k > 0) = false := decide_eq_false hr
                                        clear hst hSi hSk
                                        go_wp2_with fail
                                        go_roundg (N - (k + 1))
                                        case measure => omega
                                        case rel => exact ⟨k + 1, by go_num, by rw [HS9.out], by omega, by omega, ⟨by rw [HS9.out]; exact HM.out⟩⟩
                                · have hlkz : ¬ (k : Int) < (l.length : Int) + 2 := by omega
                                  obtain rfl : N = k := by omega
                                  have HM6 := HM
                                  clear HM
                                  go_wp2_with fail
                                  go_roundg (N - (i + 1))
                                  case measure => omega
                                  case rel => exact ⟨i + 1, by go_num, by rw [sn2], by omega, by omega, ⟨by rw [sn2]; exact HM6.out⟩⟩
                            · have hltz : ¬ (i : Int) < (l.length : Int) + 2 := by omega
                              obtain rfl : N = i := by omega
                              have HM6 := HM
                              clear HM
                              have h8 := H8.out
                              rw [snN] at h8
                              generalize sn2 N r' (S1, false) N = q at HM6 h8 ⊢
                              obtain ⟨q1, q2⟩ := q
                              simp only at h8 HM6 ⊢
                              have HR := Hd.mk (show (q2 = true ∧ snN N r' g2 q1 = some S) ∨ (q2 = false ∧ q1 = S) from by
                                cases q2 with
                                | true => exact .inl ⟨rfl, h8⟩
                                | false => exact .inr ⟨rfl, Option.some.inj h8⟩)
                              clear h8 H8
                              go_wp2_with fail
                              go_roundg g2
                              case measure => omega
                              case rel => exact ⟨q1, q2, rfl, HR, HM6⟩
                      · exact absurd h9 (by decide)
end Go.Proofs.Ytnbdfmdjedakcaa
