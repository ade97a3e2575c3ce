/- No conditions. -/
import Derived.Test.YtnbdfmdjedakcaaHC
import Derived.Test.YtnbdfmdjedakcaaU1
namespace Go.Proofs.Ytnbdfmdjedakcaa
open Go.RowKit Go.Proofs.YtnbdfmdjedakcaaW.PrintWords Go.Proofs.YtnbdfmdjedakcaaW.PrintLast Go.Proofs.YtnbdfmdjedakcaaW.PrintMore PP
attribute [local go_sem high] eqA36
set_option linter.unusedVariables false
set_option linter.unusedSimpArgs false
def chG (n : Nat) (N : Nat → Int) : Nat → Int → Int → (Nat → Int) → Option (Nat → Int)
 | 0, _, _, _ => none
 | f + 1, j, c, O => if j < 0 then some O else if j.toNat < n then chG n N f (N j.toNat) c (upd O j.toNat c) else none
def chA (n : Nat) (N L : Nat → Int) (F : Nat) : Nat → Option (Nat × (Nat → Int))
 | 0 => some (0, fun _ => 0)
 | k + 1 => match chA n N L F k with
  | none => none
  | some (c, O) => if 0 ≤ L k then some (c, O) else match chG n N F k c O with
   | none => none
   | some O' => some (c + 1, O')
theorem chA_le {n : Nat} {N L : Nat → Int} {F : Nat} : ∀ {k c : Nat} {O : Nat → Int}, chA n N L F k = some (c, O) → c ≤ k
 | 0, c, O, h => by
  have h9 := Option.some.inj h
  simp only [Prod.mk.injEq] at h9
  omega
 | k + 1, c, O, h => by
  rw [chA] at h
  cases hk : chA n N L F k with
  | none => rw [hk] at h; exact absurd h (by simp)
  | some q =>
   obtain ⟨c1, O1⟩ := q
   have ih := chA_le hk
   rw [hk] at h
   simp only at h
   by_cases h1 : 0 ≤ L k
   ·rw [if_pos h1] at h
    have h9 := Option.some.inj h
    simp only [Prod.mk.injEq] at h9
    omega
   ·rw [if_neg h1] at h
    cases hg : chG n N F k c1 O1 with
    | none => rw [hg] at h; exact absurd h (by simp)
    | some O2 =>
     rw [hg] at h
     have h9 := Option.some.inj h
     simp only [Prod.mk.injEq] at h9
     omega
theorem chA_prev {n : Nat} {N L : Nat → Int} {F m : Nat} : ∀ {k : Nat}, (∃ p, chA n N L F (k + m) = some p) → ∃ p, chA n N L F k = some p := by
 induction m with
 | zero => exact fun h => h
 | succ m ih =>
  intro k h
  obtain ⟨p, hp⟩ := h
  refine ih ?_
  rw [show k + (m + 1) = (k + m) + 1 by omega, chA] at hp
  cases hk : chA n N L F (k + m) with
  | none => rw [hk] at hp; exact absurd hp (by simp)
  | some q => exact ⟨q, rfl⟩
structure ChB (w0 : World) (ob : Nat) (A : Option Addr) (n c nb lb xb : Nat) (w : World) (N L O : Nat → Int) : Prop where
 K : LkO w0 ob A n c nb lb w N L
 X : VBlk encI 3 w xb n O
 x0 : w0.heap.size ≤ xb
 ox : ob ≠ xb
 nx : nb ≠ xb
 lx : lb ≠ xb
section
variable {w0 w w' : World} {ob n c nb lb xb : Nat} {A : Option Addr} {N L O : Nat → Int}
theorem ChB.below (h : ChB w0 ob A n c nb lb xb w N L O) (hb : Below w.heap.size w w') : ChB w0 ob A n c nb lb xb w' N L O :=
 ⟨h.K.below hb, h.X.of_heap (hb.block _ h.X.lt), h.x0, h.ox, h.nx, h.lx⟩
theorem ChB.setX (h : ChB w0 ob A n c nb lb xb w N L O) (j : Nat) (hj : j < n) (x : Int) : ChB w0 ob A n c nb lb xb (w.setCell ⟨xb, j, none⟩ (.int .i64 x)) N L (upd O j x) :=
 ⟨h.K.other h.x0 h.ox h.nx h.lx _ _, h.X.set j hj x, h.x0, h.ox, h.nx, h.lx⟩
theorem LkO.with1 (h : LkO w0 ob A n c nb lb w N L) : ChB w0 ob A n c nb lb w.heap.size (w.alloc (.cells (madeCells #[.int .i64 0] n) 3)) N L (fun _ => 0) := by
 have hb := (Below.refl _ w).alloc (Nat.le_refl _) (.cells (madeCells #[.int .i64 0] n) 3)
 have h1 := h.O.lt
 have h2 := h.N.lt
 have h3 := h.L.lt
 exact ⟨h.below hb, VBlk.made (enc := encI) (z := 0) (blk_new w _), h.B.size, by omega, by omega, by omega⟩
theorem ChB.own (h : ChB w0 ob A n c nb lb xb w N L O) (hn : n ≤ 1000000) : Kd.R qI 3 w w0.heap.size (fun _ => True) (.slice (some ⟨xb, 0, none⟩) n n) ((List.range n).map O) := by
 obtain ⟨C, hC, hs, hf⟩ := h.X
 have hlen : ((List.range n).map O).length = n := by simp
 refine Kd.R_of_own (enc := Value.int .i64) ⟨?_, .inr ⟨xb, n, C, ?_, h.x0, hC, ?_, ?_, ?_, ?_⟩⟩ (fun _ _ => trivial)
 ·rw [encs_length, Nat.mul_one]
 ·rw [hlen]
 ·rw [hlen]; exact Nat.le_refl _
 ·unfold maxLen; omega
 ·omega
 ·rw [hlen, Nat.mul_one, List.take_of_length_le (by simp [hs])]
  refine List.ext_getElem? fun j => ?_
  by_cases hj : j < n
  ·rw [Array.getElem?_toList, hf j hj]
   simp [encs, encI, hj]
  ·rw [List.getElem?_eq_none (by simp [hs]; omega), List.getElem?_eq_none (by simp [encs]; omega)]
end
set_option maxHeartbeats 2000000 in
theorem chains_ok (w : World) (A : Option Addr) (c : Nat) (l : List S36) (hC : Kd.C k36 w A l.length l) (h0 : lsF l 32 = 0) (hl : l.length ≤ 1000000) (F : Nat) (N L : Nat → Int) (hd : lkd l F l.length = some (N, L)) (F2 : Nat) (m : Nat) (O : Nat → Int) (h3 : chA l.length N L F2 l.length = some (m, O)) :
  Calls Try.prog 43 #[.slice A l.length c] w fun e w' => ∃ v, e = .returned (.tuple #[v, .int .i64 (m : Nat), .int .i64 0]) ∧ Kd.R qI 3 w' w.heap.size (fun _ => True) v ((List.range l.length).map O) ∧ Below w.heap.size w w' := by
 have m1 := mkI l.length (by omega)
 have HLS := Hd.mk (listed_any w A c l 32 hC 0 h0)
 have HLK := Hd.mk (fun W (hb : Below w.heap.size w W) => linked_any W A c l (Kd.C_below hC hb) (by omega) F N L hd)
 have H3 := Hd.mk h3
 clear hC h0 hd h3
 go_enter Try.func43, Try.ntmps43
 go_wp2_with fail
 refine HLS.out.mono ?_
 rintro e w1 ⟨rfl, hb1⟩
 go_wp2_with fail
 refine (HLK.out _ hb1).mono ?_
 rintro e w2 ⟨ob, nb, lb, rfl, hO⟩
 have HO := Hd.mk (hO.rebase hb1)
 clear hO hb1 HLS HLK
 go_wp2_with fail
 have HW := Hd.mk HO.out.with1
 clear HO
 generalize w2.alloc (Obj.cells (madeCells #[Value.int .i64 0] l.length) 3) = w3 at HW ⊢
 generalize w2.heap.size = xb at HW ⊢
 go_loopg [8, 23] l.length (fun gg v8 v23 wr => ∃ (k cnt : Nat) (O1 : Nat → Int), v23 = .int .i64 k ∧ v8 = .int .i64 cnt ∧ k ≤ l.length ∧ l.length - k ≤ gg ∧ Hd (chA l.length N L F2 k = some (cnt, O1)) ∧ Hd (ChB w ob A l.length c nb lb xb wr N L O1))
 case atStart => exact ⟨0, 0, _, rfl, rfl, Nat.zero_le _, by omega, ⟨rfl⟩, HW⟩
 case round =>
  clear HW
  obtain ⟨k, cnt, O1, rfl, rfl, hk, hg, HP, HW⟩ := hrel
  by_cases hlt : k < l.length
  ·have hltz : (k : Int) < (l.length : Int) := by omega
   have hcnt := chA_le HP.out
   have hcz : (cnt : Int) + 1 ≤ 1000000 := by omega
   obtain ⟨_, c1, c2⟩ := HW.out.K.O.cells
   have gl := HW.out.K.L.cell k hlt
   unfold encI at gl
   by_cases hn : 0 ≤ L k
   ·have hge : L k ≥ 0 := hn
    have hd := decide_eq_true hge
    have HS := Hd.mk (show chA l.length N L F2 (k + 1) = some (cnt, O1) by rw [chA, HP.out]; simp only; rw [if_pos hn])
    clear hn
    go_wp2_with fail
    go_roundg (l.length - (k + 1))
    case measure => omega
    case rel => exact ⟨k + 1, cnt, O1, by go_num, rfl, by omega, by omega, HS, HW⟩
   ·have hge : ¬ L k ≥ 0 := hn
    have hd := decide_eq_false hge
    obtain ⟨⟨c3, O3⟩, h4⟩ := chA_prev (n := l.length) (N := N) (L := L) (F := F2) (k := k + 1) (m := l.length - (k + 1)) ⟨_, by rw [show k + 1 + (l.length - (k + 1)) = l.length by omega]; exact H3.out⟩
    have h5 := h4
    rw [chA, HP.out] at h5
    simp only at h5
    rw [if_neg hn] at h5
    cases h6 : chG l.length N F2 (k : Int) (cnt : Int) O1 with
    | none => rw [h6] at h5; exact absurd h5 (by simp)
    | some O2 =>
     rw [h6] at h5
     have h9 := Option.some.inj h5
     simp only [Prod.mk.injEq] at h9
     obtain ⟨rfl, rfl⟩ := h9
     have HS := Hd.mk h4
     have HG := Hd.mk h6
     clear h4 h5 h6 hn
     go_wp2_with fail
     go_loopg [10] F2 (fun gg v10 wq => ∃ (j : Int) (O4 : Nat → Int), v10 = .int .i64 j ∧ Hd (gg ≤ F2 ∧ chG l.length N gg j (cnt : Int) O4 = some O2) ∧ Hd (ChB w ob A l.length c nb lb xb wq N L O4))
     case atStart => exact ⟨_, O1, rfl, ⟨Nat.le_refl _, HG.out⟩, HW⟩
     case round =>
      clear HW HG
      obtain ⟨j, O4, rfl, HG, HW⟩ := hrel
      cases gk with
      | zero => exact absurd HG.out.2 (by simp [chG])
      | succ g1 =>
       have hp := HG.out.2
       have HB := Hd.mk HG.out.1
       clear HG
       rw [chG] at hp
       by_cases hj : j < 0
       ·rw [if_pos hj] at hp
        obtain rfl := Option.some.inj hp
        have hjn : ¬ j ≥ 0 := by omega
        have hdj := decide_eq_false hjn
        clear hp
        go_wp2_with fail
        go_roundg (l.length - (k + 1))
        case measure => omega
        case rel => exact ⟨k + 1, cnt + 1, O4, by go_num, by go_num, by omega, by omega, HS, HW⟩
       ·rw [if_neg hj] at hp
        by_cases hjl : j.toNat < l.length
        ·rw [if_pos hjl] at hp
         obtain ⟨i, rfl⟩ : ∃ i : Nat, j = (i : Int) := ⟨j.toNat, by omega⟩
         rw [Int.toNat_natCast] at hp hjl
         have hjn : (i : Int) ≥ 0 := by omega
         have hdj := decide_eq_true hjn
         have HG := Hd.mk hp
         have hil : (i : Int) < (l.length : Int) := by omega
         have fx := HW.out.X.frozen i
         have gx := HW.out.X.cell i hjl
         unfold encI at gx
         have HW2 := Hd.mk (HW.out.setX i hjl (cnt : Int))
         obtain ⟨_, c3, c4⟩ := HW2.out.K.O.cells
         have gn := HW2.out.K.N.cell i hjl
         unfold encI at gn
         clear hp hj c1 c2 gl
         go_wp2_with fail
         go_roundg g1
         case measure => exact Nat.lt_succ_self _
         case rel => exact ⟨N i, upd O4 i (cnt : Int), rfl, ⟨by have := HB.out; omega, HG.out⟩, HW2⟩
        ·rw [if_neg hjl] at hp
         exact absurd hp (by simp)
  ·have hltz : ¬ (k : Int) < (l.length : Int) := by omega
   obtain rfl : k = l.length := by omega
   have h9 := HP.out.symm.trans H3.out
   have h9 := Option.some.inj h9
   simp only [Prod.mk.injEq] at h9
   obtain ⟨rfl, rfl⟩ := h9
   clear HP
   go_wp2_with fail
   go_ret3
   exact ⟨_, rfl, HW.out.own hl, HW.out.K.B⟩
def chainF (l : List S36) : Option (List Int × Int × Int) :=
 if lsF l 32 = 0 then
  match lkd l 2000 l.length with
  | none => none
  | some (N, L) => match chA l.length N L 100 l.length with
   | none => none
   | some (m, O) => some ((List.range l.length).map O, ((m : Nat) : Int), 0)
 else some ([], 0, lsF l 32)
set_option maxHeartbeats 2000000 in
theorem chains_any (w : World) (A : Option Addr) (c : Nat) (l : List S36) (hC : Kd.C k36 w A l.length l) (r1 : List Int) (r2 r3 : Int) (h : chainF l = some (r1, r2, r3)) :
  Calls Try.prog 43 #[.slice A l.length c] w fun e w' => ∃ v, e = .returned (.tuple #[v, .int .i64 r2, .int .i64 r3]) ∧ Kd.R qI 3 w' w.heap.size (fun _ => True) v r1 ∧ Below w.heap.size w w' := by
 unfold chainF at h
 by_cases h0 : lsF l 32 = 0
 ·rw [if_pos h0] at h
  have hlen := lsF_len h0
  cases hd : lkd l 2000 l.length with
  | none => rw [hd] at h; exact absurd h (by simp)
  | some q =>
   obtain ⟨N, L⟩ := q
   rw [hd] at h
   simp only at h
   cases hp : chA l.length N L 100 l.length with
   | none => rw [hp] at h; exact absurd h (by simp)
   | some q =>
    obtain ⟨m, O⟩ := q
    rw [hp] at h
    have h9 := Option.some.inj h
    simp only [Prod.mk.injEq] at h9
    obtain ⟨rfl, rfl, rfl⟩ := h9
    exact chains_ok w A c l hC h0 (by omega) 2000 N L hd 100 m O hp
 ·rw [if_neg h0] at h
  have h9 := Option.some.inj h
  simp only [Prod.mk.injEq] at h9
  obtain ⟨rfl, rfl, rfl⟩ := h9
  have HLS := Hd.mk (listed_any w A c l 32 hC _ rfl)
  have hd := decide_eq_true (show lsF l 32 ≠ 0 from h0)
  clear hC
  go_enter Try.func43, Try.ntmps43
  go_wp2_with fail
  refine HLS.out.mono ?_
  rintro e w1 ⟨rfl, hb1⟩
  go_wp2_with fail
  go_ret3
  exact ⟨_, rfl, Kd.R_nil _ _ _ _ _, hb1⟩
end Go.Proofs.Ytnbdfmdjedakcaa
namespace Go.Proofs.Ytnbdfmdjedakcaa
def lkG (n : Nat) (R : Nat → Nat → Bool) : Nat → Nat → Nat → (Nat → Int) → (Nat → Int) → (Nat → Bool) → Option (Bool × (Nat → Int) × (Nat → Int) × (Nat → Bool))
 | 0, _, _, _, _, _ => none
 | f + 1, i, j, N, L, T =>
  if j < n then
   if R i j = false then lkG n R f i (j + 1) N L T
   else if T j = true then lkG n R f i (j + 1) N L T
   else if L j < 0 then some (true, upd N i j, upd L j i, upd T j true)
   else if (L j).toNat < n then
    match lkG n R f (L j).toNat 0 N L (upd T j true) with
    | none => none
    | some (true, N', L', T') => some (true, upd N' i j, upd L' j i, T')
    | some (false, N', L', T') => lkG n R f i (j + 1) N' L' T'
   else none
  else some (false, N, L, T)
section
variable {n : Nat} {R : Nat → Nat → Bool}
theorem lkG_cases {f i j : Nat} {N L : Nat → Int} {T : Nat → Bool} {r : Bool} {N' L' : Nat → Int} {T' : Nat → Bool} (h : lkG n R (f + 1) i j N L T = some (r, N', L', T')) :
  (n ≤ j ∧ r = false ∧ N' = N ∧ L' = L ∧ T' = T) ∨ (j < n ∧ (R i j = false ∨ T j = true) ∧ lkG n R f i (j + 1) N L T = some (r, N', L', T')) ∨
  (j < n ∧ R i j = true ∧ T j = false ∧ L j < 0 ∧ r = true ∧ N' = upd N i j ∧ L' = upd L j i) ∨
  (j < n ∧ R i j = true ∧ T j = false ∧ 0 ≤ L j ∧ (L j).toNat < n ∧ ∃ N1 L1 T1, lkG n R f (L j).toNat 0 N L (upd T j true) = some (true, N1, L1, T1) ∧ r = true ∧ N' = upd N1 i j ∧ L' = upd L1 j i) ∨
  (j < n ∧ R i j = true ∧ T j = false ∧ 0 ≤ L j ∧ (L j).toNat < n ∧ ∃ N1 L1 T1, lkG n R f (L j).toNat 0 N L (upd T j true) = some (false, N1, L1, T1) ∧ lkG n R f i (j + 1) N1 L1 T1 = some (r, N', L', T')) := by
 rw [lkG] at h
 by_cases h1 : j < n
 ·rw [if_pos h1] at h
  cases h2 : R i j with
  | false => rw [if_pos h2] at h; exact .inr (.inl ⟨h1, .inl rfl, h⟩)
  | true =>
   rw [if_neg (by rw [h2]; decide)] at h
   cases h3 : T j with
   | true => rw [if_pos h3] at h; exact .inr (.inl ⟨h1, .inr rfl, h⟩)
   | false =>
    rw [if_neg (by rw [h3]; decide)] at h
    by_cases h4 : L j < 0
    ·rw [if_pos h4] at h
     have h9 := Option.some.inj h
     simp only [Prod.mk.injEq] at h9
     exact .inr (.inr (.inl ⟨h1, rfl, rfl, h4, h9.1.symm, h9.2.1.symm, h9.2.2.1.symm⟩))
    ·rw [if_neg h4] at h
     by_cases h5 : (L j).toNat < n
     ·rw [if_pos h5] at h
      cases hr : lkG n R f (L j).toNat 0 N L (upd T j true) with
      | none => rw [hr] at h; exact absurd h (by simp)
      | some q =>
       obtain ⟨b, N1, L1, T1⟩ := q
       rw [hr] at h
       cases b with
       | true =>
        have h9 := Option.some.inj h
        simp only [Prod.mk.injEq] at h9
        exact .inr (.inr (.inr (.inl ⟨h1, rfl, rfl, by omega, h5, N1, L1, T1, rfl, h9.1.symm, h9.2.1.symm, h9.2.2.1.symm⟩)))
       | false => exact .inr (.inr (.inr (.inr ⟨h1, rfl, rfl, by omega, h5, N1, L1, T1, rfl, h⟩)))
     ·rw [if_neg h5] at h; exact absurd h (by simp)
 ·rw [if_neg h1] at h
  have h9 := Option.some.inj h
  simp only [Prod.mk.injEq] at h9
  exact .inl ⟨by omega, h9.1.symm, h9.2.1.symm, h9.2.2.1.symm, h9.2.2.2.symm⟩
theorem lkG_false : ∀ (f i j : Nat) (N L : Nat → Int) (T : Nat → Bool) (N' L' : Nat → Int) (T' : Nat → Bool), lkG n R f i j N L T = some (false, N', L', T') →
  N' = N ∧ L' = L ∧ (∀ k, T k = true → T' k = true) ∧ (∀ k, k < n → j ≤ k → R i k = true → T' k = true) ∧ ∀ k, T' k = true → T k = false → k < n ∧ 0 ≤ L k ∧ ∀ q, q < n → R (L k).toNat q = true → T' q = true := by
 intro f
 induction f with
 | zero => intro i j N L T N' L' T' h; exact absurd h (by simp [lkG])
 | succ f ih =>
  intro i j N L T N' L' T' h
  rcases lkG_cases h with ⟨h1, _, rfl, rfl, rfl⟩ | ⟨h1, h2, h3⟩ | ⟨_, _, _, _, hr, _⟩ | ⟨_, _, _, _, _, _, _, _, _, hr, _⟩ | ⟨h1, h2, h3, h4, h5, N1, L1, T1, h6, h7⟩
  ·exact ⟨rfl, rfl, fun _ h => h, fun k hk hj _ => by omega, fun k h2 h3 => by rw [h2] at h3; exact absurd h3 (by decide)⟩
  ·obtain ⟨a, b, c, d, e⟩ := ih _ _ _ _ _ _ _ _ h3
   refine ⟨a, b, c, fun k hk hj hR => ?_, e⟩
   by_cases ek : k = j
   ·subst ek
    rcases h2 with h2 | h2
    ·rw [h2] at hR; exact absurd hR (by decide)
    ·exact c _ h2
   ·exact d k hk (by omega) hR
  ·exact absurd hr (by decide)
  ·exact absurd hr (by decide)
  ·obtain ⟨rfl, rfl, c1, d1, e1⟩ := ih _ _ _ _ _ _ _ _ h6
   obtain ⟨rfl, rfl, c2, d2, e2⟩ := ih _ _ _ _ _ _ _ _ h7
   have tj : T1 j = true := c1 j (upd_same _ _ _)
   have up : ∀ k, T k = true → T1 k = true := fun k hk => c1 k (by
    by_cases ek : k = j
    ·subst ek; exact upd_same _ _ _
    ·rw [upd_ne _ _ ek]; exact hk)
   refine ⟨rfl, rfl, fun k hk => c2 k (up k hk), fun k hk hj hR => ?_, fun k hk hT => ?_⟩
   ·by_cases ek : k = j
    ·subst ek; exact c2 _ tj
    ·exact d2 k hk (by omega) hR
   ·cases hT1 : T1 k with
    | false => exact e2 k hk hT1
    | true =>
     by_cases ek : k = j
     ·subst ek; exact ⟨h1, h4, fun q hq hR => c2 q (d1 q hq (Nat.zero_le _) hR)⟩
     ·obtain ⟨a, b, c⟩ := e1 k hT1 (by rw [upd_ne _ _ ek]; exact hT)
      exact ⟨a, b, fun q hq hR => c2 q (c q hq hR)⟩
structure LPre (n : Nat) (R : Nat → Nat → Bool) (T : Nat → Bool) (L N : Nat → Int) (i : Nat) : Prop where
 a : ∀ j, j < n → 0 ≤ L j → L j < n ∧ R (L j).toNat j = true
 b : ∀ j k, j < n → k < n → T j = false → T k = false → 0 ≤ L j → L j = L k → j = k
 c : ∀ j, j < n → T j = false → 0 ≤ L j → N (L j).toNat = j
 d : ∀ j, j < n → T j = false → L j ≠ i
structure LPost (n : Nat) (R : Nat → Nat → Bool) (T : Nat → Bool) (L N : Nat → Int) (i : Nat) (L' N' : Nat → Int) : Prop where
 s : ∀ j, j < n → T j = true → L' j = L j
 a : ∀ j, j < n → 0 ≤ L' j → L' j < n ∧ R (L' j).toNat j = true
 b : ∀ j k, j < n → k < n → T j = false → T k = false → 0 ≤ L' j → L' j = L' k → j = k
 c : ∀ j, j < n → T j = false → 0 ≤ L' j → N' (L' j).toNat = j
 v : ∀ x : Nat, (∃ j, j < n ∧ T j = false ∧ L' j = x) ↔ (x = i ∨ ∃ j, j < n ∧ T j = false ∧ L j = x)
 o : ∀ x : Nat, (∀ j, j < n → T j = false → L' j ≠ x) → N' x = N x
theorem LPre.more {T T2 : Nat → Bool} {L N : Nat → Int} {i : Nat} (h : LPre n R T L N i) (ht : ∀ k, T k = true → T2 k = true) : LPre n R T2 L N i := by
 have q : ∀ k, T2 k = false → T k = false := fun k hk => by
  cases e : T k with
  | false => rfl
  | true => rw [ht k e] at hk; exact absurd hk (by decide)
 exact ⟨h.a, fun j k hj hk a b => h.b j k hj hk (q j a) (q k b), fun j hj a => h.c j hj (q j a), fun j hj a => h.d j hj (q j a)⟩
theorem LPost.less {T T2 : Nat → Bool} {L N L' N' : Nat → Int} {i : Nat} (hp : LPre n R T L N i) (ht : ∀ k, T k = true → T2 k = true) (h : LPost n R T2 L N i L' N') : LPost n R T L N i L' N' := by
 have q : ∀ k, T2 k = false → T k = false := fun k hk => by
  cases e : T k with
  | false => rfl
  | true => rw [ht k e] at hk; exact absurd hk (by decide)
 have nv : ∀ j, j < n → T j = false → T2 j = true → 0 ≤ L j → ∀ k, k < n → T2 k = false → L' k ≠ L j := fun j hj h1 h2 h3 k hk hk2 e => by
  have e2 : ((L j).toNat : Int) = L j := by omega
  rcases (h.v (L j).toNat).1 ⟨k, hk, hk2, by rw [e2]; exact e⟩ with e3 | ⟨p, hp1, hp2, e3⟩
  ·exact hp.d j hj h1 (by rw [← e2, e3])
  ·have := hp.b j p hj hp1 h1 (q p hp2) h3 (by rw [e3, e2])
   subst this
   rw [h2] at hp2; exact absurd hp2 (by decide)
 refine ⟨fun j hj hT => h.s j hj (ht j hT), h.a, fun j k hj hk h1 h2 h3 e => ?_, fun j hj h1 h3 => ?_, fun x => ⟨?_, ?_⟩, fun x hx => h.o x fun j hj hT => hx j hj (q j hT)⟩
 ·cases a : T2 j with
  | false =>
   cases b : T2 k with
   | false => exact h.b j k hj hk a b h3 e
   | true =>
    have e4 := h.s k hk b
    rw [e4] at e
    exact absurd e (nv k hk h2 b (by omega) j hj a)
  | true =>
   have e5 := h.s j hj a
   rw [e5] at h3 e
   cases b : T2 k with
   | false => exact absurd e.symm (nv j hj h1 a h3 k hk b)
   | true =>
    rw [h.s k hk b] at e
    exact hp.b j k hj hk h1 h2 h3 e
 ·cases a : T2 j with
  | false => exact h.c j hj a h3
  | true =>
   rw [h.s j hj a] at h3 ⊢
   rw [h.o (L j).toNat (fun k hk hk2 e => nv j hj h1 a h3 k hk hk2 (by rw [e]; omega))]
   exact hp.c j hj h1 h3
 ·rintro ⟨j, hj, h1, e⟩
  cases a : T2 j with
  | false =>
   rcases (h.v x).1 ⟨j, hj, a, e⟩ with e2 | ⟨p, hp1, hp2, e2⟩
   ·exact .inl e2
   ·exact .inr ⟨p, hp1, q p hp2, e2⟩
  | true => exact .inr ⟨j, hj, h1, by rw [← h.s j hj a]; exact e⟩
 ·rintro (e | ⟨j, hj, h1, e⟩)
  ·obtain ⟨j, hj, h1, e2⟩ := (h.v x).2 (.inl e)
   exact ⟨j, hj, q j h1, e2⟩
  ·cases a : T2 j with
   | false =>
    obtain ⟨p, hp1, hp2, e2⟩ := (h.v x).2 (.inr ⟨j, hj, a, e⟩)
    exact ⟨p, hp1, q p hp2, e2⟩
   | true => exact ⟨j, hj, h1, by rw [h.s j hj a]; exact e⟩
theorem lkG_true : ∀ (f i j : Nat) (N L : Nat → Int) (T : Nat → Bool) (N' L' : Nat → Int) (T' : Nat → Bool), i < n → lkG n R f i j N L T = some (true, N', L', T') → LPre n R T L N i → LPost n R T L N i L' N' := by
 intro f
 induction f with
 | zero => intro i j N L T N' L' T' hi h; exact absurd h (by simp [lkG])
 | succ f ih =>
  intro i j N L T N' L' T' hi h P
  rcases lkG_cases h with ⟨_, hr, _⟩ | ⟨h1, h2, h3⟩ | ⟨h1, h2, h3, h4, _, rfl, rfl⟩ | ⟨h1, h2, h3, h4, h5, N1, L1, T1, h6, _, rfl, rfl⟩ | ⟨h1, h2, h3, h4, h5, N1, L1, T1, h6, h7⟩
  ·exact absurd hr (by decide)
  ·exact ih _ _ _ _ _ _ _ _ hi h3 P
  ·refine ⟨fun k hk hT => ?_, fun k hk h => ?_, fun k q hk hq hTk hTq h e => ?_, fun k hk hTk h => ?_, fun x => ⟨?_, ?_⟩, fun x hx => ?_⟩
   ·exact upd_ne _ _ (fun e => by subst e; rw [h3] at hT; exact absurd hT (by decide))
   ·by_cases e : k = j
    ·subst e; rw [upd_same] at h ⊢; exact ⟨by omega, by rw [Int.toNat_natCast]; exact h2⟩
    ·rw [upd_ne _ _ e] at h ⊢; exact P.a k hk h
   ·by_cases ek : k = j
    ·by_cases eq : q = j
     ·rw [ek, eq]
     ·subst ek; rw [upd_same, upd_ne _ _ eq] at e; exact absurd e.symm (P.d q hq hTq)
    ·rw [upd_ne _ _ ek] at h e
     by_cases eq : q = j
     ·subst eq; rw [upd_same] at e; exact absurd e (P.d k hk hTk)
     ·rw [upd_ne _ _ eq] at e; exact P.b k q hk hq hTk hTq h e
   ·by_cases ek : k = j
    ·subst ek; rw [upd_same, Int.toNat_natCast, upd_same]
    ·rw [upd_ne _ _ ek] at h ⊢
     rw [upd_ne _ _ (fun e => P.d k hk hTk (by rw [← e]; omega))]
     exact P.c k hk hTk h
   ·rintro ⟨k, hk, hT, e⟩
    by_cases ek : k = j
    ·subst ek; rw [upd_same] at e; exact .inl (by omega)
    ·rw [upd_ne _ _ ek] at e; exact .inr ⟨k, hk, hT, e⟩
   ·rintro (rfl | ⟨k, hk, hT, e⟩)
    ·exact ⟨j, h1, h3, upd_same _ _ _⟩
    ·exact ⟨k, hk, hT, by rw [upd_ne _ _ (fun ek => by subst ek; omega)]; exact e⟩
   ·exact upd_ne _ _ (fun e => hx j h1 h3 (by rw [upd_same, e]))
  ·have t1 : ∀ k, k ≠ j → upd T j true k = T k := fun k hk => upd_ne _ _ hk
   have hp : ((L j).toNat : Int) = L j := by omega
   have P1 : LPre n R (upd T j true) L N (L j).toNat :=
    ⟨P.a, fun k q hk hq a b => P.b k q hk hq (by by_cases e : k = j; subst e; exact h3; rw [← t1 k e]; exact a) (by by_cases e : q = j; subst e; exact h3; rw [← t1 q e]; exact b),
     fun k hk a => P.c k hk (by by_cases e : k = j; subst e; exact h3; rw [← t1 k e]; exact a),
     fun k hk a e => by
      have ek : k ≠ j := fun e => by subst e; rw [upd_same] at a; exact absurd a (by decide)
      exact ek (P.b j k h1 hk h3 (by rw [← t1 k ek]; exact a) h4 (by rw [e, hp])).symm⟩
   have Q := ih _ _ _ _ _ _ _ _ h5 h6 P1
   have ni : ∀ k, k < n → k ≠ j → T k = false → L1 k ≠ i := fun k hk ek hT e => by
    rcases (Q.v i).1 ⟨k, hk, by rw [t1 k ek]; exact hT, e⟩ with e2 | ⟨p, hp1, hp2, e2⟩
    ·exact P.d j h1 h3 (by rw [e2]; omega)
    ·have ep : p ≠ j := fun e => by subst e; rw [upd_same] at hp2; exact absurd hp2 (by decide)
     exact P.d p hp1 (by rw [← t1 p ep]; exact hp2) e2
   refine ⟨fun k hk hT => ?_, fun k hk h => ?_, fun k q hk hq hTk hTq h e => ?_, fun k hk hTk h => ?_, fun x => ⟨?_, ?_⟩, fun x hx => ?_⟩
   ·have ek : k ≠ j := fun e => by subst e; rw [h3] at hT; exact absurd hT (by decide)
    rw [upd_ne _ _ ek]
    exact Q.s k hk (by rw [t1 k ek]; exact hT)
   ·by_cases e : k = j
    ·subst e; rw [upd_same] at h ⊢; exact ⟨by omega, by rw [Int.toNat_natCast]; exact h2⟩
    ·rw [upd_ne _ _ e] at h ⊢; exact Q.a k hk h
   ·by_cases ek : k = j
    ·by_cases eq : q = j
     ·rw [ek, eq]
     ·subst ek; rw [upd_same, upd_ne _ _ eq] at e; exact absurd e.symm (ni q hq eq hTq)
    ·rw [upd_ne _ _ ek] at h e
     by_cases eq : q = j
     ·subst eq; rw [upd_same] at e; exact absurd e (ni k hk ek hTk)
     ·rw [upd_ne _ _ eq] at e; exact Q.b k q hk hq (by rw [t1 k ek]; exact hTk) (by rw [t1 q eq]; exact hTq) h e
   ·by_cases ek : k = j
    ·subst ek; rw [upd_same, Int.toNat_natCast, upd_same]
    ·rw [upd_ne _ _ ek] at h ⊢
     rw [upd_ne _ _ (fun e => ni k hk ek hTk (by rw [← e]; omega))]
     exact Q.c k hk (by rw [t1 k ek]; exact hTk) h
   ·rintro ⟨k, hk, hT, e⟩
    by_cases ek : k = j
    ·subst ek; rw [upd_same] at e; exact .inl (by omega)
    ·rw [upd_ne _ _ ek] at e
     rcases (Q.v x).1 ⟨k, hk, by rw [t1 k ek]; exact hT, e⟩ with e2 | ⟨p, hp1, hp2, e2⟩
     ·exact .inr ⟨j, h1, h3, by rw [e2]; omega⟩
     ·exact .inr ⟨p, hp1, by by_cases e : p = j; subst e; exact h3; rw [← t1 p e]; exact hp2, e2⟩
   ·rintro (rfl | ⟨k, hk, hT, e⟩)
    ·exact ⟨j, h1, h3, upd_same _ _ _⟩
    ·have : ∃ p, p < n ∧ upd T j true p = false ∧ L1 p = x := by
      by_cases ek : k = j
      ·subst ek; exact (Q.v x).2 (.inl (by omega))
      ·exact (Q.v x).2 (.inr ⟨k, hk, by rw [t1 k ek]; exact hT, e⟩)
     obtain ⟨p, hp1, hp2, e2⟩ := this
     have ep : p ≠ j := fun e => by subst e; rw [upd_same] at hp2; exact absurd hp2 (by decide)
     exact ⟨p, hp1, by rw [← t1 p ep]; exact hp2, by rw [upd_ne _ _ ep]; exact e2⟩
   ·rw [upd_ne _ _ (fun e => hx j h1 h3 (by rw [upd_same, e]))]
    refine Q.o x fun k hk hk2 e => ?_
    have ek : k ≠ j := fun e => by subst e; rw [upd_same] at hk2; exact absurd hk2 (by decide)
    exact hx k hk (by rw [← t1 k ek]; exact hk2) (by rw [upd_ne _ _ ek]; exact e)
  ·obtain ⟨rfl, rfl, c1, _, _⟩ := lkG_false _ _ _ _ _ _ _ _ _ h6
   have up : ∀ k, T k = true → T1 k = true := fun k hk => c1 k (by
    by_cases ek : k = j
    ·subst ek; exact upd_same _ _ _
    ·rw [upd_ne _ _ ek]; exact hk)
   exact (ih _ _ _ _ _ _ _ _ hi h7 (P.more up)).less P up
def LClosed (n : Nat) (R : Nat → Nat → Bool) (C : Nat → Bool) (L : Nat → Int) : Prop := ∀ j, j < n → C j = true → 0 ≤ L j ∧ ∀ k, k < n → R (L j).toNat k = true → C k = true
theorem lkG_closed {C : Nat → Bool} : ∀ (f i j : Nat) (N L : Nat → Int) (T : Nat → Bool) (N' L' : Nat → Int) (T' : Nat → Bool), lkG n R f i j N L T = some (true, N', L', T') → LClosed n R C L →
  (∀ k, k < n → C k = true → L' k = L k) ∧ ¬ ∀ k, k < n → j ≤ k → R i k = true → C k = true := by
 intro f
 induction f with
 | zero => intro i j N L T N' L' T' h; exact absurd h (by simp [lkG])
 | succ f ih =>
  intro i j N L T N' L' T' h hC
  rcases lkG_cases h with ⟨_, hr, _⟩ | ⟨h1, h2, h3⟩ | ⟨h1, h2, h3, h4, _, rfl, rfl⟩ | ⟨h1, h2, h3, h4, h5, N1, L1, T1, h6, _, rfl, rfl⟩ | ⟨h1, h2, h3, h4, h5, N1, L1, T1, h6, h7⟩
  ·exact absurd hr (by decide)
  ·obtain ⟨a, b⟩ := ih _ _ _ _ _ _ _ _ h3 hC
   exact ⟨a, fun h => b fun k hk hj => h k hk (by omega)⟩
  ·have nj : C j ≠ true := fun e => by have := (hC j h1 e).1; omega
   exact ⟨fun k hk hc => upd_ne _ _ (fun e => by subst e; exact nj hc), fun h => nj (h j h1 (Nat.le_refl _) h2)⟩
  ·obtain ⟨a, b⟩ := ih _ _ _ _ _ _ _ _ h6 hC
   have nj : C j ≠ true := fun e => b fun k hk _ hR => (hC j h1 e).2 k hk hR
   exact ⟨fun k hk hc => by rw [upd_ne _ _ (fun e => by subst e; exact nj hc)]; exact a k hk hc, fun h => nj (h j h1 (Nat.le_refl _) h2)⟩
  ·obtain ⟨rfl, rfl, _⟩ := lkG_false _ _ _ _ _ _ _ _ _ h6
   obtain ⟨a, b⟩ := ih _ _ _ _ _ _ _ _ h7 hC
   exact ⟨a, fun h => b fun k hk hj => h k hk (by omega)⟩
end
def card : Nat → (Nat → Bool) → Nat
 | 0, _ => 0
 | n + 1, P => card n P + if P n = true then 1 else 0
theorem card_congr : ∀ {n : Nat} {P Q : Nat → Bool}, (∀ x, x < n → P x = Q x) → card n P = card n Q
 | 0, _, _, _ => rfl
 | n + 1, P, Q, h => by
  rw [card, card, card_congr (fun x hx => h x (by omega)), h n (by omega)]
theorem card_le : ∀ (n : Nat) (P : Nat → Bool), card n P ≤ n
 | 0, _ => Nat.le_refl _
 | n + 1, P => by
  have := card_le n P
  rw [card]
  split <;> omega
theorem card_mono : ∀ {n : Nat} {P Q : Nat → Bool}, (∀ x, x < n → P x = true → Q x = true) → card n P ≤ card n Q
 | 0, _, _, _ => Nat.le_refl _
 | n + 1, P, Q, h => by
  have := card_mono (n := n) (fun x hx => h x (by omega))
  rw [card, card]
  by_cases hp : P n = true
  ·rw [if_pos hp, if_pos (h n (by omega) hp)]; omega
  ·rw [if_neg hp]; split <;> omega
theorem card_split : ∀ (n : Nat) (P Q : Nat → Bool), card n P = card n (fun x => P x && Q x) + card n (fun x => P x && !Q x)
 | 0, _, _ => rfl
 | n + 1, P, Q => by
  have := card_split n P Q
  simp only [card]
  rw [this]
  by_cases hP : P n = true <;> by_cases hQ : Q n = true <;> simp [hP, hQ] <;> omega
theorem card_filter : ∀ (n : Nat) (P : Nat → Bool), card n P = ((List.range n).filter P).length
 | 0, _ => rfl
 | n + 1, P => by
  rw [card, card_filter n P, List.range_succ, List.filter_append, List.length_append]
  congr 1
  by_cases h : P n = true <;> simp [h]
theorem sub_len : ∀ (l l' : List Nat), l.Nodup → (∀ x ∈ l, x ∈ l') → l.length ≤ l'.length
 | [], _, _, _ => Nat.zero_le _
 | x :: l, l', hn, h => by
  obtain ⟨h1, h2⟩ := List.nodup_cons.1 hn
  have h3 := h x List.mem_cons_self
  have := sub_len l (l'.erase x) h2 (fun y hy => (List.mem_erase_of_ne (fun e => by subst e; exact h1 hy)).2 (h y (List.mem_cons_of_mem _ hy)))
  rw [List.length_erase_of_mem h3] at this
  have h4 : 0 < l'.length := List.length_pos_of_mem h3
  rw [List.length_cons]
  omega
theorem card_inj {n m : Nat} {P Q : Nat → Bool} (f : Nat → Nat) (h1 : ∀ x, x < n → P x = true → f x < m ∧ Q (f x) = true) (h2 : ∀ x y, x < n → y < n → P x = true → P y = true → f x = f y → x = y) : card n P ≤ card m Q := by
 rw [card_filter, card_filter]
 have : (((List.range n).filter P).map f).length ≤ ((List.range m).filter Q).length := by
  refine sub_len _ _ ?_ ?_
  ·refine List.pairwise_map.2 ?_
   have hn : ((List.range n).filter P).Nodup := (List.nodup_range).filter _
   refine List.Pairwise.imp_of_mem (fun {x y} hx hy hne e => hne ?_) hn
   obtain ⟨a, b⟩ := List.mem_filter.1 hx
   obtain ⟨c, d⟩ := List.mem_filter.1 hy
   exact h2 x y (List.mem_range.1 a) (List.mem_range.1 c) b d e
  ·intro y hy
   obtain ⟨x, hx, rfl⟩ := List.mem_map.1 hy
   obtain ⟨a, b⟩ := List.mem_filter.1 hx
   obtain ⟨c, d⟩ := h1 x (List.mem_range.1 a) b
   exact List.mem_filter.2 ⟨List.mem_range.2 c, d⟩
 rwa [List.length_map] at this
theorem card_one {n : Nat} {P Q : Nat → Bool} {k : Nat} (hk : k < n) (h1 : P k = false) (h2 : Q k = true) (h : ∀ x, x < n → x ≠ k → Q x = P x) : card n Q = card n P + 1 := by
 induction n with
 | zero => omega
 | succ n ih =>
  rw [card, card]
  by_cases e : k = n
  ·subst e
   rw [card_congr (fun x hx => h x (by omega) (by omega)), if_pos h2, if_neg (by rw [h1]; decide)]
  ·rw [ih (by omega) (fun x hx hne => h x (by omega) hne), h n (by omega) (fun e2 => e e2.symm)]
   omega
theorem card_lt {n : Nat} {P Q : Nat → Bool} (h : ∀ x, x < n → P x = true → Q x = true) {k : Nat} (hk : k < n) (h1 : P k = false) (h2 : Q k = true) : card n P < card n Q := by
 have := card_one (P := P) (Q := fun x => P x || decide (x = k)) hk h1 (by simp) (fun x hx hne => by simp [hne])
 have h3 := card_mono (n := n) (P := fun x => P x || decide (x = k)) (Q := Q) (fun x hx hp => by
  simp only [Bool.or_eq_true, decide_eq_true_eq] at hp
  rcases hp with hp | hp
  ·exact h x hx hp
  ·subst hp; exact h2)
 omega
section
variable {n : Nat} {R : Nat → Nat → Bool}
theorem lkG_some : ∀ (f i j : Nat) (N L : Nat → Int) (T : Nat → Bool), card n (fun k => !T k) * (n + 1) + (n - j) < f → (∀ k, k < n → L k < n) → ∃ r N' L' T', lkG n R f i j N L T = some (r, N', L', T') := by
 intro f
 induction f with
 | zero => intro i j N L T h; omega
 | succ f ih =>
  intro i j N L T h hL
  rw [lkG]
  by_cases h1 : j < n
  ·rw [if_pos h1]
   by_cases h2 : R i j = false
   ·rw [if_pos h2]; exact ih _ _ _ _ _ (by omega) hL
   ·rw [if_neg h2]
    by_cases h3 : T j = true
    ·rw [if_pos h3]; exact ih _ _ _ _ _ (by omega) hL
    ·rw [if_neg h3]
     by_cases h4 : L j < 0
     ·rw [if_pos h4]; exact ⟨_, _, _, _, rfl⟩
     ·have h5 := hL j h1
      rw [if_neg h4, if_pos (show (L j).toNat < n by omega)]
      have hT : T j = false := by simpa using h3
      have c1 := card_one (n := n) (P := fun k => !upd T j true k) (Q := fun k => !T k) h1 (by simp [upd_same]) (by simp [hT]) (fun x hx hne => by simp [upd_ne _ _ hne])
      have m1 : card n (fun k => !T k) * (n + 1) = card n (fun k => !upd T j true k) * (n + 1) + (n + 1) := by rw [c1, Nat.add_mul]; omega
      obtain ⟨r, N1, L1, T1, hr⟩ := ih (L j).toNat 0 N L (upd T j true) (by omega) hL
      rw [hr]
      cases r with
      | true => exact ⟨_, _, _, _, rfl⟩
      | false =>
       obtain ⟨rfl, rfl, c, _⟩ := lkG_false _ _ _ _ _ _ _ _ _ hr
       have c2 := card_mono (n := n) (P := fun k => !T1 k) (Q := fun k => !upd T j true k) (fun x hx hp => by
        cases e : upd T j true x with
        | false => rfl
        | true => simp [c x e] at hp)
       have m2 : card n (fun k => !T1 k) * (n + 1) ≤ card n (fun k => !upd T j true k) * (n + 1) := Nat.mul_le_mul_right _ c2
       exact ih _ _ _ _ _ (by omega) hL
  ·rw [if_neg h1]; exact ⟨_, _, _, _, rfl⟩
def runK (n : Nat) (R : Nat → Nat → Bool) (I : Nat → Bool) (F : Nat) : Nat → Option ((Nat → Int) × (Nat → Int) × Nat)
 | 0 => some (fun _ => -1, fun _ => -1, 0)
 | k + 1 => match runK n R I F k with
  | none => none
  | some (N, L, m) => if I k = true then
    match lkG n R F k 0 N L (fun _ => false) with
    | none => none
    | some (r, N', L', _) => some (N', L', if r = true then m + 1 else m)
   else some (N, L, m)
structure KInv (n : Nat) (R : Nat → Nat → Bool) (I : Nat → Bool) (k : Nat) (N L : Nat → Int) (m : Nat) : Prop where
 a : ∀ j, j < n → 0 ≤ L j → L j < n ∧ R (L j).toNat j = true ∧ I (L j).toNat = true
 b : ∀ j q, j < n → q < n → 0 ≤ L j → L j = L q → j = q
 c : ∀ j, j < n → 0 ≤ L j → N (L j).toNat = j
 d : ∀ x, x < n → 0 ≤ N x → ∃ j, j < n ∧ L j = x
 e : ∀ x, x < k → x < n → I x = true → N x < 0 → ∃ C, LClosed n R C L ∧ ∀ q, q < n → R x q = true → C q = true
 f : m = card n (fun x => decide (0 ≤ N x))
 g : ∀ x, x < n → k ≤ x → N x < 0
theorem runK_inv {I : Nat → Bool} {F : Nat} : ∀ k, k ≤ n → ∀ N L m, runK n R I F k = some (N, L, m) → KInv n R I k N L m
 | 0, _, N, L, m, h => by
  have h9 := Option.some.inj h
  simp only [Prod.mk.injEq] at h9
  obtain ⟨rfl, rfl, rfl⟩ := h9
  refine ⟨fun j _ h => absurd h (by decide), fun j q _ _ h => absurd h (by decide), fun j _ h => absurd h (by decide), fun x _ h => absurd h (by decide), fun x hx => by omega, ?_, fun x _ _ => by decide⟩
  have : ∀ n, card n (fun x => decide (0 ≤ (-1 : Int))) = 0 := fun n => by
   induction n with
   | zero => rfl
   | succ n ih => rw [card, ih]; rfl
  exact (this n).symm
 | k + 1, hk, N, L, m, h => by
  rw [runK] at h
  cases hp : runK n R I F k with
  | none => rw [hp] at h; exact absurd h (by simp)
  | some q =>
   obtain ⟨N0, L0, m0⟩ := q
   rw [hp] at h
   have V := runK_inv k (by omega) N0 L0 m0 hp
   simp only at h
   by_cases hI : I k = true
   ·rw [if_pos hI] at h
    cases hr : lkG n R F k 0 N0 L0 (fun _ => false) with
    | none => rw [hr] at h; exact absurd h (by simp)
    | some q =>
     obtain ⟨r, N1, L1, T1⟩ := q
     rw [hr] at h
     have h9 := Option.some.inj h
     simp only [Prod.mk.injEq] at h9
     obtain ⟨rfl, rfl, rfl⟩ := h9
     cases r with
     | false =>
      obtain ⟨rfl, rfl, _, d1, e1⟩ := lkG_false _ _ _ _ _ _ _ _ _ hr
      refine ⟨V.a, V.b, V.c, V.d, fun x hx hxn hIx hN => ?_, V.f, fun x hx hkx => V.g x hx (by omega)⟩
      by_cases e : x = k
      ·subst e
       exact ⟨T1, fun j hj hc => ⟨(e1 j hc rfl).2.1, (e1 j hc rfl).2.2⟩, fun q hq hR => d1 q hq (Nat.zero_le _) hR⟩
      ·exact V.e x (by omega) hxn hIx hN
     | true =>
      have nk : ∀ j, j < n → L0 j ≠ k := fun j hj e => by
       have h1 := V.c j hj (by omega)
       have h2 := V.g k (by omega) (Nat.le_refl _)
       rw [e, Int.toNat_natCast] at h1
       omega
      have Q := lkG_true _ _ _ _ _ _ _ _ _ (show k < n by omega) hr ⟨fun j hj h => ⟨(V.a j hj h).1, (V.a j hj h).2.1⟩, fun j q hj hq _ _ => V.b j q hj hq, fun j hj _ => V.c j hj, fun j hj _ => nk j hj⟩
      have val : ∀ x : Nat, (∃ j, j < n ∧ L1 j = x) ↔ (x = k ∨ ∃ j, j < n ∧ L0 j = x) := fun x => by
       have := Q.v x
       simp only [true_and] at this
       exact this
      have oth : ∀ x : Nat, (∀ j, j < n → L1 j ≠ x) → N1 x = N0 x := fun x hx => Q.o x fun j hj _ => hx j hj
      have nn : ∀ x, x < n → (0 ≤ N1 x ↔ (x = k ∨ 0 ≤ N0 x)) := fun x hx => by
       by_cases hv : ∃ j, j < n ∧ L1 j = x
       ·obtain ⟨j, hj, e⟩ := hv
        have h1 := Q.c j hj rfl (by omega)
        rw [e, Int.toNat_natCast] at h1
        refine ⟨fun _ => ?_, fun _ => by omega⟩
        rcases (val x).1 ⟨j, hj, e⟩ with e2 | ⟨p, hp1, e2⟩
        ·exact .inl e2
        ·have h3 := V.c p hp1 (by omega)
         rw [e2, Int.toNat_natCast] at h3
         exact .inr (by omega)
       ·rw [oth x fun j hj e => hv ⟨j, hj, e⟩]
        refine ⟨.inr, ?_⟩
        rintro (e | h)
        ·exact absurd ((val x).2 (.inl e)) hv
        ·exact h
      refine ⟨fun j hj h => ?_, fun j q hj hq h e => Q.b j q hj hq rfl rfl h e, fun j hj h => Q.c j hj rfl h, fun x hx h => ?_, fun x hx hxn hIx hN => ?_, ?_, fun x hx hkx => ?_⟩
      ·obtain ⟨h1, h2⟩ := Q.a j hj h
       refine ⟨h1, h2, ?_⟩
       rcases (val (L1 j).toNat).1 ⟨j, hj, by omega⟩ with e2 | ⟨p, hp1, e2⟩
       ·rw [e2]; exact hI
       ·have := (V.a p hp1 (by omega)).2.2
        rw [e2, Int.toNat_natCast] at this
        exact this
      ·rcases (nn x hx).1 h with e | h2
       ·exact (val x).2 (.inl e)
       ·obtain ⟨j, hj, e⟩ := V.d x hx h2
        exact (val x).2 (.inr ⟨j, hj, e⟩)
      ·have h2 : ¬ (x = k ∨ 0 ≤ N0 x) := fun h => by have := (nn x hxn).2 h; omega
       obtain ⟨C, hC, hq⟩ := V.e x (by omega) hxn hIx (by omega)
       obtain ⟨s, _⟩ := lkG_closed (C := C) _ _ _ _ _ _ _ _ _ hr hC
       exact ⟨C, fun j hj hc => by rw [s j hj hc]; exact hC j hj hc, hq⟩
      ·show (if true = true then m0 + 1 else m0) = _
       rw [if_pos rfl, V.f]
       refine (card_one (k := k) (by omega) ?_ ?_ (fun x hx hne => ?_)).symm
       ·have := V.g k (by omega) (Nat.le_refl _)
        exact decide_eq_false (by omega)
       ·exact decide_eq_true ((nn k (by omega)).2 (.inl rfl))
       ·refine decide_eq_decide.2 ⟨fun h => ?_, fun h => (nn x hx).2 (.inr h)⟩
        rcases (nn x hx).1 h with e | h2
        ·exact absurd e hne
        ·exact h2
      ·have h2 := V.g x hx (by omega)
       have h3 := nn x hx
       have : ¬ 0 ≤ N1 x := fun h => by
        rcases h3.1 h with e | h4 <;> omega
       omega
   ·rw [if_neg hI] at h
    have h9 := Option.some.inj h
    simp only [Prod.mk.injEq] at h9
    obtain ⟨rfl, rfl, rfl⟩ := h9
    refine ⟨V.a, V.b, V.c, V.d, fun x hx hxn hIx hN => ?_, V.f, fun x hx hkx => V.g x hx (by omega)⟩
    by_cases e : x = k
    ·subst e; exact absurd hIx hI
    ·exact V.e x (by omega) hxn hIx hN
theorem runK_some {I : Nat → Bool} {F : Nat} (hF : n * (n + 1) + n < F) : ∀ k, k ≤ n → ∃ N L m, runK n R I F k = some (N, L, m)
 | 0, _ => ⟨_, _, _, rfl⟩
 | k + 1, hk => by
  obtain ⟨N, L, m, h⟩ := runK_some hF k (by omega)
  have V := runK_inv k (by omega) N L m h
  rw [runK, h]
  by_cases hI : I k = true
  ·have m1 : card n (fun _ => !false) * (n + 1) ≤ n * (n + 1) := Nat.mul_le_mul_right (n + 1) (card_le n _)
   obtain ⟨r, N', L', T', hr⟩ := lkG_some (n := n) (R := R) F k 0 N L (fun _ => false) (by omega) (fun j hj => by
    by_cases h0 : 0 ≤ L j
    ·exact (V.a j hj h0).1
    ·omega)
   simp only [if_pos hI, hr]
   exact ⟨_, _, _, rfl⟩
  ·simp only [if_neg hI]
   exact ⟨_, _, _, rfl⟩
end
end Go.Proofs.Ytnbdfmdjedakcaa
namespace Go.Proofs.Ytnbdfmdjedakcaa
set_option linter.unusedVariables false
structure Mat (n : Nat) (R : Nat → Nat → Bool) (I : Nat → Bool) (N L : Nat → Int) (m : Nat) : Prop where
 irr : ∀ x, x < n → R x x = false
 tr : ∀ x y z, x < n → y < n → z < n → R x y = true → R y z = true → R x z = true
 inI : ∀ x y, x < n → y < n → R x y = true → I y = true
 k : KInv n R I n N L m
inductive Up (N : Nat → Int) : Nat → Nat → Prop
 | refl (x : Nat) : Up N x x
 | step {x y e : Nat} : N x = (y : Int) → Up N y e → Up N x e
theorem Up.snoc {N : Nat → Int} {x z e : Nat} (h : Up N x z) (he : N z = (e : Int)) : Up N x e := by
 induction h with
 | refl x => exact .step he (.refl _)
 | step h1 _ ih => exact .step h1 (ih he)
theorem Up.last {N : Nat → Int} {x e : Nat} (h : Up N x e) : x = e ∨ ∃ z, Up N x z ∧ N z = (e : Int) := by
 induction h with
 | refl x => exact .inl rfl
 | step h1 _ ih =>
  rcases ih with rfl | ⟨z, h2, h3⟩
  ·exact .inr ⟨_, .refl _, h1⟩
  ·exact .inr ⟨z, .step h1 h2, h3⟩
theorem Up.det {N : Nat → Int} {a e e' : Nat} (h : Up N a e) (h' : Up N a e') (he : N e < 0) (he' : N e' < 0) : e = e' := by
 induction h with
 | refl x => cases h' with
  | refl => rfl
  | step h1 _ => omega
 | step h1 _ ih => cases h' with
  | refl => omega
  | step h2 h3 =>
   rw [h1] at h2
   have := Int.ofNat_inj.1 h2
   subst this
   exact ih h3 he
inductive Dn (n : Nat) (R : Nat → Nat → Bool) (I : Nat → Bool) (N L : Nat → Int) : Nat → Prop
 | base {x : Nat} : x < n → I x = true → N x < 0 → Dn n R I N L x
 | step {i j x : Nat} : Dn n R I N L i → j < n → R i j = true → L j = (x : Int) → Dn n R I N L x
def Met (n : Nat) (R : Nat → Nat → Bool) (I : Nat → Bool) (N L : Nat → Int) (j : Nat) : Prop := ∃ i, Dn n R I N L i ∧ R i j = true
noncomputable def topA (n : Nat) (R : Nat → Nat → Bool) (I : Nat → Bool) (N L : Nat → Int) (x : Nat) : Bool := @decide (Dn n R I N L x ∧ ¬ Met n R I N L x) (Classical.propDecidable _)
theorem topA_iff {n : Nat} {R : Nat → Nat → Bool} {I : Nat → Bool} {N L : Nat → Int} {x : Nat} : topA n R I N L x = true ↔ Dn n R I N L x ∧ ¬ Met n R I N L x := by
 unfold topA
 exact @decide_eq_true_iff _ (Classical.propDecidable _)
def Ant (n : Nat) (R : Nat → Nat → Bool) (I P : Nat → Bool) : Prop := (∀ x, x < n → P x = true → I x = true) ∧ ∀ x y, x < n → y < n → P x = true → P y = true → R x y = false
section
variable {n : Nat} {R : Nat → Nat → Bool} {I : Nat → Bool} {N L : Nat → Int} {m : Nat}
theorem Mat.next (h : Mat n R I N L m) {x : Nat} (hx : x < n) (hN : 0 ≤ N x) : ∃ y : Nat, y < n ∧ N x = y ∧ R x y = true ∧ L y = x ∧ I x = true ∧ I y = true := by
 obtain ⟨j, hj, e⟩ := h.k.d x hx hN
 have c := h.k.c j hj (by omega)
 have a := h.k.a j hj (by omega)
 rw [e, Int.toNat_natCast] at c a
 exact ⟨j, hj, c, a.2.1, e, a.2.2, h.inI x j hx hj a.2.1⟩
theorem Mat.prev (h : Mat n R I N L m) {y : Nat} (hy : y < n) (hL : 0 ≤ L y) : ∃ x : Nat, x < n ∧ L y = x ∧ N x = y := by
 have a := h.k.a y hy hL
 exact ⟨(L y).toNat, by omega, by omega, h.k.c y hy hL⟩
theorem Mat.up_lt (h : Mat n R I N L m) {x e : Nat} (hu : Up N x e) (hx : x < n) : e < n ∧ (x = e ∨ R x e = true) := by
 induction hu with
 | refl x => exact ⟨hx, .inl rfl⟩
 | step h1 _ ih =>
  obtain ⟨y', hy, e1, r, _⟩ := h.next hx (by omega)
  rw [h1] at e1
  have := Int.ofNat_inj.1 e1
  subst this
  obtain ⟨h2, h3⟩ := ih hy
  refine ⟨h2, .inr ?_⟩
  rcases h3 with rfl | h3
  ·exact r
  ·exact h.tr _ _ _ hx hy h2 r h3
theorem Mat.up_tot (h : Mat n R I N L m) {x e : Nat} (hu : Up N x e) : ∀ y, y < n → x < n → Up N y e → Up N x y ∨ Up N y x := by
 induction hu with
 | refl x => exact fun y _ _ hy => .inr hy
 | @step x x1 e h1 _ ih =>
  intro y hy hx hu
  obtain ⟨x2, hx2, e1, r, l1, _⟩ := h.next hx (by omega)
  rw [h1] at e1
  have := Int.ofNat_inj.1 e1
  subst this
  rcases ih y hy hx2 hu with h2 | h2
  ·exact .inl (.step h1 h2)
  ·rcases h2.last with rfl | ⟨z, h3, h4⟩
   ·exact .inl (.step h1 (.refl _))
   ·have hz := (h.up_lt h3 hy).1
    obtain ⟨x3, hx3, e3, _, l3, _⟩ := h.next hz (by omega)
    rw [h4] at e3
    have := Int.ofNat_inj.1 e3
    subst this
    rw [l1] at l3
    have := Int.ofNat_inj.1 l3
    subst this
    exact .inr h3
theorem Mat.lessU (h : Mat n R I N L m) {x y : Nat} (hx : x < n) (hy : y < n) (r : R x y = true) : card n (R y) < card n (R x) :=
 card_lt (fun z hz hr => h.tr _ _ _ hx hy hz r hr) hy (h.irr y hy) r
theorem Mat.lessD (h : Mat n R I N L m) {x y : Nat} (hx : x < n) (hy : y < n) (r : R x y = true) : card n (fun z => R z x) < card n (fun z => R z y) :=
 card_lt (fun z hz hr => h.tr _ _ _ hz hx hy hr r) hx (h.irr x hx) r
theorem Mat.up_end (h : Mat n R I N L m) : ∀ (k x : Nat), x < n → card n (R x) ≤ k → ∃ e, Up N x e ∧ e < n ∧ N e < 0 := by
 intro k
 induction k with
 | zero =>
  intro x hx hk
  by_cases hN : N x < 0
  ·exact ⟨x, .refl _, hx, hN⟩
  ·obtain ⟨y, hy, _, r, _⟩ := h.next hx (by omega)
   have := h.lessU hx hy r
   omega
 | succ k ih =>
  intro x hx hk
  by_cases hN : N x < 0
  ·exact ⟨x, .refl _, hx, hN⟩
  ·obtain ⟨y, hy, e1, r, _⟩ := h.next hx (by omega)
   have := h.lessU hx hy r
   obtain ⟨e, h1, h2, h3⟩ := ih y hy (by omega)
   exact ⟨e, .step e1 h1, h2, h3⟩
theorem Mat.endF (h : Mat n R I N L m) : ∃ f : Nat → Nat, ∀ x, x < n → Up N x (f x) ∧ f x < n ∧ N (f x) < 0 := by
 have q : ∀ x, ∃ e, x < n → Up N x e ∧ e < n ∧ N e < 0 := fun x => by
  by_cases hx : x < n
  ·obtain ⟨e, he⟩ := h.up_end _ x hx (Nat.le_refl _)
   exact ⟨e, fun _ => he⟩
  ·exact ⟨0, fun h => absurd h hx⟩
 exact ⟨fun x => Classical.choose (q x), fun x hx => Classical.choose_spec (q x) hx⟩
theorem Mat.ends (h : Mat n R I N L m) : card n (fun x => I x && decide (N x < 0)) + m = card n I := by
 have e1 : card n (fun x => I x && decide (0 ≤ N x)) = m := by
  rw [h.k.f]
  refine card_congr fun x hx => ?_
  by_cases hN : 0 ≤ N x
  ·obtain ⟨_, _, _, _, _, hI, _⟩ := h.next hx hN
   simp [hI]
  ·simp [hN]
 have e2 : card n (fun x => I x && !decide (0 ≤ N x)) = card n (fun x => I x && decide (N x < 0)) := card_congr fun x _ => by
  by_cases hN : 0 ≤ N x
  ·simp [hN, show ¬ N x < 0 by omega]
  ·simp [hN, show N x < 0 by omega]
 have := card_split n I (fun x => decide (0 ≤ N x))
 rw [e1, e2] at this
 omega
theorem Mat.up_in (h : Mat n R I N L m) {x e : Nat} (hu : Up N x e) (hx : x < n) (hI : I x = true) : I e = true := by
 obtain ⟨h1, h2⟩ := h.up_lt hu hx
 rcases h2 with rfl | h2
 ·exact hI
 ·exact h.inI _ _ hx h1 h2
theorem Mat.ant_end (h : Mat n R I N L m) {P : Nat → Bool} (hP : Ant n R I P) {x y e : Nat} (hx : x < n) (hy : y < n) (px : P x = true) (py : P y = true) (ux : Up N x e) (uy : Up N y e) : x = y := by
 rcases h.up_tot ux y hy hx uy with h1 | h1
 ·rcases (h.up_lt h1 hx).2 with h2 | h2
  ·exact h2
  ·rw [hP.2 x y hx hy px py] at h2; exact absurd h2 (by decide)
 ·rcases (h.up_lt h1 hy).2 with h2 | h2
  ·exact h2.symm
  ·rw [hP.2 y x hy hx py px] at h2; exact absurd h2 (by decide)
theorem Mat.anti_le (h : Mat n R I N L m) {P : Nat → Bool} (hP : Ant n R I P) : card n P + m ≤ card n I := by
 rw [← h.ends]
 obtain ⟨f, hf⟩ := h.endF
 refine Nat.add_le_add_right (card_inj f (fun x hx px => ?_) (fun x y hx hy px py e => ?_)) m
 ·obtain ⟨h1, h2, h3⟩ := hf x hx
  refine ⟨h2, ?_⟩
  rw [h.up_in h1 hx (hP.1 x hx px), Bool.true_and]
  exact decide_eq_true h3
 ·refine h.ant_end hP hx hy px py (hf x hx).1 ?_
  rw [e]; exact (hf y hy).1
theorem Mat.dn_lt (h : Mat n R I N L m) {x : Nat} (hd : Dn n R I N L x) : x < n ∧ I x = true := by
 cases hd with
 | base h1 h2 _ => exact ⟨h1, h2⟩
 | step _ hj _ hL =>
  have := h.k.a _ hj (by omega)
  rw [hL, Int.toNat_natCast] at this
  exact ⟨by omega, this.2.2⟩
theorem Mat.closed (h : Mat n R I N L m) {i : Nat} (hd : Dn n R I N L i) : ∃ C, LClosed n R C L ∧ ∀ q, q < n → R i q = true → C q = true := by
 induction hd with
 | base h1 h2 h3 => exact h.k.e _ h1 h1 h2 h3
 | step _ hj hR hL ih =>
  obtain ⟨C, h1, h2⟩ := ih
  refine ⟨C, h1, fun q hq hr => ?_⟩
  have := (h1 _ hj (h2 _ hj hR)).2 q hq
  rw [hL, Int.toNat_natCast] at this
  exact this hr
theorem Mat.met_last (h : Mat n R I N L m) {j : Nat} (hj : j < n) (hm : Met n R I N L j) : ∃ x : Nat, x < n ∧ L j = x ∧ N x = j ∧ Dn n R I N L x := by
 obtain ⟨i, hi, hr⟩ := hm
 obtain ⟨C, h1, h2⟩ := h.closed hi
 obtain ⟨x, h3, h4, h5⟩ := h.prev hj (h1 j hj (h2 j hj hr)).1
 exact ⟨x, h3, h4, h5, .step hi hj hr h4⟩
theorem Mat.down_top (h : Mat n R I N L m) : ∀ (k x : Nat), Dn n R I N L x → card n (fun z => R z x) ≤ k → ∃ a, a < n ∧ Up N a x ∧ topA n R I N L a = true := by
 intro k
 induction k with
 | zero =>
  intro x hd hk
  have hx := (h.dn_lt hd).1
  by_cases hm : Met n R I N L x
  ·obtain ⟨z, hz, h1, h2, h3⟩ := h.met_last hx hm
   obtain ⟨y, hy, e1, r, _⟩ := h.next hz (by omega)
   have : y = x := by omega
   subst this
   have := h.lessD hz hy r
   omega
  ·exact ⟨x, hx, .refl _, topA_iff.2 ⟨hd, hm⟩⟩
 | succ k ih =>
  intro x hd hk
  have hx := (h.dn_lt hd).1
  by_cases hm : Met n R I N L x
  ·obtain ⟨z, hz, h1, h2, h3⟩ := h.met_last hx hm
   obtain ⟨y, hy, e1, r, _⟩ := h.next hz (by omega)
   have : y = x := by omega
   subst this
   have := h.lessD hz hy r
   obtain ⟨a, ha, hu, ht⟩ := ih z h3 (by omega)
   exact ⟨a, ha, hu.snoc h2, ht⟩
  ·exact ⟨x, hx, .refl _, topA_iff.2 ⟨hd, hm⟩⟩
theorem Mat.top_ant (h : Mat n R I N L m) : Ant n R I (topA n R I N L) := by
 refine ⟨fun x _ hx => (h.dn_lt (topA_iff.1 hx).1).2, fun x y _ _ hx hy => ?_⟩
 cases hr : R x y with
 | false => rfl
 | true => exact absurd ⟨x, (topA_iff.1 hx).1, hr⟩ (topA_iff.1 hy).2
theorem Mat.top_card (h : Mat n R I N L m) : card n (topA n R I N L) + m = card n I := by
 refine Nat.le_antisymm (h.anti_le h.top_ant) ?_
 rw [← h.ends]
 have q : ∀ x, ∃ a, x < n → I x = true → N x < 0 → a < n ∧ Up N a x ∧ topA n R I N L a = true := fun x => by
  by_cases hx : x < n ∧ I x = true ∧ N x < 0
  ·obtain ⟨a, ha⟩ := h.down_top _ x (.base hx.1 hx.2.1 hx.2.2) (Nat.le_refl _)
   exact ⟨a, fun _ _ _ => ha⟩
  ·exact ⟨0, fun h1 h2 h3 => absurd ⟨h1, h2, h3⟩ hx⟩
 refine Nat.add_le_add_right (card_inj (fun x => Classical.choose (q x)) (fun x hx px => ?_) (fun x y hx hy px py e => ?_)) m
 ·simp only [Bool.and_eq_true, decide_eq_true_eq] at px
  have := Classical.choose_spec (q x) hx px.1 px.2
  exact ⟨this.1, this.2.2⟩
 ·simp only [Bool.and_eq_true, decide_eq_true_eq] at px py
  have h1 := Classical.choose_spec (q x) hx px.1 px.2
  have h2 := Classical.choose_spec (q y) hy py.1 py.2
  rw [show Classical.choose (q x) = Classical.choose (q y) from e] at h1
  exact h1.2.1.det h2.2.1 px.2 py.2
theorem Mat.meets (h : Mat n R I N L m) {B : Nat → Bool} (hB : Ant n R I B) (hc : card n B + m = card n I) {x : Nat} (hx : x < n) (hI : I x = true) : ∃ b, b < n ∧ B b = true ∧ (Up N x b ∨ Up N b x) := by
 obtain ⟨f, hf⟩ := h.endF
 obtain ⟨h1, h2, h3⟩ := hf x hx
 refine Classical.byContradiction fun hno => ?_
 have no : ∀ b, b < n → B b = true → f b ≠ f x := fun b hb hBb e => by
  have h4 := (hf b hb).1
  rw [e] at h4
  exact hno ⟨b, hb, hBb, h.up_tot h1 b hb hx h4⟩
 have c1 : card n B ≤ card n (fun y => (I y && decide (N y < 0)) && decide (y ≠ f x)) := card_inj f (fun b hb hBb => by
  obtain ⟨g1, g2, g3⟩ := hf b hb
  refine ⟨g2, ?_⟩
  rw [h.up_in g1 hb (hB.1 b hb hBb), Bool.true_and, Bool.and_eq_true]
  exact ⟨decide_eq_true g3, decide_eq_true (no b hb hBb)⟩) (fun b c hb hc hBb hBc e => h.ant_end hB hb hc hBb hBc (hf b hb).1 (by rw [e]; exact (hf c hc).1))
 have c2 : card n (fun y => (I y && decide (N y < 0)) && decide (y ≠ f x)) < card n (fun y => I y && decide (N y < 0)) := card_lt (k := f x) (fun y _ hy => by
  rw [Bool.and_eq_true] at hy; exact hy.1) h2 (by simp) (by rw [h.up_in h1 hx hI, Bool.true_and]; exact decide_eq_true h3)
 have := h.ends
 omega
theorem Mat.low (h : Mat n R I N L m) {B : Nat → Bool} (hB : Ant n R I B) (hc : card n B + m = card n I) {x : Nat} (hd : Dn n R I N L x) : ∃ b, b < n ∧ B b = true ∧ (b = x ∨ R b x = true) := by
 induction hd with
 | @base x h1 h2 h3 =>
  obtain ⟨b, hb, hBb, hu⟩ := h.meets hB hc h1 h2
  rcases hu with hu | hu
  ·cases hu with
   | refl => exact ⟨_, hb, hBb, .inl rfl⟩
   | step h4 _ => omega
  ·exact ⟨b, hb, hBb, (h.up_lt hu hb).2⟩
 | @step i j x hi hj hr hL ih =>
  obtain ⟨b, hb, hBb, hbi⟩ := ih
  have hin := (h.dn_lt hi).1
  have hbj : R b j = true := by
   rcases hbi with rfl | hbi
   ·exact hr
   ·exact h.tr _ _ _ hb hin hj hbi hr
  obtain ⟨z, hz, e1, e2⟩ := h.prev hj (by omega)
  have : z = x := by omega
  subst this
  obtain ⟨c, hcn, hBc, hu⟩ := h.meets hB hc hj (h.inI _ _ hin hj hr)
  rcases hu with hu | hu
  ·rcases (h.up_lt hu hj).2 with rfl | h2
   ·rw [hB.2 b j hb hj hBb hBc] at hbj; exact absurd hbj (by decide)
   ·have := h.tr _ _ _ hb hj hcn hbj h2
    rw [hB.2 b c hb hcn hBb hBc] at this; exact absurd this (by decide)
  ·rcases hu.last with rfl | ⟨y, h3, h4⟩
   ·rw [hB.2 b c hb hj hBb hBc] at hbj; exact absurd hbj (by decide)
   ·have hy := (h.up_lt h3 hcn).1
    obtain ⟨y2, hy2, e3, _, l3, _⟩ := h.next hy (by omega)
    have : y2 = j := by omega
    subst this
    have : y = z := by omega
    subst this
    exact ⟨c, hcn, hBc, (h.up_lt h3 hcn).2⟩
theorem Mat.up_top (h : Mat n R I N L m) : ∀ (k x : Nat), x < n → I x = true → ¬ Met n R I N L x → card n (R x) ≤ k → ∃ a, a < n ∧ topA n R I N L a = true ∧ (x = a ∨ R x a = true) := by
 intro k
 have main : ∀ x, x < n → I x = true → ¬ Met n R I N L x → (∀ y, y < n → I y = true → ¬ Met n R I N L y → R x y = true → ∃ a, a < n ∧ topA n R I N L a = true ∧ (y = a ∨ R y a = true)) → ∃ a, a < n ∧ topA n R I N L a = true ∧ (x = a ∨ R x a = true) := fun x hx hI hm ih => by
  by_cases hd : Dn n R I N L x
  ·exact ⟨x, hx, topA_iff.2 ⟨hd, hm⟩, .inl rfl⟩
  ·by_cases hN : N x < 0
   ·exact absurd (.base hx hI hN) hd
   ·obtain ⟨y, hy, e1, r, l1, _, hIy⟩ := h.next hx (by omega)
    have hmy : ¬ Met n R I N L y := fun ⟨i, hi, hr⟩ => hd (.step hi hy hr l1)
    obtain ⟨a, ha, ht, h2⟩ := ih y hy hIy hmy r
    refine ⟨a, ha, ht, .inr ?_⟩
    rcases h2 with rfl | h2
    ·exact r
    ·exact h.tr _ _ _ hx hy ha r h2
 induction k with
 | zero => exact fun x hx hI hm hk => main x hx hI hm fun y hy _ _ r => by have := h.lessU hx hy r; omega
 | succ k ih => exact fun x hx hI hm hk => main x hx hI hm fun y hy hIy hmy r => ih y hy hIy hmy (by have := h.lessU hx hy r; omega)
theorem Mat.top_above (h : Mat n R I N L m) {B : Nat → Bool} (hB : Ant n R I B) (hc : card n B + m = card n I) {b : Nat} (hb : b < n) (hBb : B b = true) : ∃ a, a < n ∧ topA n R I N L a = true ∧ (b = a ∨ R b a = true) := by
 refine h.up_top _ b hb (hB.1 b hb hBb) (fun ⟨i, hi, hr⟩ => ?_) (Nat.le_refl _)
 obtain ⟨c, hcn, hBc, h2⟩ := h.low hB hc hi
 have hin := (h.dn_lt hi).1
 have : R c b = true := by
  rcases h2 with rfl | h2
  ·exact hr
  ·exact h.tr _ _ _ hcn hin hb h2 hr
 rw [hB.2 c b hcn hb hBc hBb] at this
 exact absurd this (by decide)
end
structure Strict (n : Nat) (R : Nat → Nat → Bool) : Prop where
 irr : ∀ x, x < n → R x x = false
 tr : ∀ x y z, x < n → y < n → z < n → R x y = true → R y z = true → R x z = true
def inRel (I : Nat → Bool) (R : Nat → Nat → Bool) (i j : Nat) : Bool := I j && R i j
section
variable {n : Nat} {R : Nat → Nat → Bool} {I : Nat → Bool}
theorem inRel_iff {i j : Nat} : inRel I R i j = true ↔ I j = true ∧ R i j = true := by unfold inRel; rw [Bool.and_eq_true]
theorem Strict.inRel (h : Strict n R) (I : Nat → Bool) : Strict n (inRel I R) :=
 ⟨fun x hx => by unfold Proofs.Ytnbdfmdjedakcaa.inRel; rw [h.irr x hx, Bool.and_false], fun x y z hx hy hz h1 h2 => by
  rw [inRel_iff] at *
  exact ⟨h2.1, h.tr x y z hx hy hz h1.2 h2.2⟩⟩
def wid (n : Nat) (R : Nat → Nat → Bool) (I : Nat → Bool) (F : Nat) : Option Nat := match runK n (inRel I R) I F n with
 | none => none
 | some (_, _, m) => some (card n I - m)
theorem Strict.mat (h : Strict n R) {F : Nat} {N L : Nat → Int} {m : Nat} (hr : runK n (_root_.Go.Proofs.Ytnbdfmdjedakcaa.inRel I R) I F n = some (N, L, m)) : Mat n (_root_.Go.Proofs.Ytnbdfmdjedakcaa.inRel I R) I N L m :=
 ⟨(h.inRel I).irr, (h.inRel I).tr, fun x y _ _ hxy => (inRel_iff.1 hxy).1, runK_inv n (Nat.le_refl _) N L m hr⟩
theorem ant_in {P : Nat → Bool} : Ant n (inRel I R) I P ↔ Ant n R I P := by
 constructor
 ·rintro ⟨h1, h2⟩
  refine ⟨h1, fun x y hx hy px py => ?_⟩
  have := h2 x y hx hy px py
  unfold inRel at this
  rw [h1 y hy py, Bool.true_and] at this
  exact this
 ·rintro ⟨h1, h2⟩
  refine ⟨h1, fun x y hx hy px py => ?_⟩
  unfold inRel
  rw [h2 x y hx hy px py, Bool.and_false]
theorem wid_le (h : Strict n R) {F w : Nat} (hw : wid n R I F = some w) {P : Nat → Bool} (hP : Ant n R I P) : card n P ≤ w := by
 unfold wid at hw
 cases hr : runK n (inRel I R) I F n with
 | none => rw [hr] at hw; exact absurd hw (by simp)
 | some q =>
  obtain ⟨N, L, m⟩ := q
  rw [hr] at hw
  have e := Option.some.inj hw
  have := (h.mat hr).anti_le (ant_in.2 hP)
  omega
theorem wid_ex (h : Strict n R) {F w : Nat} (hw : wid n R I F = some w) : ∃ P, Ant n R I P ∧ card n P = w := by
 unfold wid at hw
 cases hr : runK n (inRel I R) I F n with
 | none => rw [hr] at hw; exact absurd hw (by simp)
 | some q =>
  obtain ⟨N, L, m⟩ := q
  rw [hr] at hw
  have e := Option.some.inj hw
  have M := h.mat hr
  have := M.top_card
  exact ⟨_, ant_in.1 M.top_ant, by omega⟩
theorem wid_some (h : Strict n R) {F : Nat} (hF : n * (n + 1) + n < F) (I : Nat → Bool) : ∃ w, wid n R I F = some w := by
 obtain ⟨N, L, m, hr⟩ := runK_some (n := n) (R := inRel I R) (I := I) hF n (Nat.le_refl _)
 exact ⟨_, by unfold wid; rw [hr]⟩
def apartI (R : Nat → Nat → Bool) (i j : Nat) : Bool := decide (i ≠ j) && (!R i j && !R j i)
theorem apartI_iff {i j : Nat} : apartI R i j = true ↔ i ≠ j ∧ R i j = false ∧ R j i = false := by
 unfold apartI
 simp only [Bool.and_eq_true, decide_eq_true_eq, Bool.not_eq_true']
theorem some_iff (h : Strict n R) {F w v : Nat} {i : Nat} (hi : i < n) (hw : wid n R (fun _ => true) F = some w) (hv : wid n R (apartI R i) F = some v) : v + 1 = w ↔ ∃ B, Ant n R (fun _ => true) B ∧ card n B = w ∧ B i = true := by
 have up : ∀ P, Ant n R (apartI R i) P → Ant n R (fun _ => true) (fun x => P x || decide (x = i)) ∧ card n (fun x => P x || decide (x = i)) = card n P + 1 := fun P hP => by
  have hPi : P i = false := by
   cases e : P i with
   | false => rfl
   | true => exact absurd rfl (apartI_iff.1 (hP.1 i hi e)).1
  refine ⟨⟨fun _ _ _ => rfl, fun x y hx hy px py => ?_⟩, card_one hi hPi (by simp) (fun x _ hne => by simp [hne])⟩
  simp only [Bool.or_eq_true, decide_eq_true_eq] at px py
  rcases px with px | rfl
  ·rcases py with py | rfl
   ·exact hP.2 x y hx hy px py
   ·exact (apartI_iff.1 (hP.1 x hx px)).2.2
  ·rcases py with py | rfl
   ·exact (apartI_iff.1 (hP.1 y hy py)).2.1
   ·exact h.irr _ hx
 constructor
 ·intro e
  obtain ⟨P, hP, hc⟩ := wid_ex h hv
  obtain ⟨h1, h2⟩ := up P hP
  exact ⟨_, h1, by omega, by simp⟩
 ·rintro ⟨B, hB, hc, hBi⟩
  have hQ : Ant n R (apartI R i) (fun x => B x && !decide (x = i)) := by
   refine ⟨fun x hx px => ?_, fun x y hx hy px py => ?_⟩
   ·simp only [Bool.and_eq_true, Bool.not_eq_true', decide_eq_false_iff_not] at px
    exact apartI_iff.2 ⟨fun e => px.2 e.symm, hB.2 i x hi hx hBi px.1, hB.2 x i hx hi px.1 hBi⟩
   ·simp only [Bool.and_eq_true] at px py
    exact hB.2 x y hx hy px.1 py.1
  have c1 := card_one (n := n) (P := fun x => B x && !decide (x = i)) (Q := B) hi (by simp) hBi (fun x _ hne => by simp [hne])
  have c2 := wid_le h hv hQ
  obtain ⟨P, hP, hc3⟩ := wid_ex h hv
  obtain ⟨h1, h2⟩ := up P hP
  have c4 := wid_le h hw h1
  omega
end
end Go.Proofs.Ytnbdfmdjedakcaa
namespace Go.Proofs.Ytnbdfmdjedakcaa
open Go.RowKit Go.Proofs.YtnbdfmdjedakcaaW.PrintWords Go.Proofs.YtnbdfmdjedakcaaW.PrintLast Go.Proofs.YtnbdfmdjedakcaaW.PrintMore PP
set_option linter.unusedVariables false
theorem bef_iff {l : List S36} {i j : Nat} : befG l i j = true ↔ belowG l[i]! l[j]! = true ∧ (l[i]! = l[j]! → i < j) := by
 unfold befG
 by_cases e : eqG l[i]! l[j]! = true
 ·rw [if_pos e, decide_eq_true_iff, eqG_iff.1 e]
  exact ⟨fun h => ⟨below_refl _, fun _ => h⟩, fun h => h.2 rfl⟩
 ·rw [if_neg e]
  exact ⟨fun h => ⟨h, fun e2 => absurd (eqG_iff.2 e2) e⟩, fun h => h.1⟩
theorem bef_strict (l : List S36) : Strict l.length (befG l) := by
 refine ⟨fun x _ => ?_, fun x y z _ _ _ h1 h2 => ?_⟩
 ·cases e : befG l x x with
  | false => rfl
  | true => have := (bef_iff.1 e).2 rfl; omega
 ·rw [bef_iff] at *
  refine ⟨below_trans h1.1 h2.1, fun e => ?_⟩
  have e2 : l[x]! = l[y]! := below_anti h1.1 (by rw [e]; exact h2.1)
  have := h1.2 e2
  have := h2.2 (by rw [← e2, e])
  omega
theorem lk_eq (l : List S36) : ∀ f i j N L T, lk l f i j N L T = lkG l.length (befG l) f i j N L T := by
 intro f
 induction f with
 | zero => exact fun _ _ _ _ _ => rfl
 | succ f ih =>
  intro i j N L T
  rw [lk, lkG]
  simp only [ih]
  rfl
theorem lkd_eq (l : List S36) (F : Nat) : ∀ k, lkd l F k = (runK l.length (befG l) (fun _ => true) F k).map fun q => (q.1, q.2.1)
 | 0 => rfl
 | k + 1 => by
  rw [lkd, runK, lkd_eq l F k]
  cases runK l.length (befG l) (fun _ => true) F k with
  | none => rfl
  | some q =>
   obtain ⟨N, L, m⟩ := q
   simp only [Option.map_some, lk_eq, if_true]
   cases lkG l.length (befG l) F k 0 N L (fun _ => false) with
   | none => rfl
   | some q => rfl
section
variable {l : List S36} {N L : Nat → Int} {m : Nat}
structure PI (l : List S36) (N L : Nat → Int) (p cur j : Nat) (D M : Nat → Bool) (t : List Int) : Prop where
 a : ∀ x, D x = true → Dn l.length (befG l) (fun _ => true) N L x
 b : ∀ x, M x = true → x < l.length ∧ Met l.length (befG l) (fun _ => true) N L x
 c : ∀ x, x < l.length → N x < 0 → D x = true
 d : ∀ x, D x = true → (x : Int) ∈ t ∨ (x = cur ∧ ∀ k, k < j → befG l x k = true → M k = true) ∨ ∀ k, k < l.length → befG l x k = true → M k = true
 e : ∀ k, M k = true → 0 ≤ L k → D (L k).toNat = true
 f : ∀ y ∈ t, ∃ x : Nat, y = (x : Int) ∧ x < l.length ∧ D x = true
 g : t.length + p = card l.length D
theorem PI.skip {p cur j : Nat} {D M : Nat → Bool} {t : List Int} (h : PI l N L p cur j D M t) (hj : befG l cur j = true → M j = true) : PI l N L p cur (j + 1) D M t := by
 refine ⟨h.a, h.b, h.c, fun x hx => ?_, h.e, h.f, h.g⟩
 rcases h.d x hx with h1 | ⟨rfl, h1⟩ | h1
 ·exact .inl h1
 ·refine .inr (.inl ⟨rfl, fun k hk hr => ?_⟩)
  by_cases e : k = j
  ·subst e; exact hj hr
  ·exact h1 k (by omega) hr
 ·exact .inr (.inr h1)
theorem PI.mark {p cur j : Nat} {D M : Nat → Bool} {t : List Int} (h : PI l N L p cur j D M t) (hc : Dn l.length (befG l) (fun _ => true) N L cur) (hj : j < l.length) (hr : befG l cur j = true) (hL : 0 ≤ L j → D (L j).toNat = true) : PI l N L p cur (j + 1) D (upd M j true) t := by
 have up : ∀ k, M k = true → upd M j true k = true := fun k hk => by
  by_cases e : k = j
  ·subst e; exact upd_same _ _ _
  ·rw [upd_ne _ _ e]; exact hk
 refine PI.skip ⟨h.a, fun x hx => ?_, h.c, fun x hx => ?_, fun k hk h0 => ?_, h.f, h.g⟩ (fun _ => upd_same _ _ _)
 ·by_cases e : x = j
  ·subst e; exact ⟨hj, cur, hc, hr⟩
  ·rw [upd_ne _ _ e] at hx; exact h.b x hx
 ·rcases h.d x hx with h1 | ⟨rfl, h1⟩ | h1
  ·exact .inl h1
  ·exact .inr (.inl ⟨rfl, fun k hk hr => up k (h1 k hk hr)⟩)
  ·exact .inr (.inr fun k hk hr => up k (h1 k hk hr))
 ·by_cases e : k = j
  ·subst e; exact hL h0
  ·rw [upd_ne _ _ e] at hk; exact h.e k hk h0
theorem PI.more {p cur j : Nat} {D M : Nat → Bool} {t : List Int} (h : PI l N L p cur j D M t) {y : Nat} (hy : y < l.length) (hd : Dn l.length (befG l) (fun _ => true) N L y) (hD : D y = false) : PI l N L p cur j (upd D y true) M (t ++ [(y : Int)]) := by
 have up : ∀ k, D k = true → upd D y true k = true := fun k hk => by
  by_cases e : k = y
  ·subst e; exact upd_same _ _ _
  ·rw [upd_ne _ _ e]; exact hk
 refine ⟨fun x hx => ?_, h.b, fun x hx hN => up x (h.c x hx hN), fun x hx => ?_, fun k hk h0 => up _ (h.e k hk h0), fun z hz => ?_, ?_⟩
 ·by_cases e : x = y
  ·subst e; exact hd
  ·rw [upd_ne _ _ e] at hx; exact h.a x hx
 ·by_cases e : x = y
  ·subst e; exact .inl (by simp)
  ·rw [upd_ne _ _ e] at hx
   rcases h.d x hx with h1 | h1
   ·exact .inl (List.mem_append_left _ h1)
   ·exact .inr h1
 ·rcases List.mem_append.1 hz with h1 | h1
  ·obtain ⟨x, h2, h3, h4⟩ := h.f z h1
   exact ⟨x, h2, h3, up x h4⟩
  ·exact ⟨y, List.mem_singleton.1 h1, hy, upd_same _ _ _⟩
 ·have := card_one (n := l.length) (P := D) (Q := upd D y true) hy hD (upd_same _ _ _) (fun x _ hne => upd_ne _ _ hne)
  have := h.g
  rw [List.length_append, List.length_singleton]
  omega
theorem p2_inv (hM : Mat l.length (befG l) (fun _ => true) N L m) {p cur : Nat} {D M : Nat → Bool} {t : List Int} (hc : Dn l.length (befG l) (fun _ => true) N L cur) (h : PI l N L p cur 0 D M t) : ∀ j, j ≤ l.length → PI l N L p cur j (p2 l L cur (D, M, t) j).1 (p2 l L cur (D, M, t) j).2.1 (p2 l L cur (D, M, t) j).2.2
 | 0, _ => h
 | j + 1, hj => by
  have ih := p2_inv hM hc h j (by omega)
  rw [p2]
  generalize p2 l L cur (D, M, t) j = q at ih
  obtain ⟨D1, M1, t1⟩ := q
  simp only at ih ⊢
  by_cases h1 : befG l cur j = false
  ·rw [if_pos h1]; exact ih.skip fun h2 => by rw [h1] at h2; exact absurd h2 (by decide)
  ·have hr : befG l cur j = true := by simpa using h1
   rw [if_neg h1]
   by_cases h2 : M1 j = true
   ·rw [if_pos h2]; exact ih.skip fun _ => h2
   ·rw [if_neg h2]
    by_cases h3 : L j < 0
    ·rw [if_pos h3]; exact ih.mark hc (by omega) hr (fun h4 => by omega)
    ·rw [if_neg h3]
     by_cases h4 : D1 (L j).toNat = true
     ·rw [if_pos h4]; exact ih.mark hc (by omega) hr (fun _ => h4)
     ·rw [if_neg h4]
      obtain ⟨x, hx, e, _⟩ := hM.prev (show j < l.length by omega) (by omega)
      rw [e, Int.toNat_natCast] at h4 ⊢
      refine (ih.more hx (.step hc (by omega) hr e) (by simpa using h4)).mark hc (by omega) hr (fun _ => ?_)
      rw [e, Int.toNat_natCast]
      exact upd_same _ _ _
theorem p3_inv (hM : Mat l.length (befG l) (fun _ => true) N L m) (hn : l.length ≤ 1000000) : ∀ f D M t p cur, PI l N L p cur l.length D M t → l.length < f + p → ∃ D' M' p' cur', p3 l L f D M t = some (D', M') ∧ PI l N L p' cur' l.length D' M' [] := by
 intro f
 induction f with
 | zero =>
  intro D M t p cur h hf
  have := h.g
  have := card_le l.length D
  omega
 | succ f ih =>
  intro D M t p cur h hf
  cases t with
  | nil => exact ⟨D, M, p, cur, rfl, h⟩
  | cons y t =>
   obtain ⟨x, rfl, hx, hDx⟩ := h.f y List.mem_cons_self
   have hg := h.g
   have hle := card_le l.length D
   rw [List.length_cons] at hg
   rw [p3, if_pos ⟨by omega, by omega, by omega⟩, Int.toNat_natCast]
   have h1 : PI l N L (p + 1) x 0 D M t := by
    refine ⟨h.a, h.b, h.c, fun z hz => ?_, h.e, fun z hz => h.f z (List.mem_cons_of_mem _ hz), by omega⟩
    rcases h.d z hz with h1 | ⟨_, h1⟩ | h1
    ·rcases List.mem_cons.1 h1 with h2 | h2
     ·exact .inr (.inl ⟨by omega, fun k hk => by omega⟩)
     ·exact .inl h2
    ·exact .inr (.inr h1)
    ·exact .inr (.inr h1)
   exact ih _ _ _ _ _ (p2_inv hM (h.a x hDx) h1 l.length (Nat.le_refl _)) (by omega)
theorem PI.dn (hM : Mat l.length (befG l) (fun _ => true) N L m) {p cur : Nat} {D M : Nat → Bool} (h : PI l N L p cur l.length D M []) {x : Nat} (hd : Dn l.length (befG l) (fun _ => true) N L x) : D x = true := by
 have q : ∀ x, D x = true → ∀ k, k < l.length → befG l x k = true → M k = true := fun x hx => by
  rcases h.d x hx with h1 | ⟨_, h1⟩ | h1
  ·exact absurd h1 (by simp)
  ·exact h1
  ·exact h1
 induction hd with
 | base h1 _ h3 => exact h.c _ h1 h3
 | step _ hj hr hL ih =>
  have := h.e _ (q _ ih _ hj hr) (by omega)
  rwa [hL, Int.toNat_natCast] at this
theorem PI.top (hM : Mat l.length (befG l) (fun _ => true) N L m) {p cur : Nat} {D M : Nat → Bool} (h : PI l N L p cur l.length D M []) {x : Nat} (hx : x < l.length) : (D x && !M x) = topA l.length (befG l) (fun _ => true) N L x := by
 rw [Bool.eq_iff_iff, topA_iff, Bool.and_eq_true, Bool.not_eq_true']
 constructor
 ·rintro ⟨h1, h2⟩
  refine ⟨h.a x h1, fun ⟨i, hi, hr⟩ => ?_⟩
  have h3 : M x = true := by
   rcases h.d i (h.dn hM hi) with h4 | ⟨_, h4⟩ | h4
   ·exact absurd h4 (by simp)
   ·exact h4 x hx hr
   ·exact h4 x hx hr
  rw [h2] at h3
  exact absurd h3 (by decide)
 ·rintro ⟨h1, h2⟩
  refine ⟨h.dn hM h1, ?_⟩
  cases e : M x with
  | false => rfl
  | true => exact absurd (h.b x e).2 h2
theorem p1_inv (N : Nat → Int) (n : Nat) : ∀ k, k ≤ n → (∀ x, (p1 N k).1 x = true ↔ x < k ∧ N x < 0) ∧ (∀ x, (p1 N k).1 x = true → (x : Int) ∈ (p1 N k).2) ∧ (∀ y ∈ (p1 N k).2, ∃ x : Nat, y = (x : Int) ∧ x < k ∧ (p1 N k).1 x = true) ∧ (p1 N k).2.length = card n (p1 N k).1
 | 0, _ => by
  refine ⟨fun x => by simp [p1], fun x h => absurd h (by simp [p1]), fun y h => absurd h (by simp [p1]), ?_⟩
  have : ∀ n, card n (fun _ : Nat => false) = 0 := fun n => by
   induction n with
   | zero => rfl
   | succ n ih => rw [card, ih]; rfl
  exact (this n).symm
 | k + 1, hk => by
  obtain ⟨i1, i2, i3, i4⟩ := p1_inv N n k (by omega)
  rw [p1]
  by_cases hN : N k < 0
  ·rw [if_pos hN]
   have hf : (p1 N k).1 k = false := by
    cases e : (p1 N k).1 k with
    | false => rfl
    | true => have := (i1 k).1 e; omega
   have u : ∀ x, x ≠ k → upd (p1 N k).1 k true x = (p1 N k).1 x := fun x hx => upd_ne _ _ hx
   have s : upd (p1 N k).1 k true k = true := upd_same _ _ _
   refine ⟨fun x => ?_, fun x hx => ?_, fun y hy => ?_, ?_⟩
   ·by_cases e : x = k
    ·subst e; simp only [s, true_iff]; exact ⟨by omega, hN⟩
    ·simp only [u x e, i1]
     constructor
     ·rintro ⟨h1, h2⟩; exact ⟨by omega, h2⟩
     ·rintro ⟨h1, h2⟩; exact ⟨by omega, h2⟩
   ·by_cases e : x = k
    ·subst e; simp
    ·exact List.mem_append_left _ (i2 x (by rw [← u x e]; exact hx))
   ·rcases List.mem_append.1 hy with h1 | h1
    ·obtain ⟨x, h2, h3, h4⟩ := i3 y h1
     exact ⟨x, h2, by omega, by simp only [u x (by omega)]; exact h4⟩
    ·exact ⟨k, List.mem_singleton.1 h1, by omega, s⟩
   ·rw [List.length_append, List.length_singleton, i4]
    exact (card_one (by omega) hf s (fun x _ hne => u x hne)).symm
  ·rw [if_neg hN]
   refine ⟨fun x => ?_, i2, fun y hy => ?_, i4⟩
   ·rw [i1]
    constructor
    ·rintro ⟨h1, h2⟩; exact ⟨by omega, h2⟩
    ·rintro ⟨h1, h2⟩
     refine ⟨?_, h2⟩
     by_cases e : x = k
     ·subst e; exact absurd h2 hN
     ·omega
   ·obtain ⟨x, h2, h3, h4⟩ := i3 y hy
    exact ⟨x, h2, by omega, h4⟩
theorem p4_eq (D M : Nat → Bool) : ∀ k, p4 D M k = ((List.range k).filter fun x => D x && !M x).map fun x : Nat => (x : Int)
 | 0 => rfl
 | k + 1 => by
  rw [p4, p4_eq D M k, List.range_succ, List.filter_append, List.map_append]
  by_cases h : (D k && !M k) = true
  ·rw [if_pos h, List.filter_cons, if_pos h]; rfl
  ·rw [if_neg h, List.filter_cons, if_neg h]; simp
noncomputable def topL (l : List S36) (N L : Nat → Int) : List Int := ((List.range l.length).filter (topA l.length (befG l) (fun _ => true) N L)).map fun x : Nat => (x : Int)
theorem width_top (l : List S36) (hl : l.length ≤ 32) : ∃ N L m, runK l.length (befG l) (fun _ => true) 2000 l.length = some (N, L, m) ∧ lkd l 2000 l.length = some (N, L) ∧ Mat l.length (befG l) (fun _ => true) N L m ∧ (lsF l 32 = 0 → widthF l = some (((l.length - m : Nat) : Int), topL l N L, 0)) := by
 have hF : l.length * (l.length + 1) + l.length < 2000 := by
  have : l.length * (l.length + 1) ≤ 32 * 33 := Nat.mul_le_mul hl (by omega)
  omega
 obtain ⟨N, L, m, hr⟩ := runK_some (n := l.length) (R := befG l) (I := fun _ => true) hF l.length (Nat.le_refl _)
 have S := bef_strict l
 have hM : Mat l.length (befG l) (fun _ => true) N L m := ⟨S.irr, S.tr, fun _ _ _ _ _ => rfl, runK_inv _ (Nat.le_refl _) _ _ _ hr⟩
 have hd : lkd l 2000 l.length = some (N, L) := by rw [lkd_eq, hr]; rfl
 refine ⟨N, L, m, hr, hd, hM, fun h0 => ?_⟩
 have hin : inR l.length L = true := inR_iff.2 fun j hj => by
  by_cases h : 0 ≤ L j
  ·exact (hM.k.a j hj h).1
  ·omega
 obtain ⟨i1, i2, i3, i4⟩ := p1_inv N l.length l.length (Nat.le_refl _)
 have h1 : PI l N L 0 0 l.length (p1 N l.length).1 (fun _ => false) (p1 N l.length).2 :=
  ⟨fun x hx => .base ((i1 x).1 hx).1 rfl ((i1 x).1 hx).2, fun x hx => absurd hx (by simp), fun x h2 h3 => (i1 x).2 ⟨h2, h3⟩, fun x hx => .inl (i2 x hx), fun x hx => absurd hx (by simp), i3, i4⟩
 obtain ⟨D, M, p, cur, e, h2⟩ := p3_inv hM (by omega) 100 _ _ _ _ _ h1 (by omega)
 have e4 : p4 D M l.length = topL l N L := by
  rw [p4_eq]
  unfold topL
  congr 1
  exact List.filter_congr fun x hx => h2.top hM (List.mem_range.1 hx)
 unfold widthF
 rw [if_pos h0, hd]
 simp only [if_pos hin, e, e4]
 have c : (topL l N L).length = l.length - m := by
  unfold topL
  rw [List.length_map, ← card_filter]
  have := hM.top_card
  have c2 : card l.length (fun _ => true) = l.length := by
   have : ∀ n, card n (fun _ : Nat => true) = n := fun n => by
    induction n with
    | zero => rfl
    | succ n ih => rw [card, ih]; rfl
   exact this _
  omega
 rw [c]
end
end Go.Proofs.Ytnbdfmdjedakcaa
namespace Go.Proofs.Ytnbdfmdjedakcaa
open Go.RowKit Go.Proofs.YtnbdfmdjedakcaaW.PrintWords Go.Proofs.YtnbdfmdjedakcaaW.PrintLast Go.Proofs.YtnbdfmdjedakcaaW.PrintMore PP
set_option linter.unusedVariables false
theorem Up.fork {N : Nat → Int} {a i k : Nat} (h : Up N a i) (hk : Up N a k) : Up N i k ∨ Up N k i := by
 induction h with
 | refl x => exact .inl hk
 | step h1 h2 ih => cases hk with
  | refl => exact .inr (.step h1 h2)
  | step h3 h4 =>
   rw [h1] at h3
   have := Int.ofNat_inj.1 h3
   subst this
   exact ih h4
section
variable {n : Nat} {R : Nat → Nat → Bool} {I : Nat → Bool} {N L : Nat → Int} {m : Nat}
theorem chG_some (h : Mat n R I N L m) (c : Int) : ∀ (f x : Nat) (O : Nat → Int), x < n → card n (R x) + 2 ≤ f → ∃ O', chG n N f (x : Int) c O = some O' ∧ ∀ y, (Up N x y → O' y = c) ∧ (¬ Up N x y → O' y = O y) := by
 intro f
 induction f with
 | zero => intro x O hx hf; omega
 | succ f ih =>
  intro x O hx hf
  rw [chG, if_neg (by omega), Int.toNat_natCast, if_pos hx]
  by_cases hN : N x < 0
  ·obtain ⟨f, rfl⟩ : ∃ g, f = g + 1 := ⟨f - 1, by omega⟩
   rw [chG, if_pos hN]
   refine ⟨_, rfl, fun y => ⟨fun hu => ?_, fun hu => upd_ne _ _ (fun e => hu (by subst e; exact .refl _))⟩⟩
   cases hu with
   | refl => exact upd_same _ _ _
   | step h1 _ => omega
  ·obtain ⟨z, hz, e, r, _⟩ := h.next hx (by omega)
   have := h.lessU hx hz r
   obtain ⟨O', h1, h2⟩ := ih z (upd O x c) hz (by omega)
   rw [e]
   refine ⟨O', h1, fun y => ⟨fun hu => ?_, fun hu => ?_⟩⟩
   ·by_cases hzy : Up N z y
    ·exact (h2 y).1 hzy
    ·cases hu with
     | refl => rw [(h2 x).2 hzy]; exact upd_same _ _ _
     | step h3 h4 =>
      rw [e] at h3
      have := Int.ofNat_inj.1 h3
      subst this
      exact absurd h4 hzy
   ·rw [(h2 y).2 (fun h3 => hu (.step e h3))]
    exact upd_ne _ _ (fun e => hu (by subst e; exact .refl _))
def hd0 (L : Nat → Int) (x : Nat) : Bool := decide (L x < 0)
theorem hd0_iff {x : Nat} : hd0 L x = true ↔ L x < 0 := by unfold hd0; exact decide_eq_true_iff
theorem Mat.head_one (h : Mat n R I N L m) {a b y : Nat} (ha : a < n) (hb : b < n) (la : L a < 0) (lb : L b < 0) (ua : Up N a y) (ub : Up N b y) : a = b := by
 have key : ∀ p q, p < n → q < n → L q < 0 → Up N p q → p = q := fun p q hp hq hL hu => by
  rcases hu.last with e | ⟨z, h1, h2⟩
  ·exact e
  ·have hz := (h.up_lt h1 hp).1
   obtain ⟨w, hw, e, _, l, _⟩ := h.next hz (by omega)
   have : w = q := by omega
   subst this
   omega
 rcases h.up_tot ua b hb ha ub with h1 | h1
 ·exact key a b ha hb lb h1
 ·exact (key b a hb ha la h1).symm
theorem Mat.head_ex (h : Mat n R I N L m) : ∀ (k y : Nat), y < n → card n (fun z => R z y) ≤ k → ∃ a, a < n ∧ L a < 0 ∧ Up N a y := by
 intro k
 have main : ∀ y, y < n → (∀ z, z < n → R z y = true → ∃ a, a < n ∧ L a < 0 ∧ Up N a z) → ∃ a, a < n ∧ L a < 0 ∧ Up N a y := fun y hy ih => by
  by_cases hL : L y < 0
  ·exact ⟨y, hy, hL, .refl _⟩
  ·have a := h.k.a y hy (by omega)
   obtain ⟨x, hx, e1, e2⟩ := h.prev hy (by omega)
   rw [e1, Int.toNat_natCast] at a
   obtain ⟨b, hb, hL2, hu⟩ := ih x hx a.2.1
   exact ⟨b, hb, hL2, hu.snoc e2⟩
 induction k with
 | zero => exact fun y hy hk => main y hy fun z hz r => by have := h.lessD hz hy r; omega
 | succ k ih => exact fun y hy hk => main y hy fun z hz r => ih z hz (by have := h.lessD hz hy r; omega)
theorem chA_some (h : Mat n R I N L m) {F : Nat} (hF : n + 2 ≤ F) : ∀ k, k ≤ n → ∃ O, chA n N L F k = some (card k (hd0 L), O) ∧ ∀ a y, a < k → L a < 0 → Up N a y → O y = (card a (hd0 L) : Nat)
 | 0, _ => ⟨_, rfl, fun a y ha => by omega⟩
 | k + 1, hk => by
  obtain ⟨O, h1, h2⟩ := chA_some h hF k (by omega)
  rw [chA, h1, card]
  simp only
  by_cases hL : 0 ≤ L k
  ·rw [if_pos hL, if_neg (by rw [hd0_iff]; omega)]
   refine ⟨O, rfl, fun a y ha la hu => ?_⟩
   by_cases e : a = k
   ·subst e; omega
   ·exact h2 a y (by omega) la hu
  ·rw [if_neg hL, if_pos (hd0_iff.2 (by omega))]
   have := card_le n (R k)
   obtain ⟨O', h3, h4⟩ := chG_some h (card k (hd0 L) : Nat) F k O (by omega) (by omega)
   rw [h3]
   refine ⟨O', rfl, fun a y ha la hu => ?_⟩
   by_cases e : a = k
   ·subst e; exact (h4 y).1 hu
   ·rw [(h4 y).2 (fun hk2 => e (h.head_one (by omega) (by omega) la (by omega) hu hk2))]
    exact h2 a y (by omega) la hu
theorem card_pos : ∀ {n : Nat} {P : Nat → Bool} {c : Nat}, c < card n P → ∃ x, x < n ∧ P x = true ∧ card x P = c
 | 0, _, _, h => by rw [card] at h; omega
 | n + 1, P, c, h => by
  rw [card] at h
  by_cases h1 : c < card n P
  ·obtain ⟨x, a, b, d⟩ := card_pos h1
   exact ⟨x, by omega, b, d⟩
  ·by_cases h2 : P n = true
   ·rw [if_pos h2] at h
    exact ⟨n, by omega, h2, by omega⟩
   ·rw [if_neg h2] at h; omega
theorem card_up {P : Nat → Bool} : ∀ {a b : Nat}, a ≤ b → card a P ≤ card b P
 | a, 0, h => by rw [show a = 0 by omega]; exact Nat.le_refl _
 | a, b + 1, h => by
  by_cases e : a = b + 1
  ·subst e; exact Nat.le_refl _
  ·have := card_up (P := P) (show a ≤ b by omega)
   rw [card]; omega
theorem card_strict {P : Nat → Bool} {a b : Nat} (h : a < b) (ha : P a = true) : card a P < card b P := by
 have := card_up (P := P) (show a + 1 ≤ b by omega)
 rw [card, if_pos ha] at this
 omega
theorem Mat.heads (h : Mat n R I N L m) (hI : ∀ x, I x = true) : card n (hd0 L) + m = n := by
 have c1 : card n (fun x => decide (0 ≤ L x)) ≤ m := by
  rw [h.k.f]
  refine card_inj (fun x => (L x).toNat) (fun x hx px => ?_) (fun x y hx hy px py e => ?_)
  ·have px := of_decide_eq_true px
   obtain ⟨z, hz, e1, e2⟩ := h.prev hx px
   exact ⟨by omega, decide_eq_true (by rw [e1, Int.toNat_natCast]; omega)⟩
  ·have px := of_decide_eq_true px
   have py := of_decide_eq_true py
   exact h.k.b x y hx hy px (by omega)
 have c2 : m ≤ card n (fun x => decide (0 ≤ L x)) := by
  rw [h.k.f]
  refine card_inj (fun x => (N x).toNat) (fun x hx px => ?_) (fun x y hx hy px py e => ?_)
  ·have px := of_decide_eq_true px
   obtain ⟨z, hz, e1, _, e2, _⟩ := h.next hx px
   exact ⟨by omega, decide_eq_true (by rw [e1, Int.toNat_natCast]; omega)⟩
  ·have px := of_decide_eq_true px
   have py := of_decide_eq_true py
   obtain ⟨z, hz, e1, _, e2, _⟩ := h.next hx px
   obtain ⟨z2, hz2, e3, _, e4, _⟩ := h.next hy py
   have : z = z2 := by omega
   subst this
   omega
 have c3 := card_split n (fun _ => true) (hd0 L)
 have c4 : card n (fun x => true && !hd0 L x) = card n (fun x => decide (0 ≤ L x)) := card_congr fun x _ => by
  unfold hd0
  by_cases e : L x < 0
  ·simp [e, show ¬ 0 ≤ L x by omega]
  ·simp [e, show 0 ≤ L x by omega]
 have c5 : card n (fun x => true && hd0 L x) = card n (hd0 L) := card_congr fun x _ => by simp
 have c6 : card n (fun _ => true) = n := by
  have : ∀ n, card n (fun _ : Nat => true) = n := fun n => by
   induction n with
   | zero => rfl
   | succ n ih => rw [card, ih]; rfl
  exact this n
 omega
end
def ChainedP (n : Nat) (R : Nat → Nat → Bool) (at_ : List Int) (c : Nat) : Prop :=
 at_.length = n ∧ (∀ k, k < c → ∃ i, i < n ∧ at_.getD i 0 = (k : Nat)) ∧ (∀ i, i < n → 0 ≤ at_.getD i 0 ∧ at_.getD i 0 < c) ∧ ∀ i k, i < n → k < n → i ≠ k → at_.getD i 0 = at_.getD k 0 → R i k = true ∨ R k i = true
theorem chains_top (l : List S36) (hl : l.length ≤ 32) : ∃ N L m, lkd l 2000 l.length = some (N, L) ∧ Mat l.length (befG l) (fun _ => true) N L m ∧ (lsF l 32 = 0 → widthF l = some (((l.length - m : Nat) : Int), topL l N L, 0)) ∧
  ∃ at_, (lsF l 32 = 0 → chainF l = some (at_, ((l.length - m : Nat) : Int), 0)) ∧ ChainedP l.length (befG l) at_ (l.length - m) := by
 obtain ⟨N, L, m, hr, hd, hM, hw⟩ := width_top l hl
 refine ⟨N, L, m, hd, hM, hw, ?_⟩
 obtain ⟨O, h1, h2⟩ := chA_some hM (F := 100) (by omega) l.length (Nat.le_refl _)
 have hc := hM.heads (fun _ => rfl)
 have e : card l.length (hd0 L) = l.length - m := by omega
 rw [e] at h1
 have head : ∀ y, y < l.length → ∃ a, a < l.length ∧ L a < 0 ∧ Up N a y ∧ O y = (card a (hd0 L) : Nat) := fun y hy => by
  obtain ⟨a, ha, la, hu⟩ := hM.head_ex _ y hy (Nat.le_refl _)
  exact ⟨a, ha, la, hu, h2 a y ha la hu⟩
 have rd : ∀ i, i < l.length → ((List.range l.length).map O).getD i 0 = O i := fun i hi => by simp [hi]
 refine ⟨(List.range l.length).map O, fun h0 => ?_, by simp, fun k hk => ?_, fun i hi => ?_, fun i k hi hk hne heq => ?_⟩
 ·unfold chainF
  rw [if_pos h0, hd]
  simp only [h1]
 ·rw [← e] at hk
  obtain ⟨a, ha, ph, hc2⟩ := card_pos hk
  refine ⟨a, ha, ?_⟩
  rw [rd a ha, h2 a a ha (hd0_iff.1 ph) (.refl _), hc2]
 ·obtain ⟨a, ha, la, hu, ho⟩ := head i hi
  rw [rd i hi, ho, ← e]
  have := card_strict (P := hd0 L) ha (hd0_iff.2 la)
  omega
 ·obtain ⟨a, ha, la, ua, oa⟩ := head i hi
  obtain ⟨b, hb, lb, ub, ob⟩ := head k hk
  rw [rd i hi, rd k hk, oa, ob] at heq
  have : a = b := by
   rcases Nat.lt_trichotomy a b with h3 | h3 | h3
   ·have := card_strict (P := hd0 L) h3 (hd0_iff.2 la); omega
   ·exact h3
   ·have := card_strict (P := hd0 L) h3 (hd0_iff.2 lb); omega
  subst this
  have tot := ua.fork ub
  rcases tot with h3 | h3
  ·rcases (hM.up_lt h3 hi).2 with h4 | h4
   ·exact absurd h4 hne
   ·exact .inl h4
  ·rcases (hM.up_lt h3 hk).2 with h4 | h4
   ·exact absurd h4.symm hne
   ·exact .inr h4
end Go.Proofs.Ytnbdfmdjedakcaa
