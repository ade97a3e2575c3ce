/- The reference's Width answers what Width answers. Plain. No conditions. -/
import Derived.Test.YtnbdfmdjedakcaaDC
import Derived.Test.YtnbdfmdjedakcaaQ42
namespace Go.Proofs.Ytnbdfmdjedakcaa.PP
open Go.RowKit Go.Proofs.YtnbdfmdjedakcaaW.PrintWords Go.Proofs.YtnbdfmdjedakcaaW.PrintLast Go.Proofs.YtnbdfmdjedakcaaW.PrintMore Go.Proofs.Ytnbdfmdjedakcaa
set_option linter.unusedVariables false
set_option linter.unusedSimpArgs false
theorem sucD {j : Nat} (h : j ≤ 1000000000) : wrap64 ((j : Int) + 1) = ((j + 1 : Nat) : Int) := by rw [w64 (by omega) (by omega)]; rfl
theorem neD (x y : S36) : (!(x.f0 == y.f0) || (!(x.f1 == y.f1) || (!(x.f2 == y.f2)))) = !eqG x y := by
  unfold eqG
  cases x.f0 == y.f0 <;> cases x.f1 == y.f1 <;> cases x.f2 == y.f2 <;> rfl
theorem refBefore_f {l : List S36} {i j : Nat} (hi : i < l.length) (hj : j < l.length) : kimberliteref02_Before.f l (i : Int) (j : Int) = some (befG l i j) := by
  unfold kimberliteref02_Before.f befG
  rw [if_pos (by omega), if_pos (by omega), if_pos (by omega), if_pos (by omega), rdT36_get l i hi, rdT36_get l j hj]
  rw [show kimberliteref02_Below.f l[i].f0 l[i].f1 l[i].f2 l[j].f0 l[j].f1 l[j].f2 = some (belowG l[i] l[j]) from below_f _ _]
  simp only [Option.bind_some, neD, getElem!_pos l i hi, getElem!_pos l j hj]
  cases he : eqG l[i] l[j] with
  | true =>
    have hb : belowG l[i] l[j] = true := by rw [← eqG_iff.1 he]; exact below_refl _
    rw [hb]
    simp
  | false =>
    cases hb : belowG l[i] l[j] <;> simp
/-- A table. -/
def tab {α : Type} (n : Nat) (f : Nat → α) : List α := (List.range n).map f
theorem tab_len {α : Type} (n : Nat) (f : Nat → α) : (tab n f).length = n := by unfold tab; simp
theorem tab_set {α : Type} {n : Nat} (f : Nat → α) {i : Nat} (v : α) : (tab n f).set i v = tab n (upd f i v) := by
  refine List.ext_getElem? fun j => ?_
  unfold tab upd
  rw [List.getElem?_set]
  by_cases h : j < n
  · by_cases e : i = j
    · subst e; simp [h]
    · rw [if_neg e]; simp [h, show ¬ j = i from fun h => e h.symm]
  · by_cases e : i = j
    · subst e; simp [h]
    · rw [if_neg e]; simp [h]
theorem tab_rep {α : Type} (n : Nat) (v : α) : List.replicate n v = tab n (fun _ => v) := by
  refine List.ext_getElem? fun j => ?_
  unfold tab
  by_cases h : j < n <;> simp [h]
theorem tab_rd {n : Nat} (f : Nat → Int) {i : Nat} (h : i < n) : rd (tab n f) (i : Int) = f i := by
  unfold rd tab
  rw [Int.toNat_natCast, List.getD_eq_getElem?_getD]
  simp [h]
theorem tab_rdB {n : Nat} (f : Nat → Bool) {i : Nat} (h : i < n) : rdOf false (tab n f) (i : Int) = f i := by
  unfold rdOf tab
  rw [Int.toNat_natCast, List.getD_eq_getElem?_getD]
  simp [h]
theorem tab_congr {α : Type} {n : Nat} {f g : Nat → α} (h : ∀ i, i < n → f i = g i) : tab n f = tab n g := List.map_congr_left fun i hi => h i (List.mem_range.1 hi)
section
variable {l : List S36} {I : Nat → Bool}
theorem follow_l0 (k : Nat) (T : Nat → Bool) (N L : Nat → Int) (i j : Nat) (hi : i < l.length) (hl : l.length ≤ 1000000) (hj : j < l.length) :
    kimberliteref02_follow.l0 (k + 1) l (tab l.length I) (tab l.length T) (tab l.length N) (tab l.length L) (i : Int) (j : Int) = if inRel I (befG l) i j = false ∨ T j = true then kimberliteref02_follow.j1 k l (tab l.length I) (tab l.length T) (tab l.length N) (tab l.length L) (i : Int) (j : Int) true else kimberliteref02_follow.j1 k l (tab l.length I) (tab l.length T) (tab l.length N) (tab l.length L) (i : Int) (j : Int) false := by
  rw [kimberliteref02_follow.l0, if_pos (by omega), if_pos (by omega), tab_len, if_pos (by omega), tab_rdB I hj, tab_len, if_pos (show (j : Int) < ((l.length : Nat) : Int) by omega), tab_rdB T hj, refBefore_f hi hj]
  unfold inRel
  cases I j <;> cases T j <;> cases befG l i j <;> simp
theorem follow_skip (k : Nat) (T : Nat → Bool) (N L : Nat → Int) (i j : Nat) (hl : l.length ≤ 1000000) (hj : j < l.length) :
    kimberliteref02_follow.j1 (k + 1) l (tab l.length I) (tab l.length T) (tab l.length N) (tab l.length L) (i : Int) (j : Int) true = kimberliteref02_follow.l0 k l (tab l.length I) (tab l.length T) (tab l.length N) (tab l.length L) (i : Int) ((j + 1 : Nat) : Int) := by
  rw [kimberliteref02_follow.j1, if_pos rfl, sucD (by omega)]
theorem follow_ev (hl : l.length ≤ 1000000) : ∀ (f i j : Nat) (N L : Nat → Int) (T : Nat → Bool) (r : Bool) (N' L' : Nat → Int) (T' : Nat → Bool), i < l.length → lkG l.length (inRel I (befG l)) f i j N L T = some (r, N', L', T') →
    Ev (fun k => kimberliteref02_follow.l0 k l (tab l.length I) (tab l.length T) (tab l.length N) (tab l.length L) (i : Int) (j : Int)) (r, tab l.length T', tab l.length N', tab l.length L') := by
  intro f
  induction f with
  | zero => intro i j N L T r N' L' T' hi h; exact absurd h (by simp [lkG])
  | succ f ih =>
    intro i j N L T r N' L' T' hi h
    rw [lkG] at h
    by_cases hj : j < l.length
    · rw [if_pos hj] at h
      by_cases hs : inRel I (befG l) i j = false ∨ T j = true
      · have h2 : lkG l.length (inRel I (befG l)) f i (j + 1) N L T = some (r, N', L', T') := by
          rcases hs with h3 | h3
          · rw [if_pos h3] at h; exact h
          · by_cases h4 : inRel I (befG l) i j = false
            · rw [if_pos h4] at h; exact h
            · rw [if_neg h4, if_pos h3] at h; exact h
        refine Ev.step (G := fun k => kimberliteref02_follow.j1 k l (tab l.length I) (tab l.length T) (tab l.length N) (tab l.length L) (i : Int) (j : Int) true) ?_ (fun k => by rw [follow_l0 k T N L i j hi hl hj, if_pos hs])
        exact Ev.step (ih _ _ _ _ _ _ _ _ _ hi h2) (fun k => follow_skip k T N L i j hl hj)
      · refine Ev.step (G := fun k => kimberliteref02_follow.j1 k l (tab l.length I) (tab l.length T) (tab l.length N) (tab l.length L) (i : Int) (j : Int) false) ?_ (fun k => by rw [follow_l0 k T N L i j hi hl hj, if_neg hs])
        rw [if_neg (fun h3 => hs (.inl h3)), if_neg (fun h3 => hs (.inr h3))] at h
        by_cases h4 : L j < 0
        · rw [if_pos h4] at h
          have h9 := Option.some.inj h
          simp only [Prod.mk.injEq] at h9
          obtain ⟨rfl, rfl, rfl, rfl⟩ := h9
          refine Ev.step (Ev.pure _) (fun k => ?_)
          show kimberliteref02_follow.j1 (k + 1) l (tab l.length I) (tab l.length T) (tab l.length N) (tab l.length L) (i : Int) (j : Int) false = _
          rw [kimberliteref02_follow.j1, if_neg (by decide), if_pos (by omega)]
          simp only [Option.bind_some, tab_len, tab_rd L hj, Int.toNat_natCast, tab_set]
          rw [if_pos (by omega), if_pos (by omega), if_pos h4, if_pos (by omega), if_pos (by omega)]
        · rw [if_neg h4] at h
          by_cases h5 : (L j).toNat < l.length
          · rw [if_pos h5] at h
            have hLj : L j = ((L j).toNat : Int) := by omega
            have e : ∀ k, kimberliteref02_follow.j1 (k + 1) l (tab l.length I) (tab l.length T) (tab l.length N) (tab l.length L) (i : Int) (j : Int) false = (kimberliteref02_follow.f k l (tab l.length I) (tab l.length (upd T j true)) (tab l.length N) (tab l.length L) ((L j).toNat : Int)).bind fun bt420 => (if bt420.1 = true then (if 0 ≤ (i : Int) then (if (i : Int) < ((l.length : Nat) : Int) then (some (true, bt420.2.1, (bt420.2.2.1.set (i : Int).toNat (j : Int)), (bt420.2.2.2.set (j : Int).toNat (i : Int)))) else (none)) else (none)) else (kimberliteref02_follow.l0 k l (tab l.length I) bt420.2.1 bt420.2.2.1 bt420.2.2.2 (i : Int) (wrap64 ((j : Int) + 1)))) := fun k => by
              rw [kimberliteref02_follow.j1, if_neg (by decide), if_pos (by omega)]
              simp only [Option.bind_some, tab_len, tab_rd L hj, Int.toNat_natCast, tab_set]
              rw [if_pos (by omega), if_pos (by omega), if_neg h4, ← hLj]
            cases hr : lkG l.length (inRel I (befG l)) f (L j).toNat 0 N L (upd T j true) with
            | none => rw [hr] at h; exact absurd h (by simp)
            | some q =>
              obtain ⟨b, N1, L1, T1⟩ := q
              rw [hr] at h
              have hf : Ev (fun k => kimberliteref02_follow.f k l (tab l.length I) (tab l.length (upd T j true)) (tab l.length N) (tab l.length L) ((L j).toNat : Int)) (b, tab l.length T1, tab l.length N1, tab l.length L1) :=
                Ev.step (ih _ _ _ _ _ _ _ _ _ h5 hr) (fun k => by rw [kimberliteref02_follow.f]; rfl)
              refine Ev.step (Ev.bind hf ?_) e
              cases b with
              | true =>
                have h9 := Option.some.inj h
                simp only [Prod.mk.injEq] at h9
                obtain ⟨rfl, rfl, rfl, rfl⟩ := h9
                simp only [if_true, if_pos (show (0 : Int) ≤ (i : Int) by omega), if_pos (show (i : Int) < ((l.length : Nat) : Int) by omega), Int.toNat_natCast, tab_set]
                exact Ev.pure _
              | false =>
                simp only [Bool.false_eq_true, if_false, sucD (show j ≤ 1000000000 by omega)]
                exact ih _ _ _ _ _ _ _ _ _ hi h
          · rw [if_neg h5] at h; exact absurd h (by simp)
    · rw [if_neg hj] at h
      have h9 := Option.some.inj h
      simp only [Prod.mk.injEq] at h9
      obtain ⟨rfl, rfl, rfl, rfl⟩ := h9
      refine Ev.step (Ev.pure _) (fun k => ?_)
      show kimberliteref02_follow.l0 (k + 1) l (tab l.length I) (tab l.length T) (tab l.length N) (tab l.length L) (i : Int) (j : Int) = _
      rw [kimberliteref02_follow.l0, if_neg (by omega)]
/-- The followers, one stone after the other. -/
theorem width_l1 (hl : l.length ≤ 1000000) {F : Nat} {N' L' : Nat → Int} {m' : Nat} (hr : runK l.length (inRel I (befG l)) I F l.length = some (N', L', m')) (c : Nat) (hc : c ≤ 1000000) : ∀ d (k : Nat), k + d = l.length → ∀ N L m, runK l.length (inRel I (befG l)) I F k = some (N, L, m) → m ≤ k → Ev (fun q => kimberliteref02_width.l1 q l (tab l.length I) (tab l.length N) (tab l.length L) ((c : Int) - (m : Int)) (k : Int)) ((c : Int) - (m' : Int))
  | 0, k, hk, N, L, m, h, hm => by
    obtain rfl : k = l.length := by omega
    rw [hr] at h
    have h9 := Option.some.inj h
    simp only [Prod.mk.injEq] at h9
    obtain ⟨rfl, rfl, rfl⟩ := h9
    refine Ev.step (Ev.pure _) (fun q => ?_)
    show kimberliteref02_width.l1 (q + 1) l (tab l.length I) (tab l.length N') (tab l.length L') _ (l.length : Int) = _
    rw [kimberliteref02_width.l1, if_neg (by omega)]
  | d + 1, k, hk, N, L, m, h, hm => by
    have hkl : k < l.length := by omega
    have e : ∀ q, kimberliteref02_width.l1 (q + 1) l (tab l.length I) (tab l.length N) (tab l.length L) ((c : Int) - (m : Int)) (k : Int) = if I k = true then ((kimberliteref02_follow.f q l (tab l.length I) (tab l.length (fun _ => false)) (tab l.length N) (tab l.length L) (k : Int)).bind fun bt439 => (if bt439.1 = true then (kimberliteref02_width.l1 q l (tab l.length I) bt439.2.2.1 bt439.2.2.2 (((c : Int) - ((m + 1 : Nat) : Int))) ((k + 1 : Nat) : Int)) else (kimberliteref02_width.l1 q l (tab l.length I) bt439.2.2.1 bt439.2.2.2 ((c : Int) - (m : Int)) ((k + 1 : Nat) : Int)))) else kimberliteref02_width.l1 q l (tab l.length I) (tab l.length N) (tab l.length L) ((c : Int) - (m : Int)) ((k + 1 : Nat) : Int) := fun q => by
      rw [kimberliteref02_width.l1, if_pos (by omega), if_pos (by omega), tab_len, if_pos (by omega), tab_rdB I hkl, sucD (by omega)]
      by_cases hI : I k = true
      · rw [if_pos hI, if_pos hI, if_pos (by omega), Int.toNat_natCast, if_pos (show l.length ≤ 281474976710656 by omega), tab_rep, w64 (show -9223372036854775808 ≤ (c : Int) - (m : Int) - 1 by omega) (by omega), show (c : Int) - (m : Int) - 1 = (c : Int) - ((m + 1 : Nat) : Int) by omega]
      · rw [if_neg hI, if_neg hI]
    have hs : runK l.length (inRel I (befG l)) I F (k + 1) ≠ none := by
      have mono : ∀ d k, k + d = l.length → runK l.length (inRel I (befG l)) I F k ≠ none := by
        intro d
        induction d with
        | zero => intro k hk; rw [show k = l.length by omega, hr]; simp
        | succ d ih =>
          intro k hk he
          have := ih (k + 1) (by omega)
          rw [runK, he] at this
          exact this rfl
      exact mono d (k + 1) (by omega)
    by_cases hI : I k = true
    · cases hq : lkG l.length (inRel I (befG l)) F k 0 N L (fun _ => false) with
      | none => exact absurd (by rw [runK, h]; simp only [if_pos hI, hq]) hs
      | some p =>
        obtain ⟨b, N1, L1, T1⟩ := p
        have h1 : runK l.length (inRel I (befG l)) I F (k + 1) = some (N1, L1, if b = true then m + 1 else m) := by rw [runK, h]; simp only [if_pos hI, hq]
        have hf : Ev (fun q => kimberliteref02_follow.f q l (tab l.length I) (tab l.length (fun _ => false)) (tab l.length N) (tab l.length L) (k : Int)) (b, tab l.length T1, tab l.length N1, tab l.length L1) :=
          Ev.step (follow_ev hl F k 0 N L _ b N1 L1 T1 hkl hq) (fun q => by rw [kimberliteref02_follow.f]; rfl)
        have ih := width_l1 hl hr c hc d (k + 1) (by omega) N1 L1 _ h1 (by split <;> omega)
        refine Ev.step (Ev.bind hf ?_) (fun q => by rw [e, if_pos hI])
        cases b with
        | true => simp only [if_true] at ih ⊢; exact ih
        | false => simp only [Bool.false_eq_true, if_false] at ih ⊢; exact ih
    · have h1 : runK l.length (inRel I (befG l)) I F (k + 1) = some (N, L, m) := by rw [runK, h]; simp only [if_neg hI]
      exact Ev.step (width_l1 hl hr c hc d (k + 1) (by omega) N L m h1 (by omega)) (fun q => by rw [e, if_neg hI])
/-- First all are without followers. -/
theorem width_l0 (hl : l.length ≤ 1000000) (r : Int) (h : Ev (fun q => kimberliteref02_width.l1 q l (tab l.length I) (tab l.length (fun _ => -1)) (tab l.length (fun _ => -1)) (card l.length I : Nat) 0) r) : ∀ d (k : Nat), k + d = l.length → Ev (fun q => kimberliteref02_width.l0 q l (tab l.length I) (tab l.length (fun x => if x < k then -1 else 0)) (tab l.length (fun x => if x < k then -1 else 0)) (card k I : Nat) (k : Int)) r
  | 0, k, hk => by
    obtain rfl : k = l.length := by omega
    refine Ev.step h (fun q => ?_)
    show kimberliteref02_width.l0 (q + 1) l (tab l.length I) _ _ _ (l.length : Int) = _
    rw [kimberliteref02_width.l0, if_neg (by omega), tab_congr (g := fun _ => -1) (fun i hi => if_pos hi)]
  | d + 1, k, hk => by
    have hkl : k < l.length := by omega
    have ih := width_l0 hl r h d (k + 1) (by omega)
    have e : tab l.length (upd (fun x => if x < k then (-1 : Int) else 0) k (-1)) = tab l.length (fun x => if x < k + 1 then -1 else 0) := tab_congr fun i hi => by
      by_cases e : i = k
      · subst e; rw [upd_same, if_pos (by omega)]
      · rw [upd_ne _ _ e]
        by_cases h2 : i < k
        · rw [if_pos h2, if_pos (by omega)]
        · rw [if_neg h2, if_neg (by omega)]
    have hcl := card_le k I
    refine Ev.step ih (fun q => ?_)
    show kimberliteref02_width.l0 (q + 1) l (tab l.length I) _ _ _ (k : Int) = _
    rw [kimberliteref02_width.l0, if_pos (by omega), if_pos (by omega), tab_len, if_pos (by omega)]
    simp only [Option.bind_some, tab_len, Int.toNat_natCast, tab_set, e]
    rw [if_pos (by omega), if_pos (by omega), tab_rdB I hkl, sucD (by omega), sucD (by omega), card]
    by_cases hI : I k = true
    · rw [if_pos hI, if_pos hI]
    · rw [if_neg hI, if_neg hI]
      rfl
theorem width_ev (hl : l.length ≤ 1000000) {F w : Nat} (hw : wid l.length (befG l) I F = some w) : Ev (fun k => kimberliteref02_width.f k l (tab l.length I)) (w : Int) := by
  unfold wid at hw
  cases hr : runK l.length (inRel I (befG l)) I F l.length with
  | none => rw [hr] at hw; exact absurd hw (by simp)
  | some q =>
    obtain ⟨N, L, m⟩ := q
    rw [hr] at hw
    have e := Option.some.inj hw
    have M := (bef_strict l).mat hr
    have hm := M.ends
    have hc := card_le l.length I
    have h1 := width_l1 hl hr (card l.length I) (by omega) l.length 0 (by omega) _ _ 0 rfl (Nat.le_refl _)
    have h2 := width_l0 hl _ (h1.same (fun q => by rw [show ((card l.length I : Nat) : Int) - ((0 : Nat) : Int) = ((card l.length I : Nat) : Int) by omega]; rfl)) l.length 0 (by omega)
    unfold kimberliteref02_width.f
    simp only [if_pos (show (0 : Int) ≤ (l.length : Int) by omega), Int.toNat_natCast, if_pos (show l.length ≤ 35184372088832 by omega), tab_rep]
    refine (h2.same (fun q => ?_)).to (by omega)
    rw [tab_congr (g := fun _ => (0 : Int)) (fun i hi => if_neg (by omega))]
    rfl
end
/-- Is a stone in some greatest set of stones apart? -/
def someB (n : Nat) (R : Nat → Nat → Bool) (F w i : Nat) : Bool := match wid n R (apartI R i) F with
  | none => false
  | some v => decide (v + 1 = w)
/-- And is none of those above it? -/
def highB (n : Nat) (R : Nat → Nat → Bool) (S : Nat → Bool) (j i : Nat) : Bool := S i && (List.range j).all fun q => !(S q && R i q)
section
variable {l : List S36} {S : Nat → Bool} {w : Nat}
theorem Width_l4 (hl : l.length ≤ 1000000) (i : Nat) (hi : i < l.length) (x13 : List Int) (hx : x13.length ≤ 1000000) (r : Int × List Int × Int)
    (h : Ev (fun k => kimberliteref02_Width.l3 k l (tab l.length S) (w : Int) (if highB l.length (befG l) S l.length i = true then x13 ++ [(i : Int)] else x13) ((i + 1 : Nat) : Int)) r) : ∀ m (j : Nat), j + m = l.length → Ev (fun k => kimberliteref02_Width.l4 k l (tab l.length S) (w : Int) x13 (i : Int) (highB l.length (befG l) S j i) (j : Int)) r
  | 0, j, hj => by
    obtain rfl : j = l.length := by omega
    refine Ev.step h (fun k => ?_)
    show kimberliteref02_Width.l4 (k + 1) l (tab l.length S) (w : Int) x13 (i : Int) (highB l.length (befG l) S l.length i) (l.length : Int) = _
    rw [kimberliteref02_Width.l4, if_neg (by omega), sucD (by omega)]
    by_cases hh : highB l.length (befG l) S l.length i = true
    · rw [if_pos hh, if_pos hh, if_pos (by omega)]
    · rw [if_neg hh, if_neg hh]
  | m + 1, j, hj => by
    have hjl : j < l.length := by omega
    have ih := Width_l4 hl i hi x13 hx r h m (j + 1) (by omega)
    have e : highB l.length (befG l) S (j + 1) i = (highB l.length (befG l) S j i && !(S j && befG l i j)) := by
      unfold highB
      rw [List.range_succ, List.all_append, ← Bool.and_assoc]
      simp
    rw [e] at ih
    refine Ev.step ih (fun k => ?_)
    show kimberliteref02_Width.l4 (k + 1) l (tab l.length S) (w : Int) x13 (i : Int) (highB l.length (befG l) S j i) (j : Int) = _
    rw [kimberliteref02_Width.l4, if_pos (by omega), sucD (by omega)]
    cases highB l.length (befG l) S j i with
    | false => rw [if_neg (by decide)]; rfl
    | true =>
      rw [if_pos rfl, if_pos (by omega), tab_len, if_pos (by omega), tab_rdB S hjl, refBefore_f hi hjl]
      cases S j with
      | true => rw [if_pos rfl]; rfl
      | false => rw [if_neg (by decide)]; rfl
theorem Width_l3 (hl : l.length ≤ 1000000) : ∀ m (i : Nat), i + m = l.length → Ev (fun k => kimberliteref02_Width.l3 k l (tab l.length S) (w : Int) (((List.range i).filter (highB l.length (befG l) S l.length)).map fun x : Nat => (x : Int)) (i : Int)) ((w : Int), ((List.range l.length).filter (highB l.length (befG l) S l.length)).map (fun x : Nat => (x : Int)), 0)
  | 0, i, hi => by
    obtain rfl : i = l.length := by omega
    refine Ev.step (Ev.pure _) (fun k => ?_)
    show kimberliteref02_Width.l3 (k + 1) l (tab l.length S) (w : Int) _ (l.length : Int) = _
    rw [kimberliteref02_Width.l3, if_neg (by omega)]
  | m + 1, i, hi => by
    have hil : i < l.length := by omega
    have ih := Width_l3 hl m (i + 1) (by omega)
    have hlen : (((List.range i).filter (highB l.length (befG l) S l.length)).map fun x : Nat => (x : Int)).length ≤ i := by
      rw [List.length_map]
      have := List.length_filter_le (highB l.length (befG l) S l.length) (List.range i)
      rwa [List.length_range] at this
    have h4 := Width_l4 (S := S) (w := w) hl i hil (((List.range i).filter (highB l.length (befG l) S l.length)).map fun x : Nat => (x : Int)) (by omega) _ (ih.same (fun k => by
      rw [List.range_succ, List.filter_append, List.map_append]
      by_cases hh : highB l.length (befG l) S l.length i = true
      · rw [if_pos hh, List.filter_cons, if_pos hh]; rfl
      · rw [if_neg hh, List.filter_cons, if_neg hh]; simp)) l.length 0 (by omega)
    refine Ev.step h4 (fun k => ?_)
    show kimberliteref02_Width.l3 (k + 1) l (tab l.length S) (w : Int) _ (i : Int) = _
    rw [kimberliteref02_Width.l3, if_pos (by omega), if_pos (by omega), tab_len, if_pos (by omega), tab_rdB S hil]
    unfold highB
    simp
theorem Width_l2 (hl : l.length ≤ 1000000) (F : Nat) (hF : l.length * (l.length + 1) + l.length < F) (i : Nat) (hi : i < l.length) (T : Nat → Bool) (r : Int × List Int × Int) (hwn : w ≤ l.length)
    (h : Ev (fun k => kimberliteref02_Width.l1 k l (tab l.length (upd T i (someB l.length (befG l) F w i))) (w : Int) ((i + 1 : Nat) : Int)) r) : ∀ m (j : Nat), j + m = l.length → Ev (fun k => kimberliteref02_Width.l2 k l (tab l.length T) (w : Int) (i : Int) (tab l.length fun x => decide (x < j) && apartI (befG l) i x) (j : Int)) r
  | 0, j, hj => by
    obtain rfl : j = l.length := by omega
    obtain ⟨v, hv⟩ := wid_some (bef_strict l) hF (apartI (befG l) i)
    obtain ⟨P, _, hP⟩ := wid_ex (bef_strict l) hv
    have hvn := card_le l.length P
    have e : tab l.length (fun x => decide (x < l.length) && apartI (befG l) i x) = tab l.length (apartI (befG l) i) := tab_congr fun x hx => by rw [decide_eq_true hx, Bool.true_and]
    refine Ev.step (Ev.bind (G := fun k t460 => if 0 ≤ (i : Int) then (if (i : Int) < ((l.length : Nat) : Int) then (kimberliteref02_Width.l1 k l ((tab l.length T).set (i : Int).toNat ((wrap64 (t460 + 1)) == (w : Int))) (w : Int) (wrap64 ((i : Int) + 1))) else (none)) else (none)) (width_ev hl hv) (h.same (fun k => ?_))) (fun k => ?_)
    · show (if 0 ≤ (i : Int) then (if (i : Int) < ((l.length : Nat) : Int) then (kimberliteref02_Width.l1 k l ((tab l.length T).set (i : Int).toNat ((wrap64 ((v : Int) + 1)) == (w : Int))) (w : Int) (wrap64 ((i : Int) + 1))) else (none)) else (none)) = _
      rw [if_pos (by omega), if_pos (by omega), Int.toNat_natCast, tab_set, sucD (by omega), sucD (by omega)]
      have es : (((v + 1 : Nat) : Int) == (w : Int)) = someB l.length (befG l) F w i := by
        unfold someB
        rw [hv]
        by_cases e2 : v + 1 = w
        · simp [e2]
        · rw [beq_eq_false_iff_ne.2 (by omega)]; simp [e2]
      rw [es]
    · show kimberliteref02_Width.l2 (k + 1) l (tab l.length T) (w : Int) (i : Int) _ (l.length : Int) = _
      rw [kimberliteref02_Width.l2, if_neg (by omega), tab_len, e]
  | m + 1, j, hj => by
    have hjl : j < l.length := by omega
    have ih := Width_l2 hl F hF i hi T r hwn h m (j + 1) (by omega)
    have e : ∀ b, b = apartI (befG l) i j → tab l.length (upd (fun x => decide (x < j) && apartI (befG l) i x) j b) = tab l.length (fun x => decide (x < j + 1) && apartI (befG l) i x) := fun b hb => tab_congr fun x hx => by
      by_cases e : x = j
      · subst e; rw [upd_same, hb, decide_eq_true (by omega), Bool.true_and]
      · rw [upd_ne _ _ e, show decide (x < j) = decide (x < j + 1) from decide_eq_decide.2 (by omega)]
    refine Ev.step ih (fun k => ?_)
    show kimberliteref02_Width.l2 (k + 1) l (tab l.length T) (w : Int) (i : Int) _ (j : Int) = _
    rw [kimberliteref02_Width.l2, if_pos (by omega), sucD (by omega), refBefore_f hi hjl, refBefore_f hjl hi]
    simp only [Option.bind_some, tab_len, if_pos (show (0 : Int) ≤ (j : Int) by omega), if_pos (show (j : Int) < ((l.length : Nat) : Int) by omega), Int.toNat_natCast, tab_set]
    by_cases h1 : i = j
    · rw [if_pos (by omega), e false (by unfold apartI; simp [h1])]
    · rw [if_neg (by omega)]
      cases h2 : befG l i j with
      | true => rw [if_pos rfl, e false (by unfold apartI; simp [h2])]
      | false => rw [if_neg (by decide), e (!befG l j i) (by unfold apartI; simp [h1, h2])]
theorem Width_l1 (hl : l.length ≤ 1000000) (F : Nat) (hF : l.length * (l.length + 1) + l.length < F) (hwn : w ≤ l.length) : ∀ m (i : Nat), i + m = l.length → Ev (fun k => kimberliteref02_Width.l1 k l (tab l.length fun x => decide (x < i) && someB l.length (befG l) F w x) (w : Int) (i : Int)) ((w : Int), ((List.range l.length).filter (highB l.length (befG l) (someB l.length (befG l) F w) l.length)).map (fun x : Nat => (x : Int)), 0)
  | 0, i, hi => by
    obtain rfl : i = l.length := by omega
    refine Ev.step (Width_l3 hl l.length 0 (by omega)) (fun k => ?_)
    show kimberliteref02_Width.l1 (k + 1) l _ (w : Int) (l.length : Int) = _
    rw [kimberliteref02_Width.l1, if_neg (by omega), tab_congr (g := someB l.length (befG l) F w) (fun x hx => by rw [decide_eq_true hx, Bool.true_and])]
    rfl
  | m + 1, i, hi => by
    have hil : i < l.length := by omega
    have ih := Width_l1 hl F hF hwn m (i + 1) (by omega)
    have e : tab l.length (upd (fun x => decide (x < i) && someB l.length (befG l) F w x) i (someB l.length (befG l) F w i)) = tab l.length (fun x => decide (x < i + 1) && someB l.length (befG l) F w x) := tab_congr fun x hx => by
      by_cases e : x = i
      · subst e; rw [upd_same, decide_eq_true (by omega), Bool.true_and]
      · rw [upd_ne _ _ e, show decide (x < i) = decide (x < i + 1) from decide_eq_decide.2 (by omega)]
    have h2 := Width_l2 hl F hF i hil (fun x => decide (x < i) && someB l.length (befG l) F w x) _ hwn (ih.same (fun k => by rw [e])) l.length 0 (by omega)
    refine Ev.step h2 (fun k => ?_)
    show kimberliteref02_Width.l1 (k + 1) l _ (w : Int) (i : Int) = _
    rw [kimberliteref02_Width.l1, if_pos (by omega), if_pos (by omega), Int.toNat_natCast, if_pos (show l.length ≤ 281474976710656 by omega), tab_rep, tab_congr (f := fun x => decide (x < 0) && apartI (befG l) i x) (g := fun _ => false) (fun x hx => by simp)]
    rfl
theorem Width_l0 (hl : l.length ≤ 1000000) (F : Nat) (hF : l.length * (l.length + 1) + l.length < F) (hw : wid l.length (befG l) (fun _ => true) F = some w) : ∀ m (i : Nat), i + m = l.length → Ev (fun k => kimberliteref02_Width.l0 k l (tab l.length fun x => decide (x < i)) (tab l.length fun _ => false) (i : Int)) ((w : Int), ((List.range l.length).filter (highB l.length (befG l) (someB l.length (befG l) F w) l.length)).map (fun x : Nat => (x : Int)), 0)
  | 0, i, hi => by
    obtain rfl : i = l.length := by omega
    obtain ⟨P, _, hP⟩ := wid_ex (bef_strict l) hw
    have hwn := card_le l.length P
    have e : tab l.length (fun x => decide (x < l.length)) = tab l.length (fun _ => true) := tab_congr fun x hx => decide_eq_true hx
    have h1 := Width_l1 hl F hF (show w ≤ l.length by omega) l.length 0 (by omega)
    refine Ev.step (Ev.bind (G := fun k t451 => kimberliteref02_Width.l1 k l (tab l.length fun _ => false) t451 0) (width_ev hl hw) (h1.same (fun k => ?_))) (fun k => ?_)
    · rw [tab_congr (f := fun x => decide (x < 0) && someB l.length (befG l) F w x) (g := fun _ => false) (fun x hx => by simp)]
      rfl
    · show kimberliteref02_Width.l0 (k + 1) l _ _ (l.length : Int) = _
      rw [kimberliteref02_Width.l0, if_neg (by omega), e]
  | m + 1, i, hi => by
    have hil : i < l.length := by omega
    have ih := Width_l0 hl F hF hw m (i + 1) (by omega)
    have e : tab l.length (upd (fun x => decide (x < i)) i true) = tab l.length (fun x => decide (x < i + 1)) := tab_congr fun x hx => by
      by_cases e : x = i
      · subst e; rw [upd_same, decide_eq_true (by omega)]
      · rw [upd_ne _ _ e, show decide (x < i) = decide (x < i + 1) from decide_eq_decide.2 (by omega)]
    refine Ev.step ih (fun k => ?_)
    show kimberliteref02_Width.l0 (k + 1) l _ _ (i : Int) = _
    rw [kimberliteref02_Width.l0, if_pos (by omega), if_pos (by omega), tab_len, if_pos (by omega), Int.toNat_natCast, tab_set, e, sucD (by omega)]
end
end Go.Proofs.Ytnbdfmdjedakcaa.PP
