/- A group of offices step by step: what holds of it. No conditions. -/
import Derived.Test.YtmeaeapopfcmbaaGreatP11
namespace Go.Proofs.YtmeaeapopfcmbaaGreat
set_option linter.unusedVariables false
set_option linter.unusedSimpArgs false
open PP
/-- n offices of states S behind k steps; H: all states that any of them had; md, tk: what was made and taken. -/
structure GI (n k : Nat) (S : Nat → S28) (H : List S28) (md tk : List Int) : Prop where
  sys : Sys n S (fun X => X ∈ H)
  n2 : 2 ≤ n
  n5 : n ≤ 5
  len : H.length = n + k
  ml : md.length = 8
  tl : tk.length = 8
  mb : ∀ x ∈ md, 0 ≤ x ∧ x ≤ MC * k
  tb : ∀ x ∈ tk, 0 ≤ x ∧ x ≤ MC * k
  bal : ∀ s : Int, 0 ≤ s → s ≤ 7 → sget md s - sget tk s = leftC (ownW n S) s
theorem leftC_zero (s : Int) : leftC (fun _ => 0) s = 0 := sumF_zero fun k _ => conL_zero s k
theorem gi_zero {n : Nat} (h2 : 2 ≤ n) (h5 : n ≤ 5) : GI n 0 (fun _ => emptyS) (List.replicate n emptyS) zeros8 zeros8 where
  sys := by
    refine (sys_zero (by omega)).le (fun X hX => (List.mem_replicate.1 hX).2) fun i hi => List.mem_replicate.2 ⟨by omega, rfl⟩
  n2 := h2
  n5 := h5
  len := by rw [List.length_replicate]; rfl
  ml := rfl
  tl := rfl
  mb := fun x hx => by simp [zeros8] at hx; subst hx; omega
  tb := fun x hx => by simp [zeros8] at hx; subst hx; omega
  bal := fun s s0 s7 => by
    rw [leftC_congr (d := fun _ => 0) (fun k _ => by unfold ownW; split <;> rfl), leftC_zero]
    omega
section
variable {n k : Nat} {S : Nat → S28} {H : List S28} {md tk : List Int}
theorem mc_step (k : Nat) : MC * (k : Int) ≤ MC * ((k + 1 : Nat) : Int) := by
  have : MC * ((k + 1 : Nat) : Int) = MC * (k : Int) + MC := by push_cast; rw [Int.mul_add, Int.mul_one]
  rw [this]
  unfold MC
  omega
theorem mc_step' (k : Nat) : MC * ((k + 1 : Nat) : Int) = MC * (k : Int) + MC := by push_cast; rw [Int.mul_add, Int.mul_one]
/-- A step that makes and takes nothing. -/
theorem GI.keep (h : GI n k S H md tk) {i : Nat} (hi : i < n) {S1 : S28} (hs : Sys n (updN S i S1) (fun X => X ∈ H ∨ X = S1)) (hw : ∀ x : S131, x.f1 = i → curW S1 x = curW (S i) x) : GI n (k + 1) (updN S i S1) (H ++ [S1]) md tk where
  sys := hs.le (fun X hX => by simpa using hX) fun j hj => by
    rcases hs.own j hj with h1 | h1
    · simp [h1]
    · simp [h1]
  n2 := h.n2
  n5 := h.n5
  len := by rw [List.length_append, h.len]; rfl
  ml := h.ml
  tl := h.tl
  mb := fun x hx => ⟨(h.mb x hx).1, Int.le_trans (h.mb x hx).2 (mc_step k)⟩
  tb := fun x hx => ⟨(h.tb x hx).1, Int.le_trans (h.tb x hx).2 (mc_step k)⟩
  bal := fun s s0 s7 => by rw [h.bal s s0 s7]; exact leftC_congr fun x _ => (ownW_upd hi hw x).symm
theorem GI.rt (h : GI n k S H md tk) {i : Nat} (hi : i < n) : Rt (S i) := h.sys.rt _ (h.sys.own i hi)
theorem GI.o8 (h : GI n k S H md tk) {i : Nat} (hi : i < n) : inR 0 7 (i : Int) = true := inR_iff.2 ⟨by omega, by have := h.n5; omega⟩
/-- Of what kind a step is, for the tags. -/
inductive Act1 (i : Nat) (A : S28) (H : List S28) (c N : Int) (tx : ByteArray) : S28 → Prop
  | put : c ≤ 1 → Act1 i A H c N tx (aPut A i N tx)
  | drop : c = 2 → Act1 i A H c N tx (aDrop A N tx)
  | other (S1 : S28) : 2 < c → S1.f0 = A.f0 → (∀ x, mget (tagsP S1) x = mget (tagsP A) x) → Act1 i A H c N tx S1
  | sync (Y : S28) : 2 < c → Y ∈ H → Act1 i A H c N tx (aSync A Y)
theorem GI.put (h : GI n k S H md tk) {i : Nat} (hi : i < n) (N : Int) (tx : ByteArray) : GI n (k + 1) (updN S i (aPut (S i) i N tx)) (H ++ [aPut (S i) i N tx]) md tk :=
  h.keep hi (h.sys.eff hi (put_eff (h.rt hi) (h.o8 hi))) fun x _ => put_ways (h.rt hi) x
theorem GI.drop (h : GI n k S H md tk) {i : Nat} (hi : i < n) (N : Int) (tx : ByteArray) : GI n (k + 1) (updN S i (aDrop (S i) N tx)) (H ++ [aDrop (S i) N tx]) md tk :=
  h.keep hi (h.sys.eff hi (drop_eff (h.rt hi))) fun x _ => drop_ways (h.rt hi) x
theorem GI.write (h : GI n k S H md tk) {i : Nat} (hi : i < n) (N : Int) (tx : ByteArray) : GI n (k + 1) (updN S i (aWrite (S i) i N tx)) (H ++ [aWrite (S i) i N tx]) md tk :=
  h.keep hi (h.sys.eff hi (write_eff (h.rt hi) (h.o8 hi))) fun x _ => write_ways (h.rt hi) x
theorem GI.sync (h : GI n k S H md tk) {i : Nat} (hi : i < n) {Y : S28} (hY : Y ∈ H) : GI n (k + 1) (updN S i (aSync (S i) Y)) (H ++ [aSync (S i) Y]) md tk := by
  refine h.keep hi (h.sys.sync hi hY) fun x hx => ?_
  unfold aSync
  split
  · rw [curW_merge (h.rt hi) (h.sys.rt _ hY)]
    have := h.sys.row _ hY i hi x hx
    omega
  · rfl
/-- A right grows by a: made, if it is the office's own; taken, if it is a use; neither else. -/
theorem GI.add (h : GI n k S H md tk) {i : Nat} (hi : i < n) {x : S131} {a : Int} {ok asks : Bool} (hx : AddOk i x ok asks) (md' tk' : List Int) (hml : md'.length = 8) (htl : tk'.length = 8) (hmb : ∀ y ∈ md', 0 ≤ y ∧ y ≤ MC * (k + 1 : Nat)) (htb : ∀ y ∈ tk', 0 ≤ y ∧ y ≤ MC * (k + 1 : Nat))
    (hb : ∀ s : Int, 0 ≤ s → s ≤ 7 → sget md' s - sget tk' s = sget md s - sget tk s + (if addE (S i) i x a ok asks = 0 then conL s (x, a) else 0)) : GI n (k + 1) (updN S i (aAdd (S i) i x a ok asks)) (H ++ [aAdd (S i) i x a ok asks]) md' tk' := by
  have hs := h.sys.eff hi (add_eff (a := a) (h.rt hi) hx)
  refine ⟨hs.le (fun X hX => by simpa using hX) (fun j hj => ?_), h.n2, h.n5, by rw [List.length_append, h.len]; rfl, hml, htl, hmb, htb, fun s s0 s7 => ?_⟩
  · rcases hs.own j hj with h1 | h1
    · simp [h1]
    · simp [h1]
  · rw [hb s s0 s7, h.bal s s0 s7]
    by_cases e : addE (S i) i x a ok asks = 0
    · rw [if_pos e]
      have hm : x ∈ waysU := by
        obtain ⟨h1, h2, _⟩ := addE_0 e
        rw [inR_iff] at h2
        have h3 := hx.f1
        have h4 := hx.o0
        have h5 := hx.o7
        have h6 := hx.t h1
        exact mem_waysU.2 ⟨h2, by omega, h6⟩
      rw [← leftC_upd _ _ hm]
      refine leftC_congr fun y _ => ?_
      rw [ownW_add (a := a) hi hx.f1 fun z => ?_]
      rw [add_ways (h.rt hi) hx]
      by_cases e2 : z = x
      · rw [if_pos ⟨e, e2⟩, if_pos e2]
      · rw [if_neg fun h => e2 h.2, if_neg e2]
    · rw [if_neg e, Int.add_zero]
      refine leftC_congr fun y _ => ?_
      rw [ownW_upd hi fun z _ => ?_]
      rw [add_ways (h.rt hi) hx, if_neg fun h => e h.1]
theorem GI.give (h : GI n k S H md tk) {i : Nat} (hi : i < n) (N To a : Int) : GI n (k + 1) (updN S i (aAdd (S i) i ⟨N, i, To⟩ a (inR 0 7 To && (To != i)) true)) (H ++ [aAdd (S i) i ⟨N, i, To⟩ a (inR 0 7 To && (To != i)) true]) md tk := by
  refine h.add hi (addOk_give (h.o8 hi) N To) md tk h.ml h.tl (fun x hx => ⟨(h.mb x hx).1, Int.le_trans (h.mb x hx).2 (mc_step k)⟩) (fun x hx => ⟨(h.tb x hx).1, Int.le_trans (h.tb x hx).2 (mc_step k)⟩) fun s s0 s7 => ?_
  split
  · rename_i e
    have h1 := (addE_0 e).1
    rw [Bool.and_eq_true, inR_iff] at h1
    have h2 : To ≠ i := by simpa using h1.2
    have : conL s ((⟨N, i, To⟩ : S131), a) = 0 := by
      unfold conL
      simp only [if_neg h2, if_neg (show ¬ To = -1 by omega)]
      split <;> rfl
    omega
  · omega
theorem sget_setL {l : List Int} (hl : l.length = 8) {N : Int} (h0 : 0 ≤ N) (h7 : N ≤ 7) (v s : Int) (hs : 0 ≤ s) : sget (l.set N.toNat v) s = if s = N then v else sget l s := sget_set hl h0 h7 v s hs
theorem GI.make0 (h : GI n k S H md tk) {i : Nat} (hi : i < n) (N a : Int) (he : addE (S i) i ⟨N, i, i⟩ a true false ≠ 0) : GI n (k + 1) (updN S i (aAdd (S i) i ⟨N, i, i⟩ a true false)) (H ++ [aAdd (S i) i ⟨N, i, i⟩ a true false]) md tk :=
  h.add hi (addOk_make (h.o8 hi) N) md tk h.ml h.tl (fun x hx => ⟨(h.mb x hx).1, Int.le_trans (h.mb x hx).2 (mc_step k)⟩) (fun x hx => ⟨(h.tb x hx).1, Int.le_trans (h.tb x hx).2 (mc_step k)⟩) fun s s0 s7 => by rw [if_neg he]; omega
theorem GI.take0 (h : GI n k S H md tk) {i : Nat} (hi : i < n) (N a : Int) (he : addE (S i) i ⟨N, i, -1⟩ a true true ≠ 0) : GI n (k + 1) (updN S i (aAdd (S i) i ⟨N, i, -1⟩ a true true)) (H ++ [aAdd (S i) i ⟨N, i, -1⟩ a true true]) md tk :=
  h.add hi (addOk_take (h.o8 hi) N) md tk h.ml h.tl (fun x hx => ⟨(h.mb x hx).1, Int.le_trans (h.mb x hx).2 (mc_step k)⟩) (fun x hx => ⟨(h.tb x hx).1, Int.le_trans (h.tb x hx).2 (mc_step k)⟩) fun s s0 s7 => by rw [if_neg he]; omega
theorem set_bound {l : List Int} (hl : l.length = 8) {N a : Int} {k : Nat} (h0 : 0 ≤ N) (h7 : N ≤ 7) (hb : ∀ x ∈ l, 0 ≤ x ∧ x ≤ MC * k) (ha : 1 ≤ a ∧ a ≤ MC) : ∀ y ∈ l.set N.toNat (sget l N + a), 0 ≤ y ∧ y ≤ MC * (k + 1 : Nat) := by
  intro y hy
  have e := mc_step' k
  rcases List.mem_or_eq_of_mem_set hy with h | rfl
  · have := hb y h
    have : (0 : Int) ≤ MC := by decide
    omega
  · have := hb _ (sget_mem hl h0 h7)
    omega
theorem GI.make1 (h : GI n k S H md tk) {i : Nat} (hi : i < n) (N a : Int) (he : addE (S i) i ⟨N, i, i⟩ a true false = 0) : (0 ≤ N ∧ N ≤ 7) ∧ (0 ≤ sget md N ∧ sget md N + a ≤ MC * (k + 1 : Nat)) ∧ 1 ≤ a ∧ GI n (k + 1) (updN S i (aAdd (S i) i ⟨N, i, i⟩ a true false)) (H ++ [aAdd (S i) i ⟨N, i, i⟩ a true false]) (md.set N.toNat (sget md N + a)) tk := by
  obtain ⟨_, h2, h3, _⟩ := addE_0 he
  rw [inR_iff] at h2 h3
  simp only at h2
  have hm := h.mb _ (sget_mem h.ml h2.1 h2.2)
  have e := mc_step' k
  refine ⟨h2, ⟨hm.1, by omega⟩, h3.1, h.add hi (addOk_make (h.o8 hi) N) _ tk (by rw [List.length_set]; exact h.ml) h.tl (set_bound h.ml h2.1 h2.2 h.mb h3) (fun x hx => ⟨(h.tb x hx).1, Int.le_trans (h.tb x hx).2 (mc_step k)⟩) fun s s0 s7 => ?_⟩
  rw [if_pos he, sget_setL h.ml h2.1 h2.2 _ _ s0]
  unfold conL
  simp only [if_true]
  by_cases e : s = N
  · subst e; rw [if_pos rfl, if_pos rfl]; omega
  · rw [if_neg e, if_neg fun h => e h.symm]; omega
theorem GI.take1 (h : GI n k S H md tk) {i : Nat} (hi : i < n) (N a : Int) (he : addE (S i) i ⟨N, i, -1⟩ a true true = 0) : (0 ≤ N ∧ N ≤ 7) ∧ (0 ≤ sget tk N ∧ sget tk N + a ≤ MC * (k + 1 : Nat)) ∧ 1 ≤ a ∧ GI n (k + 1) (updN S i (aAdd (S i) i ⟨N, i, -1⟩ a true true)) (H ++ [aAdd (S i) i ⟨N, i, -1⟩ a true true]) md (tk.set N.toNat (sget tk N + a)) := by
  obtain ⟨_, h2, h3, _⟩ := addE_0 he
  rw [inR_iff] at h2 h3
  simp only at h2
  have hm := h.tb _ (sget_mem h.tl h2.1 h2.2)
  have e := mc_step' k
  refine ⟨h2, ⟨hm.1, by omega⟩, h3.1, h.add hi (addOk_take (h.o8 hi) N) md _ h.ml (by rw [List.length_set]; exact h.tl) (fun x hx => ⟨(h.mb x hx).1, Int.le_trans (h.mb x hx).2 (mc_step k)⟩) (set_bound h.tl h2.1 h2.2 h.tb h3) fun s s0 s7 => ?_⟩
  rw [if_pos he, sget_setL h.tl h2.1 h2.2 _ _ s0]
  unfold conL
  simp only [if_true]
  by_cases e : s = N
  · subst e; rw [if_pos rfl, if_pos rfl, if_neg (by omega)]; omega
  · rw [if_neg e, if_neg fun h => e h.symm]; omega
end
end Go.Proofs.YtmeaeapopfcmbaaGreat
