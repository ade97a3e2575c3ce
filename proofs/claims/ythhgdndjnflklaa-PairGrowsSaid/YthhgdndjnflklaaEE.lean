/- Several texts in one: E0 E1 E2 E3 E4 E5 E6 E7 E8. No conditions. -/
import Derived.Test.YthhgdndjnflklaaCC
/- Ways in the forest: from an even stone over its mate's parent to the root; what holds of a forest; a new pair of stones in it. No conditions. -/
namespace Go.Proofs.Ythhgdndjnflklaa
set_option linter.unusedVariables false
set_option linter.unusedSimpArgs false

theorem upd_is_ {α : Type} {f : Nat → α} {i : Nat} {v : α} : upd f i v i = v := by simp [upd]
theorem upd_no_ {α : Type} {f : Nat → α} {i j : Nat} {v : α} (h : j ≠ i) : upd f i v j = f j := by simp [upd, h]
theorem bt_ne {a b : Bool} (h : a = true) (h2 : b = false) : a ≠ b := by rw [h, h2]; decide
theorem tf {b : Bool} (h : b = true) (h2 : b = false) : False := by rw [h] at h2; exact absurd h2 (by decide)

/-- The way from a stone to the root. -/
inductive Tr (M : Nat → Nat) (root : Nat) (pa : Nat → Int) : Nat → List Nat → Prop
  | root : Tr M root pa root [root]
  | step {y : Nat} {l : List Nat} : y ≠ root → Tr M root pa (pa (M y)).toNat l → Tr M root pa y (y :: l)
section
variable {M : Nat → Nat} {root : Nat} {pa pa' : Nat → Int}
theorem Tr.head {y : Nat} {l : List Nat} (h : Tr M root pa y l) : ∃ t, l = y :: t := by
  cases h with
  | root => exact ⟨[], rfl⟩
  | step _ _ => exact ⟨_, rfl⟩
theorem Tr.det {y : Nat} {l : List Nat} (h : Tr M root pa y l) : ∀ {l' : List Nat}, Tr M root pa y l' → l = l' := by
  induction h with
  | root =>
    intro l' h'
    cases h' with
    | root => rfl
    | step hne _ => exact absurd rfl hne
  | step hne _ ih =>
    intro l' h'
    cases h' with
    | root => exact absurd rfl hne
    | step _ h2 => rw [ih h2]
theorem Tr.root_mem {y : Nat} {l : List Nat} (h : Tr M root pa y l) : root ∈ l := by
  induction h with
  | root => exact List.mem_singleton.mpr rfl
  | step _ _ ih => exact List.mem_cons_of_mem _ ih
/-- From every stone of a way the rest of the way goes on. -/
theorem Tr.suffix {y : Nat} {l : List Nat} (h : Tr M root pa y l) : ∀ {z : Nat}, z ∈ l → ∃ l1 l2, l = l1 ++ l2 ∧ Tr M root pa z l2 := by
  induction h with
  | root =>
    intro z hz
    obtain rfl := List.mem_singleton.mp hz
    exact ⟨[], [z], rfl, Tr.root⟩
  | @step y l hne ht ih =>
    intro z hz
    rcases List.mem_cons.mp hz with rfl | hz
    · exact ⟨[], z :: l, rfl, Tr.step hne ht⟩
    · obtain ⟨l1, l2, e, ht2⟩ := ih hz
      exact ⟨y :: l1, l2, by rw [e]; rfl, ht2⟩
theorem Tr.nodup {y : Nat} {l : List Nat} (h : Tr M root pa y l) : l.Nodup := by
  induction h with
  | root => exact List.nodup_cons.mpr ⟨by simp, List.nodup_nil⟩
  | @step y l hne ht ih =>
    refine List.nodup_cons.mpr ⟨fun hm => ?_, ih⟩
    obtain ⟨l1, l2, e, ht2⟩ := ht.suffix hm
    have := ht2.det (Tr.step hne ht)
    have hl := congrArg List.length e
    rw [this, List.length_append, List.length_cons] at hl
    omega
theorem Tr.congr {y : Nat} {l : List Nat} (h : Tr M root pa y l) : (∀ e, e ∈ l → e ≠ root → pa' (M e) = pa (M e)) → Tr M root pa' y l := by
  induction h with
  | root => exact fun _ => Tr.root
  | @step y l hne ht ih =>
    intro he
    refine Tr.step hne ?_
    rw [he y List.mem_cons_self hne]
    exact ih (fun e hm => he e (List.mem_cons_of_mem _ hm))
theorem Tr.inv {y a : Nat} {l l0 : List Nat} (h : Tr M root pa y l0) (he : l0 = a :: l) : a = y ∧ ((l = [] ∧ y = root) ∨ (y ≠ root ∧ Tr M root pa (pa (M y)).toNat l)) := by
  cases h with
  | root => exact ⟨(List.cons.inj he).1.symm, Or.inl ⟨(List.cons.inj he).2.symm, rfl⟩⟩
  | step hne ht => exact ⟨(List.cons.inj he).1.symm, Or.inr ⟨hne, (List.cons.inj he).2 ▸ ht⟩⟩
/-- A way's first part, with another rest. -/
theorem Tr.graft {y : Nat} {A : List Nat} : ∀ {z : Nat} {B N : List Nat}, Tr M root pa y (A ++ z :: B) → (∀ e, e ∈ A → pa' (M e) = pa (M e)) → z ≠ root → Tr M root pa' (pa' (M z)).toNat N → Tr M root pa' y (A ++ z :: N) := by
  induction A generalizing y with
  | nil =>
    intro z B N h _ hz hN
    obtain ⟨t, ht⟩ := h.head
    rw [List.nil_append] at ht
    obtain rfl := (List.cons.inj ht).1
    exact Tr.step hz hN
  | cons a A ih =>
    intro z B N h he hz hN
    obtain ⟨rfl, h1⟩ := h.inv rfl
    rcases h1 with ⟨h1, _⟩ | ⟨hne, ht⟩
    · exact absurd h1 (by simp)
    · refine Tr.step hne ?_
      rw [he a List.mem_cons_self]
      exact ih ht (fun e hm => he e (List.mem_cons_of_mem _ hm)) hz hN
end

theorem nodup_len : ∀ (n : Nat) (l : List Nat), l.Nodup → (∀ x, x ∈ l → x < n) → l.length ≤ n
  | 0, l, _, h => by
    cases l with
    | nil => exact Nat.le_refl _
    | cons a l => exact absurd (h a List.mem_cons_self) (by omega)
  | n + 1, l, hn, h => by
    by_cases hm : n ∈ l
    · have h1 := nodup_len n (l.erase n) (hn.erase n) (fun x hx => by
        have h2 := h x (List.mem_of_mem_erase hx)
        have h3 : x ≠ n := fun e => by subst e; exact (List.Nodup.not_mem_erase hn) hx
        omega)
      rw [List.length_erase_of_mem hm] at h1
      omega
    · have h1 := nodup_len n l hn (fun x hx => by
        have h2 := h x hx
        have h3 : x ≠ n := fun e => hm (e ▸ hx)
        omega)
      omega

/-- No pair lies on the way both ways. -/
def Xr (M : Nat → Nat) (root : Nat) (l : List Nat) : Prop := ∀ z, z ∈ l → z ≠ root → M z ∉ l

/-- What holds of a forest. -/
structure FI (n : Nat) (nx : Nat → Nat → Bool) (M : Nat → Nat) (root : Nat) (ρ : Nat → Nat) (pa : Nat → Int) (ba : Nat → Nat) (us : Nat → Bool) : Prop where
  ub : ∀ v, us v = true → v < n
  rt : us root = true ∧ ba root = root
  un : ∀ v, v < n → us v = false → ba v = v
  bu : ∀ v, us v = true → us (ba v) = true ∧ ba (ba v) = ba v
  nb : ∀ v, us v = true → ba v ≠ v → M v < n ∧ us (M v) = true ∧ ba (M v) = ba v
  bm : ∀ v, us v = true → ba v = v → v ≠ root → M v < n ∧ us (M v) = false
  adj : ∀ y, y < n → 0 ≤ pa y → M y < n ∧ us (M y) = true ∧ us (pa y).toNat = true ∧ nx y (pa y).toNat = true
  up : ∀ y, us y = true → y ≠ root → 0 ≤ pa (M y) ∧ (ba y ≠ y → ba (pa (M y)).toNat = ba y) ∧ (ba y = y → ρ (ba (pa (M y)).toNat) < ρ y)
  tr : ∀ y, us y = true → ∃ l, Tr M root pa y l ∧ Xr M root l

section
variable {n : Nat} {nx : Nat → Nat → Bool} {M : Nat → Nat} {root : Nat} {ρ : Nat → Nat} {pa : Nat → Int} {ba : Nat → Nat} {us : Nat → Bool}
theorem FI.mlt (h : FI n nx M root ρ pa ba us) {y : Nat} (hy : us y = true) (hr : y ≠ root) : M y < n := by
  by_cases hb : ba y = y
  · exact (h.bm y hy hb hr).1
  · exact (h.nb y hy hb).1
theorem FI.next (h : FI n nx M root ρ pa ba us) {y : Nat} (hy : us y = true) (hr : y ≠ root) : us (pa (M y)).toNat = true :=
  (h.adj (M y) (h.mlt hy hr) (h.up y hy hr).1).2.2.1
theorem FI.used (h : FI n nx M root ρ pa ba us) {y : Nat} {l : List Nat} (ht : Tr M root pa y l) : us y = true → ∀ e, e ∈ l → us e = true := by
  induction ht with
  | root =>
    intro hy e he
    obtain rfl := List.mem_singleton.mp he
    exact hy
  | @step y l hne ht ih =>
    intro hy e he
    rcases List.mem_cons.mp he with rfl | he
    · exact hy
    · exact ih (h.next hy hne) e he
theorem FI.len (h : FI n nx M root ρ pa ba us) {y : Nat} {l : List Nat} (ht : Tr M root pa y l) (hy : us y = true) : l.length ≤ n :=
  nodup_len n l ht.nodup (fun x hx => h.ub x (h.used ht hy x hx))
theorem FI.mono (h : FI n nx M root ρ pa ba us) {y : Nat} {l : List Nat} (ht : Tr M root pa y l) : us y = true → ∀ e, e ∈ l → ba e = ba y ∨ ρ (ba e) < ρ (ba y) := by
  induction ht with
  | root =>
    intro hy e he
    obtain rfl := List.mem_singleton.mp he
    exact Or.inl rfl
  | @step y l hne ht ih =>
    intro hy e he
    rcases List.mem_cons.mp he with rfl | he
    · exact Or.inl rfl
    · have h1 := ih (h.next hy hne) e he
      obtain ⟨_, h2, h3⟩ := h.up y hy hne
      by_cases hb : ba y = y
      · have h4 := h3 hb
        rw [hb]
        rcases h1 with h1 | h1
        · rw [h1]; exact Or.inr h4
        · exact Or.inr (by omega)
      · rw [h2 hb] at h1
        exact h1
theorem FI.le (h : FI n nx M root ρ pa ba us) {y : Nat} {l : List Nat} (ht : Tr M root pa y l) (hy : us y = true) {e : Nat} (he : e ∈ l) : ρ (ba e) ≤ ρ (ba y) := by
  rcases h.mono ht hy e he with h1 | h1
  · rw [h1]; exact Nat.le_refl _
  · exact Nat.le_of_lt h1
/-- A way comes by its stone's base. -/
theorem FI.base (h : FI n nx M root ρ pa ba us) {y : Nat} {l : List Nat} (ht : Tr M root pa y l) : us y = true → ∃ w l2, l = w ++ l2 ∧ Tr M root pa (ba y) l2 ∧ ∀ e, e ∈ w → ba e = ba y := by
  induction ht with
  | root =>
    intro hy
    exact ⟨[], [root], rfl, by rw [h.rt.2]; exact Tr.root, fun e he => absurd he (by simp)⟩
  | @step y l hne ht ih =>
    intro hy
    by_cases hb : ba y = y
    · exact ⟨[], y :: l, rfl, by rw [hb]; exact Tr.step hne ht, fun e he => absurd he (by simp)⟩
    · obtain ⟨w, l2, e1, h1, h2⟩ := ih (h.next hy hne)
      have h3 := (h.up y hy hne).2.1 hb
      rw [h3] at h1 h2
      refine ⟨y :: w, l2, by rw [e1]; rfl, h1, fun e he => ?_⟩
      rcases List.mem_cons.mp he with rfl | he
      · rfl
      · exact h2 e he
end

/-- The forest of a root alone. -/
theorem FI.init {n : Nat} {nx : Nat → Nat → Bool} {M : Nat → Nat} {root : Nat} (hr : root < n) : FI n nx M root (fun _ => 0) (fun _ => -1) (fun i => i) (upd (fun _ => false) root true) := by
  have hu : ∀ v, upd (fun _ => false) root true v = true → v = root := fun v hv => by
    by_cases h : v = root
    · exact h
    · rw [upd_no_ h] at hv; exact absurd hv (by simp)
  refine ⟨fun v hv => by rw [hu v hv]; exact hr, ⟨upd_is_, rfl⟩, fun v _ _ => rfl, fun v hv => ⟨hv, rfl⟩, fun v _ h => absurd rfl h, fun v hv _ hne => absurd (hu v hv) hne, fun y _ h => absurd h (by show ¬ (0:Int) ≤ -1; omega), fun y hy hne => absurd (hu y hy) hne, fun y hy => ?_⟩
  rw [hu y hy]
  refine ⟨[root], Tr.root, fun z hz hne => absurd (List.mem_singleton.mp hz) hne⟩

/-- A matching's own facts. -/
theorem Mat.inj {n : Nat} {nx : Nat → Nat → Bool} {M : Nat → Nat} (hM : Mat n nx M) {a b : Nat} (ha : a < n) (hb : b < n) (h1 : M a < n) (h : M a = M b) : a = b := by
  rw [← hM.back a ha h1, ← hM.back b hb (h ▸ h1), h]
theorem Mat.ne {n : Nat} {nx : Nat → Nat → Bool} {M : Nat → Nat} (hG : Gr n nx) (hM : Mat n nx M) {a : Nat} (ha : a < n) (h1 : M a < n) : M a ≠ a := fun h => by
  have := hM.near a ha h1
  rw [h, hG.irr] at this
  exact absurd this (by simp)

/-- A stone that the tree does not hold yet, and its mate. -/
theorem FI.grow {n : Nat} {nx : Nat → Nat → Bool} {M : Nat → Nat} {root : Nat} {ρ : Nat → Nat} {pa : Nat → Int} {ba : Nat → Nat} {us : Nat → Bool} (hG : Gr n nx) (hM : Mat n nx M) (hroot : M root = n) (h : FI n nx M root ρ pa ba us)
    {v i : Nat} (hv : us v = true) (hi : i < n) (hx : nx v i = true) (hir : i ≠ root) (hnot : ¬ (M i ≠ n ∧ 0 ≤ pa (M i))) (hpi : pa i < 0) (hmi : M i ≠ n) :
    us i = false ∧ us (M i) = false ∧ M i < n ∧ FI n nx M root (upd ρ (M i) (ρ (ba v) + 1)) (upd pa i (v : Int)) ba (upd us (M i) true) := by
  have hmlt : M i < n := by have := hM.le i hi; omega
  have hback : M (M i) = i := hM.back i hi hmlt
  have hui : us i = false := by
    cases hu : us i with
    | false => rfl
    | true => exact absurd ⟨hmi, (h.up i hu hir).1⟩ hnot
  have hzr : M i ≠ root := fun e => by rw [e, hroot] at hback; omega
  have huz : us (M i) = false := by
    cases hu : us (M i) with
    | false => rfl
    | true =>
      have := (h.up (M i) hu hzr).1
      rw [hback] at this
      omega
  have hne : M i ≠ i := hM.ne hG hi hmlt
  have hold : ∀ y, us y = true → y ≠ M i := fun y hy e => tf (e ▸ hy) huz
  have hoi : ∀ y, us y = true → y ≠ i := fun y hy e => tf (e ▸ hy) hui
  have hmy : ∀ y, us y = true → y ≠ root → M y ≠ i := fun y hy hr e => hold y hy (by rw [← e, hM.back y (h.ub y hy) (h.mlt hy hr)])
  have hmz : ∀ y, us y = true → y ≠ root → M y ≠ M i := fun y hy hr e => hoi y hy (hM.inj (h.ub y hy) hi (h.mlt hy hr) e)
  have hbaz : ba (M i) = M i := h.un _ hmlt huz
  have hbz : ∀ y, us y = true → ba y ≠ M i := fun y hy => hold _ (h.bu y hy).1
  have hor : ∀ y, upd us (M i) true y = true → y = M i ∨ us y = true := fun y hy => by
    by_cases e : y = M i
    · exact Or.inl e
    · rw [upd_no_ e] at hy; exact Or.inr hy
  have hin : ∀ y, us y = true → upd us (M i) true y = true := fun y hy => by rw [upd_no_ (hold y hy)]; exact hy
  refine ⟨hui, huz, hmlt, ?_⟩
  have htr : ∀ y, us y = true → ∃ l, Tr M root (upd pa i (v : Int)) y l ∧ Xr M root l ∧ ∀ e, e ∈ l → us e = true := by
    intro y hy
    obtain ⟨l, h1, h2⟩ := h.tr y hy
    have h3 := h.used h1 hy
    exact ⟨l, h1.congr (fun e he hr => upd_no_ (hmy e (h3 e he) hr)), h2, h3⟩
  refine ⟨fun y hy => ?_, ⟨hin _ h.rt.1, h.rt.2⟩, fun y hyn hy => ?_, fun y hy => ?_, fun y hy hb => ?_, fun y hy hb hr => ?_, fun y hy hp => ?_, fun y hy hr => ?_, fun y hy => ?_⟩
  · rcases hor y hy with rfl | hy
    · exact hmlt
    · exact h.ub y hy
  · have hyz : y ≠ M i := fun e => by rw [e, upd_is_] at hy; exact absurd hy (by decide)
    rw [upd_no_ hyz] at hy
    exact h.un y hyn hy
  · rcases hor y hy with rfl | hy
    · rw [hbaz]; exact ⟨upd_is_, hbaz⟩
    · exact ⟨hin _ (h.bu y hy).1, (h.bu y hy).2⟩
  · rcases hor y hy with rfl | hy
    · exact absurd hbaz hb
    · obtain ⟨h1, h2, h3⟩ := h.nb y hy hb
      exact ⟨h1, hin _ h2, h3⟩
  · rcases hor y hy with rfl | hy
    · rw [hback, upd_no_ (Ne.symm hne)]
      exact ⟨hi, hui⟩
    · obtain ⟨h1, h2⟩ := h.bm y hy hb hr
      exact ⟨h1, by rw [upd_no_ (hmz y hy hr)]; exact h2⟩
  · by_cases hyi : y = i
    · subst hyi
      rw [upd_is_, upd_is_]
      refine ⟨hmlt, rfl, ?_, ?_⟩
      · rw [Int.toNat_natCast]; exact hin v hv
      · rw [Int.toNat_natCast, hG.sym]; exact hx
    · rw [upd_no_ hyi] at hp ⊢
      obtain ⟨h1, h2, h3, h4⟩ := h.adj y hy hp
      exact ⟨h1, hin _ h2, hin _ h3, h4⟩
  · rcases hor y hy with rfl | hy
    · rw [hback, upd_is_, Int.toNat_natCast]
      refine ⟨by omega, fun hb => absurd hbaz hb, fun _ => ?_⟩
      rw [upd_is_, upd_no_ (hbz v hv)]
      omega
    · rw [upd_no_ (hmy y hy hr)]
      obtain ⟨h1, h2, h3⟩ := h.up y hy hr
      refine ⟨h1, h2, fun hb => ?_⟩
      rw [upd_no_ (hbz _ (h.next hy hr)), upd_no_ (hold y hy)]
      exact h3 hb
  · rcases hor y hy with rfl | hy
    · obtain ⟨l, h1, h2, h3⟩ := htr v hv
      refine ⟨M i :: l, Tr.step hzr (by rw [hback, upd_is_, Int.toNat_natCast]; exact h1), fun z hz hr hm => ?_⟩
      rcases List.mem_cons.mp hz with rfl | hz
      · rw [hback] at hm
        rcases List.mem_cons.mp hm with e | hm
        · exact hne e.symm
        · exact tf (h3 i hm) hui
      · rcases List.mem_cons.mp hm with e | hm
        · exact hmz z (h3 z hz) hr e
        · exact h2 z hz hr hm
    · obtain ⟨l, h1, h2, _⟩ := htr y hy
      exact ⟨l, h1, h2⟩
end Go.Proofs.Ythhgdndjnflklaa

/- Where two ways meet: common's answer. No conditions. -/
namespace Go.Proofs.Ythhgdndjnflklaa
set_option linter.unusedVariables false
set_option linter.unusedSimpArgs false
section
variable {n : Nat} {nx : Nat → Nat → Bool} {M : Nat → Nat} {root : Nat} {ρ : Nat → Nat} {pa : Nat → Int} {ba : Nat → Nat} {us : Nat → Bool}
/-- A way, parted behind its first base. -/
theorem FI.parts (h : FI n nx M root ρ pa ba us) {y : Nat} {l : List Nat} (ht : Tr M root pa y l) (hy : us y = true) :
    ∃ w l3, l = w ++ ba y :: l3 ∧ (∀ e, e ∈ w → ba e = ba y) ∧ ((ba y = root ∧ l3 = []) ∨ (ba y ≠ root ∧ Tr M root pa (pa (M (ba y))).toNat l3)) := by
  obtain ⟨w, l2, e1, h1, h2⟩ := h.base ht hy
  obtain ⟨t, ht2⟩ := h1.head
  obtain ⟨_, h3⟩ := h1.inv ht2
  refine ⟨w, t, by rw [e1, ht2], h2, ?_⟩
  rcases h3 with ⟨h3, h4⟩ | h3
  · exact Or.inl ⟨h4, h3⟩
  · exact Or.inr h3
theorem FI.bases (h : FI n nx M root ρ pa ba us) {y : Nat} {w l3 : List Nat} (hy : us y = true) (hw : ∀ e, e ∈ w → ba e = ba y) (x : Nat) : (∃ e, e ∈ w ++ ba y :: l3 ∧ ba e = x) ↔ x = ba y ∨ ∃ e, e ∈ l3 ∧ ba e = x := by
  constructor
  · rintro ⟨e, he, rfl⟩
    rcases List.mem_append.mp he with he | he
    · exact Or.inl (hw e he)
    · rcases List.mem_cons.mp he with rfl | he
      · exact Or.inl (h.bu y hy).2
      · exact Or.inr ⟨e, he, rfl⟩
  · rintro (rfl | ⟨e, he, rfl⟩)
    · exact ⟨ba y, List.mem_append.mpr (Or.inr List.mem_cons_self), (h.bu y hy).2⟩
    · exact ⟨e, List.mem_append.mpr (Or.inr (List.mem_cons_of_mem _ he)), rfl⟩
theorem comUp_ok (hroot : M root = n) (h : FI n nx M root ρ pa ba us) : ∀ (m k a : Nat) (seen : Nat → Bool) (l : List Nat), l.length ≤ m → m < k → Tr M root pa a l → us a = true →
    ∃ seen', comUp n M pa ba k a seen = some seen' ∧ ∀ x, seen' x = true ↔ seen x = true ∨ ∃ e, e ∈ l ∧ ba e = x
  | m, 0, a, seen, l, _, hk, _, _ => by omega
  | 0, k + 1, a, seen, l, hl, _, ht, _ => by
    obtain ⟨t, rfl⟩ := ht.head
    simp at hl
  | m + 1, k + 1, a, seen, l, hl, hk, ht, ha => by
    obtain ⟨w, l3, rfl, hw, hc⟩ := h.parts ht ha
    have hb := (h.bu a ha).1
    simp only [comUp]
    rw [if_pos ⟨h.ub a ha, h.ub _ hb⟩]
    rcases hc with ⟨h1, rfl⟩ | ⟨h1, h2⟩
    · rw [if_pos (by rw [h1]; exact hroot)]
      refine ⟨_, rfl, fun x => ?_⟩
      rw [h.bases ha hw x]
      by_cases hx : x = ba a
      · subst hx
        rw [upd_is_]
        exact ⟨fun _ => Or.inr (Or.inl rfl), fun _ => rfl⟩
      · rw [upd_no_ hx]
        exact ⟨fun h => Or.inl h, fun h => h.elim id (fun h => h.elim (fun h => absurd h hx) (fun ⟨e, he, _⟩ => absurd he (by simp)))⟩
    · have hm := h.mlt hb h1
      rw [if_neg (by omega), if_pos ⟨hm, (h.up _ hb h1).1⟩]
      have hlen : l3.length ≤ m := by
        rw [List.length_append, List.length_cons] at hl
        omega
      obtain ⟨s', e1, e2⟩ := comUp_ok hroot h m k _ (upd seen (ba a) true) l3 hlen (by omega) h2 (h.next hb h1)
      refine ⟨s', e1, fun x => ?_⟩
      rw [e2 x, h.bases ha hw x]
      by_cases hx : x = ba a
      · subst hx
        rw [upd_is_]
        exact ⟨fun _ => Or.inr (Or.inl rfl), fun _ => Or.inl rfl⟩
      · rw [upd_no_ hx]
        exact ⟨fun h => h.elim Or.inl (fun h => Or.inr (Or.inr h)), fun h => h.elim Or.inl (fun h => h.elim (fun h => absurd h hx) Or.inr)⟩
theorem comDown_ok (hroot : M root = n) (h : FI n nx M root ρ pa ba us) (seen : Nat → Bool) (hs : seen root = true) : ∀ (m k b : Nat) (l : List Nat), l.length ≤ m → m < k → Tr M root pa b l → us b = true →
    ∃ c, comDown n M pa ba seen k b = some c ∧ seen c = true ∧ (∃ e, e ∈ l ∧ ba e = c) ∧ ∀ x, seen x = true → (∃ e, e ∈ l ∧ ba e = x) → ρ x ≤ ρ c
  | m, 0, b, l, _, hk, _, _ => by omega
  | 0, k + 1, b, l, hl, _, ht, _ => by
    obtain ⟨t, rfl⟩ := ht.head
    simp at hl
  | m + 1, k + 1, b, l, hl, hk, ht, hb0 => by
    have hle := fun e (he : e ∈ l) => h.le ht hb0 he
    obtain ⟨w, l3, rfl, hw, hc⟩ := h.parts ht hb0
    have hb := (h.bu b hb0).1
    simp only [comDown]
    rw [if_pos ⟨h.ub b hb0, h.ub _ hb⟩]
    cases hsb : seen (ba b) with
    | true =>
      rw [if_pos rfl]
      refine ⟨ba b, rfl, hsb, ⟨ba b, List.mem_append.mpr (Or.inr List.mem_cons_self), (h.bu b hb0).2⟩, ?_⟩
      rintro x _ ⟨e, he, rfl⟩
      exact hle e he
    | false =>
      have h1 : ba b ≠ root := fun e => by rw [e, hs] at hsb; exact absurd hsb (by decide)
      rcases hc with ⟨h2, _⟩ | ⟨_, h2⟩
      · exact absurd h2 h1
      rw [if_neg (by decide), if_pos ⟨h.mlt hb h1, (h.up _ hb h1).1⟩]
      have hlen : l3.length ≤ m := by
        rw [List.length_append, List.length_cons] at hl
        omega
      obtain ⟨c, e1, e2, ⟨e, e3, e4⟩, e5⟩ := comDown_ok hroot h seen hs m k _ l3 hlen (by omega) h2 (h.next hb h1)
      refine ⟨c, e1, e2, ⟨e, List.mem_append.mpr (Or.inr (List.mem_cons_of_mem _ e3)), e4⟩, fun x hx hm => ?_⟩
      rcases (h.bases hb0 hw x).mp hm with rfl | hm
      · exact absurd hx (by rw [hsb]; decide)
      · exact e5 x hx hm
/-- common's answer: the base at which two ways meet. -/
theorem comS_ok (hroot : M root = n) (h : FI n nx M root ρ pa ba us) {k a b : Nat} {la lb : List Nat} (hk : n < k) (hta : Tr M root pa a la) (ha : us a = true) (htb : Tr M root pa b lb) (hb : us b = true) :
    ∃ c, comS n M pa ba k a b = some c ∧ (∃ e, e ∈ la ∧ ba e = c) ∧ (∃ e, e ∈ lb ∧ ba e = c) ∧ ∀ e f, e ∈ la → f ∈ lb → ba e = ba f → ρ (ba e) ≤ ρ c := by
  obtain ⟨s, e1, e2⟩ := comUp_ok hroot h la.length k a (fun _ => false) la (Nat.le_refl _) (by have := h.len hta ha; omega) hta ha
  have hsr : s root = true := (e2 root).mpr (Or.inr ⟨root, hta.root_mem, h.rt.2⟩)
  obtain ⟨c, e3, e4, e5, e6⟩ := comDown_ok hroot h s hsr lb.length k b lb (Nat.le_refl _) (by have := h.len htb hb; omega) htb hb
  refine ⟨c, ?_, ?_, e5, fun e f he hf hef => ?_⟩
  · unfold comS
    rw [e1, Option.bind_some]
    exact e3
  · rcases (e2 c).mp e4 with h1 | h1
    · exact absurd h1 (by decide)
    · exact h1
  · exact e6 (ba e) ((e2 _).mpr (Or.inr ⟨e, he, rfl⟩)) ⟨f, hf, hef.symm⟩
end
end Go.Proofs.Ythhgdndjnflklaa

/- mark's walk, and the ways after a blossom has been shrunk. No conditions. -/
namespace Go.Proofs.Ythhgdndjnflklaa
set_option linter.unusedVariables false
set_option linter.unusedSimpArgs false

/-- The parents that mark lays. -/
def wr (M : Nat → Nat) : List Nat → Nat → (Nat → Int) → Nat → Int
  | [], _, pa => pa
  | e :: E, child, pa => wr M E (M e) (upd pa e (child : Int))
/-- The bases that mark marks. -/
def inU (M : Nat → Nat) (ba : Nat → Nat) : List Nat → (Nat → Bool) → Nat → Bool
  | [], inn => inn
  | e :: E, inn => inU M ba E (upd (upd inn (ba e) true) (ba (M e)) true)
/-- Each stone's parent leads back. -/
def BR (M : Nat → Nat) (pa : Nat → Int) : List Nat → Nat → Prop
  | [], _ => True
  | e :: E, child => pa e = (child : Int) ∧ BR M pa E (M e)
theorem wr_out {M : Nat → Nat} : ∀ (E : List Nat) (child : Nat) (pa : Nat → Int) (y : Nat), y ∉ E → wr M E child pa y = pa y
  | [], _, _, _, _ => rfl
  | e :: E, child, pa, y, h => by
    simp only [wr]
    rw [wr_out E (M e) _ y (fun hm => h (List.mem_cons_of_mem _ hm)), upd_no_ (fun he => h (by rw [he]; exact List.mem_cons_self))]
theorem wr_br {M : Nat → Nat} : ∀ (E : List Nat) (child : Nat) (pa : Nat → Int), E.Nodup → BR M (wr M E child pa) E child
  | [], _, _, _ => trivial
  | e :: E, child, pa, h => by
    have h2 := List.nodup_cons.mp h
    refine ⟨?_, ?_⟩
    · simp only [wr]
      rw [wr_out E _ _ e h2.1, upd_is_]
    · simp only [wr]
      exact wr_br E (M e) _ h2.2
theorem BR.congr {M : Nat → Nat} {pa pa' : Nat → Int} : ∀ {E : List Nat} {child : Nat}, BR M pa E child → (∀ e, e ∈ E → pa' e = pa e) → BR M pa' E child
  | [], _, _, _ => trivial
  | e :: E, child, h, he => ⟨(he e List.mem_cons_self).trans h.1, h.2.congr (fun e hm => he e (List.mem_cons_of_mem _ hm))⟩
theorem inU_iff {M : Nat → Nat} {ba : Nat → Nat} : ∀ (E : List Nat) (inn : Nat → Bool) (x : Nat), inU M ba E inn x = true ↔ inn x = true ∨ ∃ e, e ∈ E ∧ (x = ba e ∨ x = ba (M e))
  | [], inn, x => by simp [inU]
  | e :: E, inn, x => by
    simp only [inU]
    rw [inU_iff E _ x]
    constructor
    · rintro (h | ⟨f, hf, h⟩)
      · by_cases h1 : x = ba (M e)
        · exact Or.inr ⟨e, List.mem_cons_self, Or.inr h1⟩
        · rw [upd_no_ h1] at h
          by_cases h2 : x = ba e
          · exact Or.inr ⟨e, List.mem_cons_self, Or.inl h2⟩
          · rw [upd_no_ h2] at h
            exact Or.inl h
      · exact Or.inr ⟨f, List.mem_cons_of_mem _ hf, h⟩
    · rintro (h | ⟨f, hf, h⟩)
      · left
        by_cases h1 : x = ba (M e)
        · rw [h1, upd_is_]
        · rw [upd_no_ h1]
          by_cases h2 : x = ba e
          · rw [h2, upd_is_]
          · rw [upd_no_ h2]; exact h
      · rcases List.mem_cons.mp hf with rfl | hf
        · left
          rcases h with rfl | rfl
          · by_cases h1 : ba f = ba (M f)
            · rw [h1, upd_is_]
            · rw [upd_no_ h1, upd_is_]
          · rw [upd_is_]
        · exact Or.inr ⟨f, hf, h⟩
/-- The first that .. -/
theorem first_hit (P : Nat → Prop) : ∀ (l : List Nat), (∀ e, e ∈ l → ¬ P e) ∨ ∃ A e R, l = A ++ e :: R ∧ P e ∧ ∀ a, a ∈ A → ¬ P a
  | [] => Or.inl (fun e he => absurd he (by simp))
  | x :: l => by
    by_cases hx : P x
    · exact Or.inr ⟨[], x, l, rfl, hx, fun a ha => absurd ha (by simp)⟩
    · rcases first_hit P l with h | ⟨A, e, R, rfl, h1, h2⟩
      · left
        intro e he
        rcases List.mem_cons.mp he with rfl | he
        · exact hx
        · exact h e he
      · refine Or.inr ⟨x :: A, e, R, rfl, h1, fun a ha => ?_⟩
        rcases List.mem_cons.mp ha with rfl | ha
        · exact hx
        · exact h2 a ha
theorem Tr.tail {M : Nat → Nat} {root : Nat} {pa : Nat → Int} {z : Nat} {B : List Nat} : ∀ {A : List Nat} {y : Nat}, Tr M root pa y (A ++ z :: B) → Tr M root pa z (z :: B) ∧ ∀ a, a ∈ A → a ≠ root
  | [], y, h => by
    obtain ⟨rfl, _⟩ := h.inv rfl
    exact ⟨h, fun a ha => absurd ha (by simp)⟩
  | a :: A, y, h => by
    obtain ⟨rfl, h1⟩ := h.inv rfl
    rcases h1 with ⟨h1, _⟩ | ⟨hne, ht⟩
    · exact absurd h1 (by simp)
    · obtain ⟨h2, h3⟩ := ht.tail
      refine ⟨h2, fun b hb => ?_⟩
      rcases List.mem_cons.mp hb with rfl | hb
      · exact hne
      · exact h3 b hb

theorem mark_ok {n : Nat} {nx : Nat → Nat → Bool} {M : Nat → Nat} {root : Nat} {ρ : Nat → Nat} {pa : Nat → Int} {ba : Nat → Nat} {us : Nat → Bool} (h : FI n nx M root ρ pa ba us) {c : Nat} :
    ∀ (E : List Nat) (r : Nat) (R : List Nat) (k v child : Nat) (pa1 : Nat → Int) (inn : Nat → Bool), E.length < k → Tr M root pa v (E ++ r :: R) → us v = true → (∀ e, e ∈ E → ba e ≠ c) → ba r = c →
      (∀ e, e ∈ E → pa1 (M e) = pa (M e)) → (∀ e e', e ∈ E → e' ∈ E → M e ≠ e') → markS n M ba c k v child pa1 inn = some (wr M E child pa1, inU M ba E inn)
  | E, r, R, 0, v, child, pa1, inn, hk, _, _, _, _, _, _ => by omega
  | [], r, R, k + 1, v, child, pa1, inn, hk, ht, hv, hE, hr, hp, hM => by
    obtain ⟨rfl, _⟩ := ht.inv rfl
    simp only [markS]
    rw [if_pos ⟨h.ub _ hv, h.ub _ (h.bu _ hv).1⟩, if_pos hr]
    rfl
  | e :: E, r, R, k + 1, v, child, pa1, inn, hk, ht, hv, hE, hr, hp, hM => by
    obtain ⟨rfl, h1⟩ := ht.inv rfl
    rcases h1 with ⟨h1, _⟩ | ⟨hne, ht⟩
    · exact absurd h1 (by simp)
    have hself := List.mem_cons_self (a := e) (l := E)
    have hMe := h.mlt hv hne
    have hne2 : M e ≠ e := hM e e hself hself
    have hpe : upd pa1 e (child : Int) (M e) = pa (M e) := by rw [upd_no_ hne2]; exact hp e hself
    have hbM : ba (M e) < n := by
      cases hu : us (M e) with
      | true => exact h.ub _ (h.bu _ hu).1
      | false => rw [h.un _ hMe hu]; exact hMe
    simp only [markS]
    rw [if_pos ⟨h.ub _ hv, h.ub _ (h.bu _ hv).1⟩, if_neg (hE e hself), hpe, if_pos ⟨hMe, hbM, (h.up e hv hne).1⟩]
    exact mark_ok h E r R k _ (M e) _ _ (by simp at hk; omega) ht (h.next hv hne) (fun e he => hE e (List.mem_cons_of_mem _ he)) hr
      (fun f hf => by rw [upd_no_ (hM f e (List.mem_cons_of_mem _ hf) hself)]; exact hp f (List.mem_cons_of_mem _ hf)) (fun a b ha hb => hM a b (List.mem_cons_of_mem _ ha) (List.mem_cons_of_mem _ hb))

/-- g comes ahead of f. -/
def Bef (E : List Nat) (g f : Nat) : Prop := ∃ E1 E2, E = E1 ++ g :: E2 ∧ f ∈ E2
theorem back_ {M : Nat → Nat} {root : Nat} {pa : Nat → Int} : ∀ (E : List Nat) (child : Nat) (U : List Nat), BR M pa E child → Tr M root pa child U → (∀ e, e ∈ E → M e ≠ root ∧ M (M e) = e) → ∀ f, f ∈ E →
    ∃ N, Tr M root pa (pa f).toNat N ∧ ∀ z, z ∈ N → z ∈ U ∨ ∃ g, g ∈ E ∧ z = M g ∧ Bef E g f
  | [], child, U, _, _, _, f, hf => absurd hf (by simp)
  | e :: E, child, U, hb, ht, hm, f, hf => by
    have hself := List.mem_cons_self (a := e) (l := E)
    by_cases hfe : f = e
    · subst hfe
      refine ⟨U, ?_, fun z hz => Or.inl hz⟩
      rw [hb.1, Int.toNat_natCast]
      exact ht
    · rcases List.mem_cons.mp hf with h1 | hf
      · exact absurd h1 hfe
      obtain ⟨h2, h3⟩ := hm e hself
      obtain ⟨N, h4, h5⟩ := back_ E (M e) (M e :: U) hb.2 (Tr.step h2 (by rw [h3, hb.1, Int.toNat_natCast]; exact ht)) (fun e he => hm e (List.mem_cons_of_mem _ he)) f hf
      refine ⟨N, h4, fun z hz => ?_⟩
      rcases h5 z hz with h6 | ⟨g, h6, h7, E1, E2, h8, h9⟩
      · rcases List.mem_cons.mp h6 with rfl | h6
        · exact Or.inr ⟨e, hself, rfl, [], E, rfl, hf⟩
        · exact Or.inl h6
      · exact Or.inr ⟨g, List.mem_cons_of_mem _ h6, h7, e :: E1, E2, by rw [h8]; rfl, h9⟩

/-- Two even stones whose edge closes a blossom; the parents behind it. -/
structure Sh (n : Nat) (nx : Nat → Nat → Bool) (M : Nat → Nat) (root : Nat) (ρ : Nat → Nat) (pa : Nat → Int) (ba : Nat → Nat) (us : Nat → Bool) (c v u : Nat) (Ev : List Nat) (rv : Nat) (Rv Eu : List Nat) (ru : Nat) (Ru : List Nat) (pa' : Nat → Int) : Prop where
  gr : Gr n nx
  mt : Mat n nx M
  ro : M root = n
  fi : FI n nx M root ρ pa ba us
  tv : Tr M root pa v (Ev ++ rv :: Rv)
  tu : Tr M root pa u (Eu ++ ru :: Ru)
  xv : Xr M root (Ev ++ rv :: Rv)
  xu : Xr M root (Eu ++ ru :: Ru)
  uv : us v = true
  uu : us u = true
  nv : ∀ e, e ∈ Ev → ba e ≠ c
  nu : ∀ e, e ∈ Eu → ba e ≠ c
  bv : ba rv = c
  bu : ba ru = c
  dis : ∀ e f, e ∈ Ev ++ rv :: Rv → f ∈ Eu ++ ru :: Ru → ba e = ba f → ρ (ba e) ≤ ρ c
  brv : BR M pa' Ev u
  bru : BR M pa' Eu v
  out : ∀ y, y ∉ Ev → y ∉ Eu → pa' y = pa y
  ed : nx v u = true
section
variable {n : Nat} {nx : Nat → Nat → Bool} {M : Nat → Nat} {root : Nat} {ρ : Nat → Nat} {pa pa' : Nat → Int} {ba : Nat → Nat} {us : Nat → Bool} {c v u : Nat} {Ev : List Nat} {rv : Nat} {Rv Eu : List Nat} {ru : Nat} {Ru : List Nat}
theorem Sh.symm (s : Sh n nx M root ρ pa ba us c v u Ev rv Rv Eu ru Ru pa') : Sh n nx M root ρ pa ba us c u v Eu ru Ru Ev rv Rv pa' :=
  ⟨s.gr, s.mt, s.ro, s.fi, s.tu, s.tv, s.xu, s.xv, s.uu, s.uv, s.nu, s.nv, s.bu, s.bv, fun e f he hf hh => by rw [hh]; exact s.dis f e hf he hh.symm, s.bru, s.brv, fun y h1 h2 => s.out y h2 h1, by rw [s.gr.sym]; exact s.ed⟩
theorem Sh.used (s : Sh n nx M root ρ pa ba us c v u Ev rv Rv Eu ru Ru pa') {e : Nat} (he : e ∈ Ev) : us e = true := s.fi.used s.tv s.uv e (List.mem_append_left _ he)
theorem Sh.gt (s : Sh n nx M root ρ pa ba us c v u Ev rv Rv Eu ru Ru pa') {e : Nat} (he : e ∈ Ev) : ρ c < ρ (ba e) := by
  obtain ⟨E1, E2, h1⟩ := List.append_of_mem he
  have ht := s.tv
  rw [h1, List.append_assoc, List.cons_append] at ht
  rcases s.fi.mono ht.tail.1 (s.used he) rv (List.mem_cons_of_mem _ (List.mem_append_right _ List.mem_cons_self)) with h2 | h2
  · rw [s.bv] at h2
    exact absurd h2.symm (s.nv e he)
  · rw [s.bv] at h2
    exact h2
theorem Sh.low (s : Sh n nx M root ρ pa ba us c v u Ev rv Rv Eu ru Ru pa') {e : Nat} (he : e ∈ rv :: Rv) : ρ (ba e) ≤ ρ c := by
  have ht := s.tv.tail.1
  have hu := s.fi.used s.tv s.uv rv (List.mem_append_right _ List.mem_cons_self)
  have := s.fi.le ht hu he
  rw [s.bv] at this
  exact this
theorem Sh.nroot (s : Sh n nx M root ρ pa ba us c v u Ev rv Rv Eu ru Ru pa') {e : Nat} (he : e ∈ Ev) : e ≠ root := fun h => by
  have h1 := s.dis root root s.tv.root_mem s.tu.root_mem rfl
  have h2 := s.gt he
  rw [h] at h2
  omega
theorem Sh.apart (s : Sh n nx M root ρ pa ba us c v u Ev rv Rv Eu ru Ru pa') {e : Nat} (he : e ∈ Ev) : e ∉ Eu ++ ru :: Ru := fun h => by
  have h1 := s.dis e e (List.mem_append_left _ he) h rfl
  have h2 := s.gt he
  omega
theorem Sh.basein (s : Sh n nx M root ρ pa ba us c v u Ev rv Rv Eu ru Ru pa') {e : Nat} (he : e ∈ Ev) : ba e ∈ Ev := by
  obtain ⟨E1, E2, h1⟩ := List.append_of_mem he
  have ht := s.tv
  rw [h1, List.append_assoc, List.cons_append] at ht
  obtain ⟨w, l2, h2, h3, _⟩ := s.fi.base ht.tail.1 (s.used he)
  obtain ⟨t, h4⟩ := h3.head
  have h5 : ba e ∈ e :: (E2 ++ rv :: Rv) := by rw [h2, h4]; exact List.mem_append_right _ List.mem_cons_self
  have h6 : ba e ∈ Ev ∨ ba e ∈ rv :: Rv := by
    rcases List.mem_cons.mp h5 with h6 | h6
    · exact Or.inl (by rw [h6]; exact he)
    · rcases List.mem_append.mp h6 with h6 | h6
      · exact Or.inl (by rw [h1]; exact List.mem_append_right _ (List.mem_cons_of_mem _ h6))
      · exact Or.inr h6
  rcases h6 with h6 | h6
  · exact h6
  · have h7 := s.low h6
    rw [(s.fi.bu e (s.used he)).2] at h7
    have := s.gt he
    omega
/-- The mate of an even stone whose mate is even: both in one blossom. -/
theorem FI.both (h : FI n nx M root ρ pa ba us) {e : Nat} (he : us e = true) (hr : e ≠ root) (hm : us (M e) = true) : ba (M e) = ba e := by
  by_cases hb : ba e = e
  · exact (tf hm (h.bm e he hb hr).2).elim
  · exact (h.nb e he hb).2.2
theorem Sh.keepu (s : Sh n nx M root ρ pa ba us c v u Ev rv Rv Eu ru Ru pa') : Tr M root pa' u (Eu ++ ru :: Ru) := by
  refine s.tu.congr (fun e he hr => s.out (M e) (fun h => ?_) (fun h => s.xu e he hr (List.mem_append_left _ h)))
  have hu := s.fi.used s.tu s.uu e he
  have h1 := s.fi.both hu hr (s.used h)
  have h2 := s.dis (M e) e (List.mem_append_left _ h) he h1
  have := s.gt h
  omega
theorem Sh.back (s : Sh n nx M root ρ pa ba us c v u Ev rv Rv Eu ru Ru pa') {f : Nat} (hf : f ∈ Ev) : ∃ N, Tr M root pa' (pa' f).toNat N ∧ ∀ z, z ∈ N → z ∈ Eu ++ ru :: Ru ∨ ∃ g, g ∈ Ev ∧ z = M g ∧ Bef Ev g f :=
  back_ Ev u _ s.brv s.keepu (fun e he => by
    have hu := s.used he
    have h1 := s.fi.mlt hu (s.nroot he)
    have h2 := s.mt.back e (s.fi.ub e hu) h1
    exact ⟨fun h => by rw [h, s.ro] at h2; have := s.fi.ub e hu; omega, h2⟩) f hf
theorem Sh.cat (s : Sh n nx M root ρ pa ba us c v u Ev rv Rv Eu ru Ru pa') {f : Nat} {A N : List Nat} (h1 : ∀ z z', z ∈ A → z' ∈ A → M z ≠ z') (h2 : ∀ z g, z ∈ A → g ∈ Ev → Bef Ev g f → z ≠ g) (h3 : ∀ z w, z ∈ A → w ∈ Eu ++ ru :: Ru → M z ≠ w)
    (h4 : ∀ z, z ∈ A → z < n ∧ M z < n) (hN : ∀ z, z ∈ N → z ∈ Eu ++ ru :: Ru ∨ ∃ g, g ∈ Ev ∧ z = M g ∧ Bef Ev g f) : Xr M root (A ++ N) := by
  have hg : ∀ g, g ∈ Ev → g < n ∧ M g < n ∧ M (M g) = g := fun g hg => by
    have hu := s.used hg
    have h5 := s.fi.mlt hu (s.nroot hg)
    exact ⟨s.fi.ub g hu, h5, s.mt.back g (s.fi.ub g hu) h5⟩
  intro z hz hr hm
  rcases List.mem_append.mp hz with hz | hz
  · rcases List.mem_append.mp hm with hm | hm
    · exact h1 z _ hz hm rfl
    · rcases hN _ hm with h5 | ⟨g, h5, h6, h7⟩
      · exact h3 z _ hz h5 rfl
      · exact h2 z g hz h5 h7 (s.mt.inj (h4 z hz).1 (hg g h5).1 (h4 z hz).2 h6)
  · rcases hN z hz with h5 | ⟨g, h5, rfl, h7⟩
    · have hu := s.fi.used s.tu s.uu z h5
      have h8 := s.fi.mlt hu hr
      have h9 := s.mt.back z (s.fi.ub z hu) h8
      rcases List.mem_append.mp hm with hm | hm
      · exact h3 (M z) z hm h5 h9
      · rcases hN _ hm with h10 | ⟨g, h10, h11, h12⟩
        · exact s.xu z h5 hr h10
        · have := s.mt.inj (s.fi.ub z hu) (hg g h10).1 h8 h11
          exact s.apart h10 (this ▸ h5)
    · rw [(hg g h5).2.2] at hm
      rcases List.mem_append.mp hm with hm | hm
      · exact h2 g g hm h5 h7 rfl
      · rcases hN _ hm with h10 | ⟨g', h10, h11, h12⟩
        · exact s.apart h5 h10
        · exact s.xv g' (List.mem_append_left _ h10) (s.nroot h10) (h11 ▸ List.mem_append_left _ h5)
/-- A way that comes upon a stone whose parent has been turned. -/
theorem Sh.hit (s : Sh n nx M root ρ pa ba us c v u Ev rv Rv Eu ru Ru pa') {y e : Nat} {A R : List Nat} (hy : us y = true) (ht : Tr M root pa y (A ++ e :: R)) (hx : Xr M root (A ++ e :: R)) (her : e ≠ root) (hf : M e ∈ Ev) (hA : ∀ a, a ∈ A → M a ∉ Ev ∧ M a ∉ Eu) :
    ∃ l, Tr M root pa' y l ∧ Xr M root l := by
  obtain ⟨N, hN1, hN2⟩ := s.back hf
  have htail := ht.tail
  have hus := s.fi.used ht hy
  refine ⟨A ++ e :: N, ht.graft (fun a ha => s.out _ (hA a ha).1 (hA a ha).2) her hN1, ?_⟩
  rw [show A ++ e :: N = (A ++ [e]) ++ N by simp]
  have hsub : ∀ z, z ∈ A ++ [e] → z ∈ A ++ e :: R := fun z hz => by
    rcases List.mem_append.mp hz with hz | hz
    · exact List.mem_append_left _ hz
    · exact List.mem_append_right _ (by rw [List.mem_singleton.mp hz]; exact List.mem_cons_self)
  have hzr : ∀ z, z ∈ A ++ [e] → z ≠ root := fun z hz => by
    rcases List.mem_append.mp hz with hz | hz
    · exact htail.2 z hz
    · rw [List.mem_singleton.mp hz]; exact her
  have hue := hus e (List.mem_append_right _ List.mem_cons_self)
  have hfb := s.fi.both hue her (s.used hf)
  refine s.cat (f := M e) (fun z z' hz hz' h => hx z (hsub z hz) (hzr z hz) (h ▸ hsub z' hz')) (fun z g hz hg hb h => ?_) (fun z w hz hw h => ?_) (fun z hz => ?_) hN2
  · subst h
    obtain ⟨l1, l2, e1, ht2⟩ := ht.suffix (hsub z hz)
    obtain ⟨E1, E2, e2, hf2⟩ := hb
    have htv := s.tv
    rw [e2, List.append_assoc, List.cons_append] at htv
    have hd := ht2.det htv.tail.1
    refine hx e (List.mem_append_right _ List.mem_cons_self) her ?_
    rw [e1, hd]
    exact List.mem_append_right _ (List.mem_cons_of_mem _ (List.mem_append_left _ hf2))
  · have huw := s.fi.used s.tu s.uu w hw
    have huz := hus z (hsub z hz)
    have hbz := s.fi.both huz (hzr z hz) (h ▸ huw)
    rcases List.mem_append.mp hw with hw2 | hw2
    · have hze : z = e := by
        rcases List.mem_append.mp hz with hz | hz
        · exact absurd (h ▸ hw2) (hA z hz).2
        · exact List.mem_singleton.mp hz
      subst hze
      exact s.apart hf (h ▸ hw)
    · have h5 := s.symm.low hw2
      rw [← h, hbz] at h5
      have h6 : ρ (ba e) ≤ ρ (ba z) := by
        rcases List.mem_append.mp hz with hz2 | hz2
        · obtain ⟨A1, A2, e3⟩ := List.append_of_mem hz2
          have ht3 := ht
          rw [e3, List.append_assoc, List.cons_append] at ht3
          exact s.fi.le ht3.tail.1 huz (List.mem_cons_of_mem _ (List.mem_append_right _ List.mem_cons_self))
        · rw [List.mem_singleton.mp hz2]; exact Nat.le_refl _
      have h7 := s.gt hf
      rw [hfb] at h7
      omega
  · have huz := hus z (hsub z hz)
    exact ⟨s.fi.ub z huz, s.fi.mlt huz (hzr z hz)⟩
/-- Every even stone's way after the shrinking. -/
theorem Sh.old (s : Sh n nx M root ρ pa ba us c v u Ev rv Rv Eu ru Ru pa') {y : Nat} (hy : us y = true) : ∃ l, Tr M root pa' y l ∧ Xr M root l := by
  obtain ⟨l, ht, hx⟩ := s.fi.tr y hy
  rcases first_hit (fun e => e ≠ root ∧ (M e ∈ Ev ∨ M e ∈ Eu)) l with h | ⟨A, e, R, rfl, ⟨her, hf⟩, hA⟩
  · exact ⟨l, ht.congr (fun e he hr => s.out _ (fun hh => h e he ⟨hr, Or.inl hh⟩) (fun hh => h e he ⟨hr, Or.inr hh⟩)), hx⟩
  · have hA2 : ∀ a, a ∈ A → M a ∉ Ev ∧ M a ∉ Eu := fun a ha => ⟨fun hh => hA a ha ⟨ht.tail.2 a ha, Or.inl hh⟩, fun hh => hA a ha ⟨ht.tail.2 a ha, Or.inr hh⟩⟩
    rcases hf with hf | hf
    · exact s.hit hy ht hx her hf hA2
    · exact s.symm.hit hy ht hx her hf (fun a ha => ⟨(hA2 a ha).2, (hA2 a ha).1⟩)
/-- A stone that becomes even in the blossom. -/
theorem Sh.new (s : Sh n nx M root ρ pa ba us c v u Ev rv Rv Eu ru Ru pa') {x : Nat} (hxn : x < n) (hx : us x = false) (hf : M x ∈ Ev) : ∃ l, Tr M root pa' x l ∧ Xr M root l := by
  obtain ⟨N, hN1, hN2⟩ := s.back hf
  have hMx := s.fi.ub _ (s.used hf)
  refine ⟨x :: N, Tr.step (fun h => tf (h ▸ s.fi.rt.1) hx) hN1, ?_⟩
  refine s.cat (A := [x]) (f := M x) (fun z z' hz hz' h => ?_) (fun z g hz hg _ h => ?_) (fun z w hz hw h => ?_) (fun z hz => ?_) hN2
  · rw [List.mem_singleton.mp hz, List.mem_singleton.mp hz'] at h
    exact s.mt.ne s.gr hxn hMx h
  · rw [List.mem_singleton.mp hz] at h
    exact tf (h ▸ s.used hg) hx
  · rw [List.mem_singleton.mp hz] at h
    exact s.apart hf (h ▸ hw)
  · rw [List.mem_singleton.mp hz]
    exact ⟨hxn, hMx⟩
end
end Go.Proofs.Ythhgdndjnflklaa

/- A blossom shrunk: the forest behind it is one again. No conditions. -/
namespace Go.Proofs.Ythhgdndjnflklaa
set_option linter.unusedVariables false
set_option linter.unusedSimpArgs false
theorem split_at (ba : Nat → Nat) (c : Nat) : ∀ (l : List Nat), (∃ e, e ∈ l ∧ ba e = c) → ∃ E r R, l = E ++ r :: R ∧ (∀ e, e ∈ E → ba e ≠ c) ∧ ba r = c := by
  intro l h
  rcases first_hit (fun e => ba e = c) l with h1 | ⟨A, e, R, h1, h2, h3⟩
  · obtain ⟨e, he, hb⟩ := h
    exact absurd hb (h1 e he)
  · exact ⟨A, e, R, h1, h3, h2⟩
section
variable {n : Nat} {nx : Nat → Nat → Bool} {M : Nat → Nat} {root : Nat} {ρ : Nat → Nat} {pa pa' : Nat → Int} {ba : Nat → Nat} {us : Nat → Bool} {c v u : Nat} {Ev : List Nat} {rv : Nat} {Rv Eu : List Nat} {ru : Nat} {Ru : List Nat}
theorem Sh.cc (s : Sh n nx M root ρ pa ba us c v u Ev rv Rv Eu ru Ru pa') : us c = true ∧ ba c = c := by
  have hu := s.fi.used s.tv s.uv rv (List.mem_append_right _ List.mem_cons_self)
  have := s.fi.bu rv hu
  rw [s.bv] at this
  exact this
theorem Sh.eall (s : Sh n nx M root ρ pa ba us c v u Ev rv Rv Eu ru Ru pa') {e : Nat} (he : e ∈ Ev ∨ e ∈ Eu) : us e = true ∧ ρ c < ρ (ba e) ∧ e ≠ root ∧ (ba e ∈ Ev ∨ ba e ∈ Eu) := by
  rcases he with he | he
  · exact ⟨s.used he, s.gt he, s.nroot he, Or.inl (s.basein he)⟩
  · exact ⟨s.symm.used he, s.symm.gt he, s.symm.nroot he, Or.inr (s.symm.basein he)⟩
/-- What is marked among even stones. -/
theorem Sh.inu (s : Sh n nx M root ρ pa ba us c v u Ev rv Rv Eu ru Ru pa') {inn : Nat → Bool} (hin : ∀ x, inn x = true ↔ ∃ e, (e ∈ Ev ∨ e ∈ Eu) ∧ (x = ba e ∨ x = ba (M e))) {x : Nat} (hx : us x = true) (h : inn x = true) : ∃ e, (e ∈ Ev ∨ e ∈ Eu) ∧ x = ba e := by
  obtain ⟨e, he, h1⟩ := (hin x).mp h
  obtain ⟨h2, h3, h4, h5⟩ := s.eall he
  rcases h1 with h1 | h1
  · exact ⟨e, he, h1⟩
  · cases hm : us (M e) with
    | true => exact ⟨e, he, by rw [h1, s.fi.both h2 h4 hm]⟩
    | false =>
      rw [s.fi.un _ (s.fi.mlt h2 h4) hm] at h1
      exact (tf (h1 ▸ hx) hm).elim
/-- .. and among the others. -/
theorem Sh.inn (s : Sh n nx M root ρ pa ba us c v u Ev rv Rv Eu ru Ru pa') {inn : Nat → Bool} (hin : ∀ x, inn x = true ↔ ∃ e, (e ∈ Ev ∨ e ∈ Eu) ∧ (x = ba e ∨ x = ba (M e))) {x : Nat} (hx : us x = false) (h : inn x = true) : ∃ e, (e ∈ Ev ∨ e ∈ Eu) ∧ x = M e ∧ ba e = e := by
  obtain ⟨e, he, h1⟩ := (hin x).mp h
  obtain ⟨h2, h3, h4, h5⟩ := s.eall he
  rcases h1 with h1 | h1
  · exact (tf (s.fi.bu e h2).1 (h1 ▸ hx)).elim
  · cases hm : us (M e) with
    | true => exact (tf (s.fi.bu _ hm).1 (h1 ▸ hx)).elim
    | false =>
      rw [s.fi.un _ (s.fi.mlt h2 h4) hm] at h1
      refine ⟨e, he, h1, ?_⟩
      by_cases hb : ba e = e
      · exact hb
      · exact (tf (s.fi.nb e h2 hb).2.1 hm).elim
theorem Sh.fi' (s : Sh n nx M root ρ pa ba us c v u Ev rv Rv Eu ru Ru pa') {inn : Nat → Bool} (hin : ∀ x, inn x = true ↔ ∃ e, (e ∈ Ev ∨ e ∈ Eu) ∧ (x = ba e ∨ x = ba (M e))) {ba' : Nat → Nat} {us' : Nat → Bool}
    (hub : ∀ i, us' i = true → i < n) (h1 : ∀ i, i < n → inn (ba i) = true → ba' i = c ∧ us' i = true) (h0 : ∀ i, i < n → inn (ba i) = false → ba' i = ba i ∧ us' i = us i) : FI n nx M root ρ pa' ba' us' := by
  have f := s.fi
  obtain ⟨hcu, hcb⟩ := s.cc
  have hcn := f.ub c hcu
  have hinc : inn c = false := by
    cases hh : inn c with
    | false => rfl
    | true =>
      obtain ⟨e, he, h2⟩ := s.inu hin hcu hh
      have := (s.eall he).2.1
      rw [← h2] at this
      omega
  have hc' : ba' c = c ∧ us' c = true := by
    obtain ⟨h2, h3⟩ := h0 c hcn (by rw [hcb]; exact hinc)
    exact ⟨h2.trans hcb, h3.trans hcu⟩
  have hmono : ∀ x, us x = true → us' x = true := fun x hx => by
    cases hh : inn (ba x) with
    | true => exact (h1 x (f.ub x hx) hh).2
    | false => rw [(h0 x (f.ub x hx) hh).2]; exact hx
  have hnew : ∀ x, us' x = true → us x = false → ∃ e, (e ∈ Ev ∨ e ∈ Eu) ∧ x = M e ∧ ba e = e := fun x hx hu => by
    have hxn := hub x hx
    cases hh : inn (ba x) with
    | true =>
      rw [f.un x hxn hu] at hh
      exact s.inn hin hu hh
    | false => rw [(h0 x hxn hh).2] at hx; exact (tf hx hu).elim
  have hbE : ∀ e, (e ∈ Ev ∨ e ∈ Eu) → inn (ba e) = true := fun e he => (hin _).mpr ⟨e, he, Or.inl rfl⟩
  have hmE : ∀ e, (e ∈ Ev ∨ e ∈ Eu) → inn (ba (M e)) = true := fun e he => (hin _).mpr ⟨e, he, Or.inr rfl⟩
  have hEm : ∀ e, (e ∈ Ev ∨ e ∈ Eu) → M e < n ∧ M (M e) = e ∧ ba' (M e) = c ∧ us' (M e) = true := fun e he => by
    obtain ⟨h2, h3, h4, h5⟩ := s.eall he
    have h6 := f.mlt h2 h4
    exact ⟨h6, s.mt.back e (f.ub e h2) h6, h1 _ h6 (hmE e he)⟩
  have hEc : ∀ e, (e ∈ Ev ∨ e ∈ Eu) → ba' e = c ∧ us' e = true := fun e he => h1 e (f.ub e (s.eall he).1) (hbE e he)
  have hrv : ba' rv = c := by
    have hu := f.used s.tv s.uv rv (List.mem_append_right _ List.mem_cons_self)
    rw [(h0 rv (f.ub rv hu) (by rw [s.bv]; exact hinc)).1, s.bv]
  have hru : ba' ru = c := by
    have hu := f.used s.tu s.uu ru (List.mem_append_right _ List.mem_cons_self)
    rw [(h0 ru (f.ub ru hu) (by rw [s.bu]; exact hinc)).1, s.bu]
  have hv' : ba' v = c := by
    obtain ⟨t, ht⟩ := s.tv.head
    cases hE : Ev with
    | nil =>
      rw [hE, List.nil_append] at ht
      rw [← (List.cons.inj ht).1]; exact hrv
    | cons a E =>
      rw [hE, List.cons_append] at ht
      rw [← (List.cons.inj ht).1]
      exact (hEc a (Or.inl (by rw [hE]; exact List.mem_cons_self))).1
  have hu' : ba' u = c := by
    obtain ⟨t, ht⟩ := s.tu.head
    cases hE : Eu with
    | nil =>
      rw [hE, List.nil_append] at ht
      rw [← (List.cons.inj ht).1]; exact hru
    | cons a E =>
      rw [hE, List.cons_append] at ht
      rw [← (List.cons.inj ht).1]
      exact (hEc a (Or.inr (by rw [hE]; exact List.mem_cons_self))).1
  -- the parents of the turned stones
  have hturn : ∀ (E : List Nat) (w child x : Nat) (r : Nat) (R : List Nat), Tr M root pa w (E ++ r :: R) → (∀ e, e ∈ E → e ∈ Ev ∨ e ∈ Eu) → BR M pa' E child → us' child = true → ba' child = c → nx w child = true →
      ∀ e, e ∈ E → 0 ≤ pa' e ∧ us' (pa' e).toNat = true ∧ ba' (pa' e).toNat = c ∧ nx e (pa' e).toNat = true := by
    intro E
    induction E with
    | nil => exact fun w child x r R _ _ _ _ _ _ e he => absurd he (by simp)
    | cons a E ih =>
      intro w child x r R ht hE hb hcu hcb hx e he
      obtain ⟨rfl, h2⟩ := ht.inv rfl
      have haE := hE a List.mem_cons_self
      rcases List.mem_cons.mp he with rfl | he
      · rw [hb.1, Int.toNat_natCast]
        exact ⟨by omega, hcu, hcb, hx⟩
      · rcases h2 with ⟨h2, _⟩ | ⟨hne, ht2⟩
        · exact absurd h2 (by simp)
        obtain ⟨h3, h4, h5, h6⟩ := hEm a haE
        have hua := (s.eall haE).1
        obtain ⟨_, _, _, h7⟩ := f.adj (M a) h3 (f.up a hua hne).1
        exact ih _ (M a) x r R ht2 (fun e he => hE e (List.mem_cons_of_mem _ he)) hb.2 h6 h5 (by rw [s.gr.sym]; exact h7) e he
  have huu' := hmono u s.uu
  have hvv' := hmono v s.uv
  have hpar : ∀ e, (e ∈ Ev ∨ e ∈ Eu) → 0 ≤ pa' e ∧ us' (pa' e).toNat = true ∧ ba' (pa' e).toNat = c ∧ nx e (pa' e).toNat = true := fun e he => by
    rcases he with he | he
    · exact hturn Ev v u 0 rv Rv s.tv (fun e he => Or.inl he) s.brv huu' hu' s.ed e he
    · exact hturn Eu u v 0 ru Ru s.tu (fun e he => Or.inr he) s.bru hvv' hv' (by rw [s.gr.sym]; exact s.ed) e he
  have hnE : ∀ y, ¬ (y ∈ Ev ∨ y ∈ Eu) → pa' y = pa y := fun y h => s.out y (fun hh => h (Or.inl hh)) (fun hh => h (Or.inr hh))
  have hroot : inn (ba root) = false := by
    rw [f.rt.2]
    cases hh : inn root with
    | false => rfl
    | true =>
      obtain ⟨e, he, h2⟩ := s.inu hin f.rt.1 hh
      obtain ⟨_, _, _, h3⟩ := s.eall he
      rw [← h2] at h3
      exact absurd rfl ((s.eall h3).2.2.1)
  refine ⟨hub, ?_, fun y hyn hy => ?_, fun y hy => ?_, fun y hy hb => ?_, fun y hy hb hr => ?_, fun y hyn hp => ?_, fun y hy hr => ?_, fun y hy => ?_⟩
  · obtain ⟨h2, h3⟩ := h0 root (f.ub _ f.rt.1) hroot
    exact ⟨h3.trans f.rt.1, h2.trans f.rt.2⟩
  · cases hh : inn (ba y) with
    | true => exact (tf (h1 y hyn hh).2 hy).elim
    | false =>
      obtain ⟨h2, h3⟩ := h0 y hyn hh
      rw [h2]
      exact f.un y hyn (h3.symm.trans hy)
  · have hyn := hub y hy
    cases hh : inn (ba y) with
    | true =>
      rw [(h1 y hyn hh).1]
      exact ⟨hc'.2, hc'.1⟩
    | false =>
      obtain ⟨h2, h3⟩ := h0 y hyn hh
      have hu : us y = true := h3.symm.trans hy
      obtain ⟨h4, h5⟩ := f.bu y hu
      rw [h2]
      obtain ⟨h6, h7⟩ := h0 (ba y) (f.ub _ h4) (by rw [h5]; exact hh)
      exact ⟨h7.trans h4, h6.trans h5⟩
  · have hyn := hub y hy
    cases hh : inn (ba y) with
    | true =>
      rw [(h1 y hyn hh).1]
      cases hu : us y with
      | true =>
        by_cases hby : ba y = y
        · obtain ⟨e, he, h2⟩ := s.inu hin (f.bu y hu).1 hh
          obtain ⟨_, _, _, h3⟩ := s.eall he
          rw [← h2, hby] at h3
          obtain ⟨h4, h5, h6, h7⟩ := hEm y h3
          exact ⟨h4, h7, h6⟩
        · obtain ⟨h2, h3, h4⟩ := f.nb y hu hby
          exact ⟨h2, hmono _ h3, (h1 _ h2 (by rw [h4]; exact hh)).1⟩
      | false =>
        obtain ⟨e, he, rfl, h2⟩ := hnew y hy hu
        obtain ⟨h4, h5, h6, h7⟩ := hEm e he
        rw [h5]
        exact ⟨f.ub e (s.eall he).1, (hEc e he).2, (hEc e he).1⟩
    | false =>
      obtain ⟨h2, h3⟩ := h0 y hyn hh
      have hu : us y = true := h3.symm.trans hy
      rw [h2] at hb ⊢
      obtain ⟨h4, h5, h6⟩ := f.nb y hu hb
      refine ⟨h4, hmono _ h5, ?_⟩
      rw [(h0 _ h4 (by rw [h6]; exact hh)).1, h6]
  · have hyn := hub y hy
    cases hh : inn (ba y) with
    | true =>
      rw [(h1 y hyn hh).1] at hb
      rw [← hb, hcb, hinc] at hh
      exact absurd hh (by decide)
    | false =>
      obtain ⟨h2, h3⟩ := h0 y hyn hh
      have hu : us y = true := h3.symm.trans hy
      rw [h2] at hb
      obtain ⟨h4, h5⟩ := f.bm y hu hb hr
      refine ⟨h4, ?_⟩
      cases hm : us' (M y) with
      | false => rfl
      | true =>
        obtain ⟨e, he, h6, h7⟩ := hnew _ hm h5
        have h8 := s.mt.inj hyn (f.ub e (s.eall he).1) h4 h6
        rw [h8, hbE e he] at hh
        exact absurd hh (by decide)
  · by_cases hE : y ∈ Ev ∨ y ∈ Eu
    · obtain ⟨h2, h3, h4, h5⟩ := hpar y hE
      obtain ⟨h6, h7, h8, h9⟩ := hEm y hE
      exact ⟨h6, h9, h3, h5⟩
    · rw [hnE y hE] at hp ⊢
      obtain ⟨h2, h3, h4, h5⟩ := f.adj y hyn hp
      exact ⟨h2, hmono _ h3, hmono _ h4, h5⟩
  · have hyn := hub y hy
    by_cases hE : M y ∈ Ev ∨ M y ∈ Eu
    · obtain ⟨h2, h3, h4, h5⟩ := hpar _ hE
      have hMn := f.ub _ (s.eall hE).1
      have hback := s.mt.back y hyn hMn
      have hin2 : inn (ba y) = true := by have := hmE _ hE; rw [hback] at this; exact this
      obtain ⟨h6, h7⟩ := h1 y hyn hin2
      rw [h6, h4]
      refine ⟨h2, fun _ => rfl, fun hyc => ?_⟩
      rw [← hyc, hcb, hinc] at hin2
      exact absurd hin2 (by decide)
    · rw [hnE _ hE]
      have hu : us y = true := by
        cases hu : us y with
        | true => rfl
        | false =>
          obtain ⟨e, he, h2, h3⟩ := hnew y hy hu
          refine absurd ?_ hE
          rw [h2, (hEm e he).2.1]
          exact he
      obtain ⟨h2, h3, h4⟩ := f.up y hu hr
      have hnu := f.next hu hr
      have hnn := f.ub _ hnu
      refine ⟨h2, fun hb => ?_, fun hb => ?_⟩
      · cases hh : inn (ba y) with
        | true =>
          rw [(h1 y hyn hh).1]
          by_cases hby : ba y = y
          · obtain ⟨e, he, h5⟩ := s.inu hin (f.bu y hu).1 hh
            obtain ⟨_, _, _, h6⟩ := s.eall he
            rw [← h5, hby] at h6
            -- y is on one of the ways: what follows is, too
            have key : ∀ (E : List Nat) (w r : Nat) (R : List Nat), Tr M root pa w (E ++ r :: R) → ba' r = c → (∀ e, e ∈ E → ba' e = c) → y ∈ E → ba' (pa (M y)).toNat = c := by
              intro E w r R ht hr hEc hy
              obtain ⟨E1, E2, h7⟩ := List.append_of_mem hy
              have ht2 := ht
              rw [h7, List.append_assoc, List.cons_append] at ht2
              obtain ⟨_, h8⟩ := ht2.tail.1.inv rfl
              rcases h8 with ⟨h8, _⟩ | ⟨_, h8⟩
              · exact absurd h8 (by simp)
              obtain ⟨t, h9⟩ := h8.head
              cases E2 with
              | nil => rw [← (List.cons.inj h9).1]; exact hr
              | cons b E2 =>
                rw [← (List.cons.inj h9).1]
                exact hEc b (by rw [h7]; exact List.mem_append_right _ (List.mem_cons_of_mem _ List.mem_cons_self))
            rcases h6 with h6 | h6
            · exact key Ev v rv Rv s.tv hrv (fun e he => (hEc e (Or.inl he)).1) h6
            · exact key Eu u ru Ru s.tu hru (fun e he => (hEc e (Or.inr he)).1) h6
          · exact (h1 _ hnn (by rw [h3 hby]; exact hh)).1
        | false =>
          have h5 := (h0 y hyn hh).1
          rw [h5] at hb ⊢
          have h6 := h3 hb
          rw [(h0 _ hnn (by rw [h6]; exact hh)).1, h6]
      · cases hh : inn (ba y) with
        | true =>
          rw [(h1 y hyn hh).1] at hb
          rw [← hb, hcb, hinc] at hh
          exact absurd hh (by decide)
        | false =>
          have h5 := (h0 y hyn hh).1
          rw [h5] at hb
          have h6 := h4 hb
          cases hh2 : inn (ba (pa (M y)).toNat) with
          | true =>
            rw [(h1 _ hnn hh2).1]
            obtain ⟨e, he, h7⟩ := s.inu hin (f.bu _ hnu).1 hh2
            have h8 := (s.eall he).2.1
            rw [h7] at h6
            omega
          | false =>
            rw [(h0 _ hnn hh2).1]
            exact h6
  · cases hu : us y with
    | true => exact s.old hu
    | false =>
      obtain ⟨e, he, h2, h3⟩ := hnew y hy hu
      have hyn := hub y hy
      have h4 : M y = e := by rw [h2]; exact (hEm e he).2.1
      rcases he with he | he
      · exact s.new hyn hu (h4 ▸ he)
      · exact s.symm.new hyn hu (h4 ▸ he)
end
end Go.Proofs.Ythhgdndjnflklaa

/- shrink's answer. No conditions. -/
namespace Go.Proofs.Ythhgdndjnflklaa
set_option linter.unusedVariables false
set_option linter.unusedSimpArgs false
/-- What shrink's loop leaves from i on. -/
structure ShP (n b : Nat) (inn : Nat → Bool) (i : Nat) (S S' : FS) : Prop where
  pa : S'.pa = S.pa
  old : ∀ j, (j < i ∨ n ≤ j) → S'.ba j = S.ba j ∧ S'.us j = S.us j
  yes : ∀ j, i ≤ j → j < n → inn (S.ba j) = true → S'.ba j = b ∧ S'.us j = true
  no : ∀ j, i ≤ j → j < n → inn (S.ba j) = false → S'.ba j = S.ba j ∧ S'.us j = S.us j
  q : ∃ a, S'.q = S.q ++ a ∧ ∀ x, x ∈ a → x < n ∧ S'.us x = true
  qn : ∀ j, S.us j = false → S'.us j = true → j ∈ S'.q
  num : S'.q.length + cnt S.us n = S.q.length + cnt S'.us n
theorem cnt_upd_ {n s : Nat} {g : Nat → Bool} (hs : s < n) (hg : g s = false) : cnt (upd g s true) n = cnt g n + 1 := by
  rw [cnt_out (p := upd g s true) (a := s) hs upd_is_]
  congr 1
  refine cnt_congr (fun i hi => ?_)
  by_cases h : i = s
  · subst h; simp [hg]
  · simp [upd, h, beq_eq_false_iff_ne.mpr h]
theorem shLoop_ok {n b : Nat} (hn : n ≤ 60) (hb : b < n) (inn : Nat → Bool) : ∀ (d i : Nat) (S : FS), i + d = n → (∀ j, j < n → S.ba j < n) → S.q.length + d < 100000 → ∃ S', shLoop n b inn d i S = some S' ∧ ShP n b inn i S S'
  | 0, i, S, hd, hba, hq => ⟨S, rfl, rfl, fun j _ => ⟨rfl, rfl⟩, fun j h1 h2 => absurd h2 (by omega), fun j h1 h2 => absurd h2 (by omega), ⟨[], by rw [List.append_nil], fun x hx => absurd hx (by simp)⟩, fun j h1 h2 => (tf h2 h1).elim, rfl⟩
  | d + 1, i, S, hd, hba, hq => by
    have hi : i < n := by omega
    simp only [shLoop]
    rw [if_pos (hba i hi)]
    have hba2 : ∀ j, j < n → upd S.ba i b j < n := fun j hj => by
      by_cases h : j = i
      · rw [h, upd_is_]; exact hb
      · rw [upd_no_ h]; exact hba j hj
    cases hin : inn (S.ba i) with
    | true =>
      rw [if_pos rfl]
      cases hu : S.us i with
      | true =>
        rw [if_pos rfl]
        obtain ⟨S', e, P⟩ := shLoop_ok hn hb inn d (i + 1) { S with ba := upd S.ba i b } (by omega) hba2 (by show S.q.length + d < 100000; omega)
        refine ⟨S', e, P.pa, fun j hj => ?_, fun j h1 h2 h3 => ?_, fun j h1 h2 h3 => ?_, P.q, P.qn, P.num⟩
        · obtain ⟨h4, h5⟩ := P.old j (by omega)
          exact ⟨h4.trans (upd_no_ (by omega)), h5⟩
        · by_cases h : j = i
          · subst h
            obtain ⟨h4, h5⟩ := P.old j (by omega)
            exact ⟨h4.trans upd_is_, h5.trans hu⟩
          · exact P.yes j (by omega) h2 (by show inn (upd S.ba i b j) = true; rw [upd_no_ h]; exact h3)
        · have h : j ≠ i := fun h => by rw [h, hin] at h3; exact absurd h3 (by decide)
          obtain ⟨h4, h5⟩ := P.no j (by omega) h2 (by show inn (upd S.ba i b j) = false; rw [upd_no_ h]; exact h3)
          exact ⟨h4.trans (upd_no_ h), h5⟩
      | false =>
        rw [if_neg (by decide), if_pos (by omega)]
        obtain ⟨S', e, P⟩ := shLoop_ok hn hb inn d (i + 1) { S with ba := upd S.ba i b, us := upd S.us i true, q := S.q ++ [i] } (by omega) hba2 (by show (S.q ++ [i]).length + d < 100000; rw [List.length_append, List.length_singleton]; omega)
        have hPn : S'.q.length + cnt (upd S.us i true) n = (S.q ++ [i]).length + cnt S'.us n := P.num
        rw [cnt_upd_ hi hu, List.length_append, List.length_singleton] at hPn
        have hui : S'.us i = true := ((P.old i (by omega)).2).trans upd_is_
        refine ⟨S', e, P.pa, fun j hj => ?_, fun j h1 h2 h3 => ?_, fun j h1 h2 h3 => ?_, ?_, fun j h1 h2 => ?_, by omega⟩
        · obtain ⟨h4, h5⟩ := P.old j (by omega)
          exact ⟨h4.trans (upd_no_ (by omega)), h5.trans (upd_no_ (by omega))⟩
        · by_cases h : j = i
          · subst h
            exact ⟨((P.old j (by omega)).1).trans upd_is_, hui⟩
          · exact P.yes j (by omega) h2 (by show inn (upd S.ba i b j) = true; rw [upd_no_ h]; exact h3)
        · have h : j ≠ i := fun h => by rw [h, hin] at h3; exact absurd h3 (by decide)
          obtain ⟨h4, h5⟩ := P.no j (by omega) h2 (by show inn (upd S.ba i b j) = false; rw [upd_no_ h]; exact h3)
          exact ⟨h4.trans (upd_no_ h), h5.trans (upd_no_ h)⟩
        · obtain ⟨a, h1, h2⟩ := P.q
          refine ⟨i :: a, by rw [h1, List.append_assoc]; rfl, fun x hx => ?_⟩
          rcases List.mem_cons.mp hx with rfl | hx
          · exact ⟨hi, hui⟩
          · exact h2 x hx
        · by_cases h : j = i
          · subst h
            obtain ⟨a, h3, _⟩ := P.q
            rw [h3]
            exact List.mem_append_left _ (List.mem_append_right _ (List.mem_singleton.mpr rfl))
          · exact P.qn j (by show upd S.us i true j = false; rw [upd_no_ h]; exact h1) h2
    | false =>
      rw [if_neg (by decide)]
      obtain ⟨S', e, P⟩ := shLoop_ok hn hb inn d (i + 1) S (by omega) hba (by omega)
      refine ⟨S', e, P.pa, fun j hj => P.old j (by omega), fun j h1 h2 h3 => ?_, fun j h1 h2 h3 => ?_, P.q, P.qn, P.num⟩
      · have h : j ≠ i := fun h => by rw [h, hin] at h3; exact absurd h3 (by decide)
        exact P.yes j (by omega) h2 h3
      · by_cases h : j = i
        · subst h
          exact P.old j (by omega)
        · exact P.no j (by omega) h2 h3

section
variable {n : Nat} {nx : Nat → Nat → Bool} {M : Nat → Nat} {root : Nat} {ρ : Nat → Nat}
/-- What a shrinking leaves. -/
structure ShR (n : Nat) (nx : Nat → Nat → Bool) (M : Nat → Nat) (root : Nat) (ρ : Nat → Nat) (S S' : FS) (v u : Nat) : Prop where
  fi : FI n nx M root ρ S'.pa S'.ba S'.us
  mono : ∀ x, S.us x = true → S'.us x = true
  same : ∀ x y, S.us x = true → S.us y = true → S.ba x = S.ba y → S'.ba x = S'.ba y
  one : S'.ba v = S'.ba u
  par : ∀ y, S.us y = false → S'.pa y = S.pa y
  q : ∃ a, S'.q = S.q ++ a ∧ ∀ x, x ∈ a → S'.us x = true
  qn : ∀ j, S.us j = false → S'.us j = true → j ∈ S'.q
  num : S'.q.length + cnt S.us n = S.q.length + cnt S'.us n
theorem shrink_ok (hn : n ≤ 60) (hG : Gr n nx) (hM : Mat n nx M) (hroot : M root = n) {S : FS} (f : FI n nx M root ρ S.pa S.ba S.us) {k v u : Nat} (hk : 60 < k) (hv : S.us v = true) (hu : S.us u = true) (hx : nx v u = true) (hq : S.q.length ≤ 60) :
    ∃ S', shrinkS n M k S v u = some S' ∧ ShR n nx M root ρ S S' v u := by
  obtain ⟨lv, tv, xv⟩ := f.tr v hv
  obtain ⟨lu, tu, xu⟩ := f.tr u hu
  obtain ⟨c, e1, hcv, hcu, dis⟩ := comS_ok hroot f (k := k) (by omega) tv hv tu hu
  obtain ⟨Ev, rv, Rv, rfl, nv, bv⟩ := split_at S.ba c lv hcv
  obtain ⟨Eu, ru, Ru, rfl, nu, bu⟩ := split_at S.ba c lu hcu
  have lenv := f.len tv hv
  have lenu := f.len tu hu
  rw [List.length_append, List.length_cons] at lenv lenu
  have usv := f.used tv hv
  have usu := f.used tu hu
  -- what lies on the first way ahead of the meeting is not on the second
  have gtv : ∀ e, e ∈ Ev → ρ c < ρ (S.ba e) := fun e he => by
    obtain ⟨E1, E2, h1⟩ := List.append_of_mem he
    have ht := tv
    rw [h1, List.append_assoc, List.cons_append] at ht
    rcases f.mono ht.tail.1 (usv e (List.mem_append_left _ he)) rv (List.mem_cons_of_mem _ (List.mem_append_right _ List.mem_cons_self)) with h2 | h2
    · rw [bv] at h2
      exact absurd h2.symm (nv e he)
    · rw [bv] at h2
      exact h2
  have apart : ∀ e, e ∈ Ev → e ∉ Eu ++ ru :: Ru := fun e he h => by
    have h1 := dis e e (List.mem_append_left _ he) h rfl
    have h2 := gtv e he
    omega
  have far : ∀ e, e ∈ Eu ++ ru :: Ru → e ≠ root → M e ∉ Ev := fun e he hr h => by
    have h1 := f.both (usu e he) hr (usv _ (List.mem_append_left _ h))
    have h2 := dis (M e) e (List.mem_append_left _ h) he h1
    have h3 := gtv _ h
    omega
  have ndv := tv.nodup
  have ndu := tu.nodup
  have m1 := mark_ok f Ev rv Rv k v u S.pa (fun _ => false) (by omega) tv hv nv bv (fun _ _ => rfl) (fun e e' he he' h => xv e (List.mem_append_left _ he) (tv.tail.2 e he) (h ▸ List.mem_append_left _ he'))
  have m2 := mark_ok f Eu ru Ru k u v (wr M Ev u S.pa) (inU M S.ba Ev (fun _ => false)) (by omega) tu hu nu bu (fun e he => wr_out _ _ _ _ (far e (List.mem_append_left _ he) (tu.tail.2 e he))) (fun e e' he he' h => xu e (List.mem_append_left _ he) (tu.tail.2 e he) (h ▸ List.mem_append_left _ he'))
  have s : Sh n nx M root ρ S.pa S.ba S.us c v u Ev rv Rv Eu ru Ru (wr M Eu v (wr M Ev u S.pa)) :=
    ⟨hG, hM, hroot, f, tv, tu, xv, xu, hv, hu, nv, nu, bv, bu, dis, (wr_br Ev u S.pa (List.nodup_append.mp ndv).1).congr (fun e he => wr_out _ _ _ _ (fun h => apart e he (List.mem_append_left _ h))), wr_br Eu v _ (List.nodup_append.mp ndu).1,
      fun y h1 h2 => (wr_out _ _ _ _ h2).trans (wr_out _ _ _ _ h1), hx⟩
  obtain ⟨hcu2, hcb2⟩ := s.cc
  have hban : ∀ j, j < n → S.ba j < n := fun j hj => by
    cases h : S.us j with
    | true => exact f.ub _ (f.bu j h).1
    | false => rw [f.un j hj h]; exact hj
  obtain ⟨S', e2, P⟩ := shLoop_ok hn (f.ub c hcu2) (inU M S.ba Eu (inU M S.ba Ev (fun _ => false))) n 0 { S with pa := wr M Eu v (wr M Ev u S.pa) } (by omega) hban (by show S.q.length + n < 100000; omega)
  have hin : ∀ x, inU M S.ba Eu (inU M S.ba Ev (fun _ => false)) x = true ↔ ∃ e, (e ∈ Ev ∨ e ∈ Eu) ∧ (x = S.ba e ∨ x = S.ba (M e)) := fun x => by
    rw [inU_iff, inU_iff]
    constructor
    · rintro ((h | ⟨e, h1, h2⟩) | ⟨e, h1, h2⟩)
      · exact absurd h (by decide)
      · exact ⟨e, Or.inl h1, h2⟩
      · exact ⟨e, Or.inr h1, h2⟩
    · rintro ⟨e, h1 | h1, h2⟩
      · exact Or.inl (Or.inr ⟨e, h1, h2⟩)
      · exact Or.inr ⟨e, h1, h2⟩
  have hub : ∀ i, S'.us i = true → i < n := fun i hi => by
    rcases Nat.lt_or_ge i n with h | h
    · exact h
    · rw [(P.old i (by omega)).2] at hi
      exact f.ub i hi
  have h1 : ∀ i, i < n → inU M S.ba Eu (inU M S.ba Ev (fun _ => false)) (S.ba i) = true → S'.ba i = c ∧ S'.us i = true := fun i hi h => P.yes i (by omega) hi h
  have h0 : ∀ i, i < n → inU M S.ba Eu (inU M S.ba Ev (fun _ => false)) (S.ba i) = false → S'.ba i = S.ba i ∧ S'.us i = S.us i := fun i hi h => P.no i (by omega) hi h
  have f' := s.fi' hin hub h1 h0
  refine ⟨S', ?_, ⟨by rw [P.pa]; exact f', fun x hx => ?_, fun x y hx hy hb => ?_, ?_, fun y hy => ?_, ?_, P.qn, P.num⟩⟩
  · unfold shrinkS
    rw [e1, Option.bind_some, m1, Option.bind_some]
    simp only
    rw [m2, Option.bind_some]
    exact e2
  · cases hh : inU M S.ba Eu (inU M S.ba Ev (fun _ => false)) (S.ba x) with
    | true => exact (h1 x (f.ub x hx) hh).2
    | false => rw [(h0 x (f.ub x hx) hh).2]; exact hx
  · cases hh : inU M S.ba Eu (inU M S.ba Ev (fun _ => false)) (S.ba x) with
    | true => rw [(h1 x (f.ub x hx) hh).1, (h1 y (f.ub y hy) (hb ▸ hh)).1]
    | false => rw [(h0 x (f.ub x hx) hh).1, (h0 y (f.ub y hy) (hb ▸ hh)).1, hb]
  · have hinc : ∀ x, S.us x = true → S.ba x = c → S'.ba x = c := fun x hx hb => by
      cases hh : inU M S.ba Eu (inU M S.ba Ev (fun _ => false)) (S.ba x) with
      | true => exact (h1 x (f.ub x hx) hh).1
      | false => rw [(h0 x (f.ub x hx) hh).1, hb]
    have hE : ∀ e, (e ∈ Ev ∨ e ∈ Eu) → S'.ba e = c := fun e he => (h1 e (f.ub e (s.eall he).1) ((hin _).mpr ⟨e, he, Or.inl rfl⟩)).1
    have hv' : S'.ba v = c := by
      obtain ⟨t, ht⟩ := tv.head
      cases hE2 : Ev with
      | nil =>
        rw [hE2, List.nil_append] at ht
        have := (List.cons.inj ht).1
        exact hinc v hv (this ▸ bv)
      | cons a E =>
        rw [hE2, List.cons_append] at ht
        rw [← (List.cons.inj ht).1]
        exact hE a (Or.inl (by rw [hE2]; exact List.mem_cons_self))
    have hu' : S'.ba u = c := by
      obtain ⟨t, ht⟩ := tu.head
      cases hE2 : Eu with
      | nil =>
        rw [hE2, List.nil_append] at ht
        have := (List.cons.inj ht).1
        exact hinc u hu (this ▸ bu)
      | cons a E =>
        rw [hE2, List.cons_append] at ht
        rw [← (List.cons.inj ht).1]
        exact hE a (Or.inr (by rw [hE2]; exact List.mem_cons_self))
    rw [hv', hu']
  · rw [P.pa]
    exact s.out y (fun h => tf (s.used h) hy) (fun h => tf (s.symm.used h) hy)
  · obtain ⟨a, h3, h4⟩ := P.q
    exact ⟨a, h3, fun x hx => (h4 x hx).2⟩
end
end Go.Proofs.Ythhgdndjnflklaa

/- search's answer: it always comes; a way that can be turned, or a closed forest. No conditions. -/
namespace Go.Proofs.Ythhgdndjnflklaa
set_option linter.unusedVariables false
set_option linter.unusedSimpArgs false
/-- An even stone's neighbour that is dealt with. -/
def Good (S : FS) (v i : Nat) : Prop := S.ba v = S.ba i ∨ (S.us i = false ∧ 0 ≤ S.pa i)
def Sc (n : Nat) (nx : Nat → Nat → Bool) (P : Nat → Nat → Prop) (S : FS) : Prop := ∀ v i, S.us v = true → i < n → nx v i = true → Good S v i ∨ P v i ∨ (S.us i = true ∧ P i v)
def Pd (S : FS) (w t : Nat) (v i : Nat) : Prop := v ∈ S.q ∨ (v = w ∧ t ≤ i)
def mu (n : Nat) (S : FS) : Nat := S.q.length + (n - cnt S.us n)
/-- A way that can be turned. -/
def Way (n : Nat) (nx : Nat → Nat → Bool) (M : Nat → Nat) (root : Nat) (S' : FS) (e : Nat) : Prop :=
  e < n ∧ M e = n ∧ e ≠ root ∧ ∃ (ρ : Nat → Nat) (S0 : FS) (w : Nat), FI n nx M root ρ S0.pa S0.ba S0.us ∧ S0.us w = true ∧ S0.us e = false ∧ nx w e = true ∧ S'.pa = upd S0.pa e (w : Int)
/-- A stage of the search. -/
structure St (n : Nat) (nx : Nat → Nat → Bool) (M : Nat → Nat) (root : Nat) (m : Nat) (S : FS) : Prop where
  fi : ∃ ρ, FI n nx M root ρ S.pa S.ba S.us
  qu : ∀ x, x ∈ S.q → S.us x = true
  mu : mu n S ≤ m
theorem scan_ok {n : Nat} {nx : Nat → Nat → Bool} {M : Nat → Nat} {root : Nat} (hn : n ≤ 60) (hG : Gr n nx) (hM : Mat n nx M) (hroot : M root = n) {k : Nat} (hk : 60 < k) {w m : Nat} (hm : m ≤ 60) :
    ∀ (d t : Nat) (S : FS), t + d = n → St n nx M root m S → S.us w = true → Sc n nx (Pd S w t) S →
      ∃ S' r, scanS n M nx k root w d t S = some (S', r) ∧ ((r = none ∧ St n nx M root m S' ∧ Sc n nx (fun v _ => v ∈ S'.q) S') ∨ ∃ e, r = some e ∧ Way n nx M root S' e)
  | 0, t, S, hd, hS, hw, hsc => by
    refine ⟨S, none, rfl, Or.inl ⟨rfl, hS, fun v i hv hi hx => ?_⟩⟩
    have hvn : v < n := by obtain ⟨ρ, f⟩ := hS.fi; exact f.ub v hv
    rcases hsc v i hv hi hx with h | h | ⟨h1, h2⟩
    · exact Or.inl h
    · rcases h with h | ⟨_, h⟩
      · exact Or.inr (Or.inl h)
      · omega
    · rcases h2 with h | ⟨_, h⟩
      · exact Or.inr (Or.inr ⟨h1, h⟩)
      · omega
  | d + 1, t, S, hd, hS, hw, hsc => by
    obtain ⟨ρ, f⟩ := hS.fi
    have htn : t < n := by omega
    have hwn := f.ub w hw
    -- the pair (w, t) is dealt with
    have adv : (nx w t = true → Good S w t ∧ (S.us t = true → Good S t w)) → Sc n nx (Pd S w (t + 1)) S := by
      intro hg v i hv hi hx
      by_cases h1 : v = w ∧ i = t
      · obtain ⟨rfl, rfl⟩ := h1
        exact Or.inl (hg hx).1
      by_cases h2 : v = t ∧ i = w
      · obtain ⟨rfl, rfl⟩ := h2
        exact Or.inl ((hg (by rw [hG.sym]; exact hx)).2 hv)
      rcases hsc v i hv hi hx with h | h | ⟨h3, h⟩
      · exact Or.inl h
      · rcases h with h | ⟨h4, h5⟩
        · exact Or.inr (Or.inl (Or.inl h))
        · refine Or.inr (Or.inl (Or.inr ⟨h4, ?_⟩))
          have : i ≠ t := fun h => h1 ⟨h4, h⟩
          omega
      · rcases h with h | ⟨h4, h5⟩
        · exact Or.inr (Or.inr ⟨h3, Or.inl h⟩)
        · refine Or.inr (Or.inr ⟨h3, Or.inr ⟨h4, ?_⟩⟩)
          have : v ≠ t := fun h => h2 ⟨h, h4⟩
          omega
    have go : ∀ S1, St n nx M root m S1 → S1.us w = true → Sc n nx (Pd S1 w (t + 1)) S1 → ∃ S' r, scanS n M nx k root w d (t + 1) S1 = some (S', r) ∧ ((r = none ∧ St n nx M root m S' ∧ Sc n nx (fun v _ => v ∈ S'.q) S') ∨ ∃ e, r = some e ∧ Way n nx M root S' e) :=
      fun S1 h1 h2 h3 => scan_ok hn hG hM hroot hk hm d (t + 1) S1 (by omega) h1 h2 h3
    have hql : S.q.length ≤ 60 := by have := hS.mu; unfold Ythhgdndjnflklaa.mu at this; omega
    have shr : S.us t = true → nx w t = true → ∃ S' r, ((shrinkS n M k S w t).bind fun S' => scanS n M nx k root w d (t + 1) S') = some (S', r) ∧ ((r = none ∧ St n nx M root m S' ∧ Sc n nx (fun v _ => v ∈ S'.q) S') ∨ ∃ e, r = some e ∧ Way n nx M root S' e) := by
      intro hut hx
      obtain ⟨S1, e1, R⟩ := shrink_ok hn hG hM hroot f hk hw hut hx hql
      rw [e1, Option.bind_some]
      refine go S1 ⟨⟨ρ, R.fi⟩, fun x hxq => ?_, ?_⟩ (R.mono w hw) (fun v i hv hi hx => ?_)
      · obtain ⟨a, h1, h2⟩ := R.q
        rw [h1] at hxq
        rcases List.mem_append.mp hxq with h | h
        · exact R.mono x (hS.qu x h)
        · exact h2 x h
      · have h1 := hS.mu
        have h2 := R.num
        have h3 := cnt_le S1.us n
        have h4 := cnt_le S.us n
        unfold Ythhgdndjnflklaa.mu at h1 ⊢
        omega
      · have hq1 : ∀ x, x ∈ S.q → x ∈ S1.q := fun x hx => by
          obtain ⟨a, h1, _⟩ := R.q
          rw [h1]
          exact List.mem_append_left _ hx
        cases hvo : S.us v with
        | false => exact Or.inr (Or.inl (Or.inl (R.qn v hvo hv)))
        | true =>
          by_cases h1 : v = w ∧ i = t
          · obtain ⟨rfl, rfl⟩ := h1
            exact Or.inl (Or.inl R.one)
          by_cases h2 : v = t ∧ i = w
          · obtain ⟨rfl, rfl⟩ := h2
            exact Or.inl (Or.inl R.one.symm)
          rcases hsc v i hvo hi hx with h | h | ⟨h3, h⟩
          · rcases h with h | ⟨h4, h5⟩
            · cases hio : S.us i with
              | true => exact Or.inl (Or.inl (R.same v i hvo hio h))
              | false =>
                rw [f.un i hi hio] at h
                exact (tf (f.bu v hvo).1 (h ▸ hio)).elim
            · cases hi1 : S1.us i with
              | true => exact Or.inr (Or.inr ⟨rfl, Or.inl (R.qn i h4 hi1)⟩)
              | false => exact Or.inl (Or.inr ⟨hi1, by rw [R.par i h4]; exact h5⟩)
          · rcases h with h | ⟨h4, h5⟩
            · exact Or.inr (Or.inl (Or.inl (hq1 v h)))
            · refine Or.inr (Or.inl (Or.inr ⟨h4, ?_⟩))
              have : i ≠ t := fun h => h1 ⟨h4, h⟩
              omega
          · rcases h with h | ⟨h4, h5⟩
            · exact Or.inr (Or.inr ⟨R.mono i h3, Or.inl (hq1 i h)⟩)
            · refine Or.inr (Or.inr ⟨R.mono i h3, Or.inr ⟨h4, ?_⟩⟩)
              have : v ≠ t := fun h => h2 ⟨h, h4⟩
              omega
    simp only [scanS]
    cases hx : nx w t with
    | false =>
      rw [if_pos rfl]
      exact go S hS hw (adv (fun h => absurd h (by rw [hx]; decide)))
    | true =>
      rw [if_neg (by decide)]
      by_cases hb : S.ba w = S.ba t
      · rw [if_pos hb]
        exact go S hS hw (adv (fun _ => ⟨Or.inl hb, fun _ => Or.inl hb.symm⟩))
      rw [if_neg hb]
      by_cases hmw : M w = t
      · rw [if_pos hmw]
        have hwr : w ≠ root := fun h => by rw [h, hroot] at hmw; omega
        refine go S hS hw (adv (fun _ => ?_))
        cases hut : S.us t with
        | true => exact absurd (by rw [← hmw]; exact (f.both hw hwr (by rw [hmw]; exact hut)).symm) hb
        | false =>
          have := (f.up w hw hwr).1
          rw [hmw] at this
          exact ⟨Or.inr ⟨hut, this⟩, fun h => absurd h (by decide)⟩
      rw [if_neg hmw]
      by_cases htr : t = root
      · rw [if_pos htr]
        exact shr (by rw [htr]; exact f.rt.1) hx
      rw [if_neg htr]
      by_cases hev : M t ≠ n ∧ 0 ≤ S.pa (M t)
      · rw [if_pos hev]
        have hMt : M t < n := by have := hM.le t htn; omega
        have h1 := (f.adj (M t) hMt hev.2).2.1
        rw [hM.back t htn hMt] at h1
        exact shr h1 hx
      rw [if_neg hev]
      by_cases hpt : S.pa t < 0
      · rw [if_pos hpt]
        by_cases hmt : M t = n
        · rw [if_pos hmt]
          refine ⟨_, _, rfl, Or.inr ⟨t, rfl, htn, hmt, htr, ρ, S, w, f, hw, ?_, hx, rfl⟩⟩
          cases hut : S.us t with
          | false => rfl
          | true => have := f.mlt hut htr; omega
        · rw [if_neg hmt, if_pos (by omega)]
          obtain ⟨h1, h2, h3, h4⟩ := f.grow hG hM hroot hw htn hx htr hev hpt hmt
          have hwz : w ≠ M t := fun e => tf (e ▸ hw) h2
          refine go { S with pa := upd S.pa t (w : Int), us := upd S.us (M t) true, q := S.q ++ [M t] } ⟨⟨_, h4⟩, fun x hxq => ?_, ?_⟩ (by show upd S.us (M t) true w = true; rw [upd_no_ hwz]; exact hw) (fun v i hv hi hxv => ?_)
          · show upd S.us (M t) true x = true
            rcases List.mem_append.mp hxq with h | h
            · have hxz : x ≠ M t := fun e => tf (e ▸ hS.qu x h) h2
              rw [upd_no_ hxz]
              exact hS.qu x h
            · rw [List.mem_singleton.mp h, upd_is_]
          · have h5 := hS.mu
            have h6 := cnt_le (upd S.us (M t) true) n
            unfold Ythhgdndjnflklaa.mu at h5 ⊢
            show (S.q ++ [M t]).length + (n - cnt (upd S.us (M t) true) n) ≤ m
            rw [cnt_upd_ h3 h2] at h6 ⊢
            rw [List.length_append, List.length_singleton]
            omega
          · have hmem : ∀ x, x ∈ S.q → x ∈ S.q ++ [M t] := fun x hx => List.mem_append_left _ hx
            have hz : M t ∈ S.q ++ [M t] := List.mem_append_right _ (List.mem_singleton.mpr rfl)
            have hv1 : upd S.us (M t) true v = true := hv
            by_cases hvz : v = M t
            · rw [hvz]; exact Or.inr (Or.inl (Or.inl hz))
            by_cases hiz : i = M t
            · rw [hiz]; exact Or.inr (Or.inr ⟨upd_is_, Or.inl hz⟩)
            rw [upd_no_ hvz] at hv1
            have hus : ∀ b, S.us i = b → upd S.us (M t) true i = b := fun b h => by rw [upd_no_ hiz]; exact h
            by_cases h6 : i = t
            · subst h6
              refine Or.inl (Or.inr ⟨hus _ h1, ?_⟩)
              show 0 ≤ upd S.pa i (w : Int) i
              rw [upd_is_]
              omega
            have hvt : v ≠ t := fun e => tf (e ▸ hv1) h1
            rcases hsc v i hv1 hi hxv with h | h | ⟨h7, h⟩
            · rcases h with h | ⟨h8, h9⟩
              · exact Or.inl (Or.inl h)
              · refine Or.inl (Or.inr ⟨hus _ h8, ?_⟩)
                show 0 ≤ upd S.pa t (w : Int) i
                rw [upd_no_ h6]
                exact h9
            · rcases h with h | ⟨h8, h9⟩
              · exact Or.inr (Or.inl (Or.inl (hmem v h)))
              · exact Or.inr (Or.inl (Or.inr ⟨h8, by omega⟩))
            · rcases h with h | ⟨h8, h9⟩
              · exact Or.inr (Or.inr ⟨hus _ h7, Or.inl (hmem i h)⟩)
              · exact Or.inr (Or.inr ⟨hus _ h7, Or.inr ⟨h8, by omega⟩⟩)
      · rw [if_neg hpt]
        refine go S hS hw (adv (fun _ => ?_))
        have hut : S.us t = false := by
          cases hut : S.us t with
          | false => rfl
          | true =>
            have h1 := f.mlt hut htr
            exact absurd ⟨by omega, (f.up t hut htr).1⟩ hev
        exact ⟨Or.inr ⟨hut, by omega⟩, fun h => (tf h hut).elim⟩

/-- A forest from which nothing leads on. -/
def Shut (n : Nat) (nx : Nat → Nat → Bool) (M : Nat → Nat) (root : Nat) : Prop :=
  ∃ (ρ : Nat → Nat) (S : FS), FI n nx M root ρ S.pa S.ba S.us ∧ ∀ v i, S.us v = true → i < n → nx v i = true → Good S v i
theorem searchL_ok {n : Nat} {nx : Nat → Nat → Bool} {M : Nat → Nat} {root : Nat} (hn : n ≤ 60) (hG : Gr n nx) (hM : Mat n nx M) (hroot : M root = n) {k : Nat} (hk : 60 < k) :
    ∀ (f m : Nat) (S : FS), m ≤ 60 → m < f → St n nx M root m S → Sc n nx (fun v _ => v ∈ S.q) S →
      ∃ S' r, searchL n M nx k root f S = some (S', r) ∧ ((r = -1 ∧ Shut n nx M root) ∨ ∃ e : Nat, r = (e : Int) ∧ Way n nx M root S' e)
  | 0, m, S, _, hf, _, _ => by omega
  | f + 1, m, S, hm, hf, hS, hsc => by
    obtain ⟨ρ, fi⟩ := hS.fi
    cases hq : S.q with
    | nil =>
      refine ⟨S, -1, by simp only [searchL, hq], Or.inl ⟨rfl, ρ, S, fi, fun v i hv hi hx => ?_⟩⟩
      rcases hsc v i hv hi hx with h | h | ⟨_, h⟩
      · exact h
      · rw [hq] at h; exact absurd h (by simp)
      · rw [hq] at h; exact absurd h (by simp)
    | cons w q =>
      have huw : S.us w = true := hS.qu w (by rw [hq]; exact List.mem_cons_self)
      have hwn := fi.ub w huw
      have hmu := hS.mu
      unfold mu at hmu
      rw [hq, List.length_cons] at hmu
      obtain ⟨m, rfl⟩ : ∃ j, m = j + 1 := ⟨m - 1, by omega⟩
      simp only [searchL, hq]
      rw [if_pos hwn]
      obtain ⟨S1, r, e1, h1⟩ := scan_ok hn hG hM hroot hk (w := w) (m := m) (by omega) n 0 { S with q := q } (by omega) ⟨⟨ρ, fi⟩, fun x hx => hS.qu x (by rw [hq]; exact List.mem_cons_of_mem _ hx), by
        unfold mu
        show q.length + (n - cnt S.us n) ≤ m
        omega⟩ huw (fun v i hv hi hx => by
        have hcase : ∀ x j, x ∈ S.q → Pd { S with q := q } w 0 x j := fun x j hx => by
          rw [hq] at hx
          rcases List.mem_cons.mp hx with h | h
          · exact Or.inr ⟨h, Nat.zero_le _⟩
          · exact Or.inl h
        rcases hsc v i hv hi hx with h | h | ⟨h2, h⟩
        · exact Or.inl h
        · exact Or.inr (Or.inl (hcase v i h))
        · exact Or.inr (Or.inr ⟨h2, hcase i v h⟩))
      rw [e1, Option.bind_some]
      rcases h1 with ⟨rfl, h2, h3⟩ | ⟨e, rfl, h2⟩
      · simp only [nextS]
        exact searchL_ok hn hG hM hroot hk f m S1 (by omega) (by omega) h2 h3
      · simp only [nextS]
        exact ⟨S1, (e : Int), rfl, Or.inr ⟨e, rfl, h2⟩⟩
theorem search_ok {n : Nat} {nx : Nat → Nat → Bool} {M : Nat → Nat} {root : Nat} (hn : n ≤ 60) (hG : Gr n nx) (hM : Mat n nx M) (hr : root < n) (hroot : M root = n) :
    ∃ S' r, searchS n M nx K0 root = some (S', r) ∧ ((r = -1 ∧ Shut n nx M root) ∨ ∃ e : Nat, r = (e : Int) ∧ Way n nx M root S' e) := by
  unfold searchS
  rw [if_pos hr]
  refine searchL_ok hn hG hM hroot (by unfold K0; omega) K0 60 (initS root) (by omega) (by unfold K0; omega) ⟨⟨_, FI.init hr⟩, fun x hx => ?_, ?_⟩ (fun v i hv hi hx => ?_)
  · have h1 : x ∈ [root] := hx
    rw [List.mem_singleton.mp h1]
    show upd (fun _ => false) root true root = true
    exact upd_is_
  · have h1 : cnt (upd (fun _ => false) root true) n = cnt (fun _ => false) n + 1 := cnt_upd_ hr rfl
    unfold mu
    show ([root]).length + (n - cnt (upd (fun _ => false) root true) n) ≤ 60
    rw [h1, List.length_singleton]
    omega
  · have h1 : upd (fun _ => false) root true v = true := hv
    have h2 : v = root := by
      by_cases h : v = root
      · exact h
      · rw [upd_no_ h] at h1; exact absurd h1 (by decide)
    exact Or.inr (Or.inl (by rw [h2]; exact List.mem_singleton.mpr rfl))
end Go.Proofs.Ythhgdndjnflklaa

/- grown's answer: one pair more, or a closed forest. No conditions. -/
namespace Go.Proofs.Ythhgdndjnflklaa
set_option linter.unusedVariables false
set_option linter.unusedSimpArgs false
theorem aug_ok {n : Nat} {nx : Nat → Nat → Bool} {M : Nat → Nat} {root : Nat} {Cv : Nat → Prop} {pa : Nat → Int} (hG : Gr n nx) (hM : Mat n nx M) (hroot : M root = n) (hrn : root < n) :
    ∀ (l : List Nat) (k w : Nat) (Mc : Nat → Nat), l.length < k → w < n → 0 ≤ pa w → Tr M root pa (pa w).toNat l → Xr M root l → (∀ z, z ∈ l → z < n) → (∀ z, z ∈ l → z ≠ root → M z < n ∧ 0 ≤ pa (M z) ∧ nx (M z) (pa (M z)).toNat = true) →
      nx w (pa w).toNat = true → w ∉ l → (∀ z, z ∈ l → Mc z = M z) → Cv w →
      (∀ x, x < n → x ≠ w → Mc x ≤ n ∧ (Mc x < n → Mc x ≠ w ∧ Mc (Mc x) = x ∧ nx x (Mc x) = true)) → (∀ x, x < n → x ≠ w → (Mc x < n ↔ Cv x)) →
      ∃ M', augS n pa k w Mc = some M' ∧ Mat n nx M' ∧ ∀ x, x < n → (M' x < n ↔ Cv x ∨ x = root)
  | l, 0, w, Mc, hk, _, _, _, _, _, _, _, _, _, _, _, _ => by omega
  | l, k + 1, w, Mc, hk, hw, hpw, ht, hX, hl, hup, hnx, hwl, hon, hcw, hmat, hcov => by
    obtain ⟨t, rfl⟩ := ht.head
    have hself := List.mem_cons_self (a := (pa w).toNat) (l := t)
    have hpn := hl _ hself
    have hpw2 : (pa w).toNat ≠ w := fun h => hwl (List.mem_cons.mpr (Or.inl h.symm))
    have honp := hon _ hself
    obtain ⟨_, hinv⟩ := ht.inv rfl
    generalize hp : (pa w).toNat = p at *
    simp only [augS]
    rw [hp, if_pos ⟨hw, hpw, hpn, hpw2⟩, honp]
    -- the mates behind the step
    have hw2 : upd (upd Mc w p) p w w = p := by rw [upd_no_ (Ne.symm hpw2), upd_is_]
    have hp2 : upd (upd Mc w p) p w p = w := upd_is_
    have hx2 : ∀ x, x ≠ w → x ≠ p → upd (upd Mc w p) p w x = Mc x := fun x h1 h2 => by rw [upd_no_ h2, upd_no_ h1]
    rcases hinv with ⟨rfl, rfl⟩ | ⟨hne, ht2⟩
    · rw [if_pos hroot]
      refine ⟨_, rfl, ⟨fun x hx => ?_, fun x hx hlt => ?_, fun x hx hlt => ?_⟩, fun x hx => ?_⟩
      · by_cases h1 : x = w
        · rw [h1, hw2]; omega
        by_cases h2 : x = p
        · rw [h2, hp2]; omega
        rw [hx2 x h1 h2]
        exact (hmat x hx h1).1
      · by_cases h1 : x = w
        · rw [h1, hw2, hp2]
        by_cases h2 : x = p
        · rw [h2, hp2, hw2]
        rw [hx2 x h1 h2] at hlt ⊢
        obtain ⟨h3, h4, h5⟩ := (hmat x hx h1).2 hlt
        have h6 : Mc x ≠ p := fun h => by rw [h, honp, hroot] at h4; omega
        rw [hx2 _ h3 h6]
        exact h4
      · by_cases h1 : x = w
        · rw [h1, hw2]; exact hnx
        by_cases h2 : x = p
        · rw [h2, hp2, hG.sym]; exact hnx
        rw [hx2 x h1 h2] at hlt ⊢
        exact ((hmat x hx h1).2 hlt).2.2
      · by_cases h1 : x = w
        · rw [h1, hw2]
          exact ⟨fun _ => Or.inl hcw, fun _ => hpn⟩
        by_cases h2 : x = p
        · rw [h2, hp2]
          exact ⟨fun _ => Or.inr rfl, fun _ => hw⟩
        rw [hx2 x h1 h2, hcov x hx h1]
        exact ⟨Or.inl, fun h => h.elim id (fun h => absurd h h2)⟩
    · obtain ⟨h3, h4, h5⟩ := hup p hself hne
      have hback := hM.back p hpn h3
      have hMpp := hM.ne hG hpn h3
      obtain ⟨h6, h7⟩ := (hmat p hpn hpw2)
      obtain ⟨h8, h9, h10⟩ := h7 (by rw [honp]; exact h3)
      rw [honp] at h8 h9
      rw [if_neg (by omega)]
      refine aug_ok hG hM hroot hrn t k (M p) _ (by simp at hk; omega) h3 h4 ht2 (fun z hz hr hm => hX z (List.mem_cons_of_mem _ hz) hr (List.mem_cons_of_mem _ hm)) (fun z hz => hl z (List.mem_cons_of_mem _ hz)) (fun z hz hr => hup z (List.mem_cons_of_mem _ hz) hr)
        h5 (fun h => hX p hself hne (List.mem_cons_of_mem _ h)) (fun z hz => ?_) ((hcov (M p) h3 h8).mp (by rw [h9]; exact hpn)) (fun x hx hxw => ?_) (fun x hx hxw => ?_)
      · have hzp : z ≠ p := fun h => (List.nodup_cons.mp ht.nodup).1 (h ▸ hz)
        have hzw : z ≠ w := fun h => hwl (h ▸ List.mem_cons_of_mem _ hz)
        rw [hx2 z hzw hzp]
        exact hon z (List.mem_cons_of_mem _ hz)
      · by_cases h1 : x = w
        · rw [h1, hw2, hp2]
          exact ⟨by omega, fun _ => ⟨fun h => hMpp h.symm, rfl, hnx⟩⟩
        by_cases h2 : x = p
        · rw [h2, hp2, hw2]
          exact ⟨by omega, fun _ => ⟨fun h => h8 h.symm, rfl, by rw [hG.sym]; exact hnx⟩⟩
        rw [hx2 x h1 h2]
        obtain ⟨h11, h12⟩ := hmat x hx h1
        refine ⟨h11, fun hlt => ?_⟩
        obtain ⟨h13, h14, h15⟩ := h12 hlt
        have h16 : Mc x ≠ p := fun h => hxw (by rw [h, honp] at h14; exact h14.symm)
        rw [hx2 _ h13 h16]
        refine ⟨fun h => h2 ?_, h14, h15⟩
        rw [h, h9] at h14
        exact h14.symm
      · by_cases h1 : x = w
        · rw [h1, hw2]
          exact ⟨fun _ => hcw, fun _ => hpn⟩
        by_cases h2 : x = p
        · rw [h2, hp2]
          exact ⟨fun _ => (hcov p hpn hpw2).mp (by rw [honp]; exact h3), fun _ => hw⟩
        rw [hx2 x h1 h2]
        exact hcov x hx h1
/-- grown's answer. -/
theorem grown_ok {n : Nat} {nx : Nat → Nat → Bool} {M : Nat → Nat} {root : Nat} (hn : n ≤ 24) (hG : Gr n nx) (hM : Mat n nx M) (hr : root < n) (hroot : M root = n) :
    (grownS n M nx K0 root = some none ∧ Shut n nx M root) ∨
    ∃ M' e, grownS n M nx K0 root = some (some M') ∧ Mat n nx M' ∧ e < n ∧ M e = n ∧ e ≠ root ∧ ∀ x, x < n → (M' x < n ↔ M x < n ∨ x = e ∨ x = root) := by
  obtain ⟨S', r, e1, h⟩ := search_ok (by omega) hG hM hr hroot
  unfold grownS
  rw [e1, Option.bind_some]
  rcases h with ⟨rfl, h⟩ | ⟨e, rfl, he, hme, her, ρ, S0, w, f, hw, hue, hx, hpa⟩
  · left
    exact ⟨if_pos (by show (-1 : Int) < 0; omega), h⟩
  · right
    obtain ⟨l, ht, hX⟩ := f.tr w hw
    have hus := f.used ht hw
    have hMe : ∀ z, z ∈ l → z ≠ root → M z ≠ e := fun z hz hzr h => by
      have h1 := hM.back z (f.ub z (hus z hz)) (f.mlt (hus z hz) hzr)
      rw [h, hme] at h1
      have := f.ub z (hus z hz)
      omega
    have hpe : S'.pa e = (w : Int) := by rw [hpa, upd_is_]
    have ht2 : Tr M root S'.pa (S'.pa e).toNat l := by
      rw [hpe, Int.toNat_natCast]
      exact ht.congr (fun z hz hzr => by rw [hpa, upd_no_ (hMe z hz hzr)])
    have hlen := f.len ht hw
    obtain ⟨M', e2, h2, h3⟩ := aug_ok (Cv := fun x => M x < n ∨ x = e) hG hM hroot hr l K0 e M (by unfold K0; omega) he (by rw [hpe]; omega) ht2 hX (fun z hz => f.ub z (hus z hz)) (fun z hz hzr => by
      have h1 := f.mlt (hus z hz) hzr
      have h2 := (f.up z (hus z hz) hzr).1
      rw [hpa, upd_no_ (hMe z hz hzr)]
      exact ⟨h1, h2, (f.adj (M z) h1 h2).2.2.2⟩) (by rw [hpe, Int.toNat_natCast, hG.sym]; exact hx) (fun h => tf (hus e h) hue) (fun z _ => rfl) (Or.inr rfl)
      (fun x hx hxe => ⟨hM.le x hx, fun hlt => ⟨fun h => by
        have h1 := hM.back x hx hlt
        rw [h, hme] at h1
        omega, hM.back x hx hlt, hM.near x hx hlt⟩⟩) (fun x hx hxe => ⟨Or.inl, fun h => h.elim id (fun h => absurd h hxe)⟩)
    refine ⟨M', e, ?_, h2, he, hme, her, fun x hx => (h3 x hx).trans ⟨fun h => h.elim (fun h => h.elim Or.inl (fun h => Or.inr (Or.inl h))) (fun h => Or.inr (Or.inr h)), fun h => h.elim (fun h => Or.inl (Or.inl h)) (fun h => h.elim (fun h => Or.inl (Or.inr h)) Or.inr)⟩⟩
    rw [if_neg (by show ¬ ((e : Int) < 0); omega), Int.toNat_natCast, e2]
    rfl
end Go.Proofs.Ythhgdndjnflklaa

/- A closed forest leaves no matching that covers its stones; most's answer has as many pairs as any matching. No conditions. -/
namespace Go.Proofs.Ythhgdndjnflklaa
set_option linter.unusedVariables false
set_option linter.unusedSimpArgs false
theorem band {a b : Bool} : (a && b) = true ↔ a = true ∧ b = true := by cases a <;> cases b <;> simp
/-- A set that a matching pairs within has an even number of stones. -/
theorem cnt_even {n : Nat} {p : Nat → Bool} {f : Nat → Nat} (h : ∀ i, i < n → p i = true → f i < n ∧ p (f i) = true ∧ f i ≠ i ∧ f (f i) = i) : cnt p n % 2 = 0 := by
  have h1 := cnt_split p (fun i => decide (i < f i)) n
  have h2 : cnt (fun i => p i && decide (i < f i)) n ≤ cnt (fun i => p i && !decide (i < f i)) n := by
    refine cnt_inj f n n _ _ (fun i hi hp => ?_) (fun i j hi hj hp hq he => ?_)
    · obtain ⟨h3, h4⟩ := band.mp hp
      obtain ⟨h5, h6, h7, h8⟩ := h i hi h3
      have h9 := of_decide_eq_true h4
      refine ⟨h5, band.mpr ⟨h6, ?_⟩⟩
      rw [h8, decide_eq_false (by omega)]
      rfl
    · rw [← (h i hi (band.mp hp).1).2.2.2, ← (h j hj (band.mp hq).1).2.2.2, he]
  have h3 : cnt (fun i => p i && !decide (i < f i)) n ≤ cnt (fun i => p i && decide (i < f i)) n := by
    refine cnt_inj f n n _ _ (fun i hi hp => ?_) (fun i j hi hj hp hq he => ?_)
    · obtain ⟨h3, h4⟩ := band.mp hp
      obtain ⟨h5, h6, h7, h8⟩ := h i hi h3
      have h9 : ¬ i < f i := fun hh => by rw [decide_eq_true hh] at h4; exact absurd h4 (by decide)
      refine ⟨h5, band.mpr ⟨h6, ?_⟩⟩
      rw [h8, decide_eq_true (by omega)]
    · rw [← (h i hi (band.mp hp).1).2.2.2, ← (h j hj (band.mp hq).1).2.2.2, he]
  omega
theorem cnt_rel {p q : Nat → Bool} {n m : Nat} (R : Nat → Nat → Prop) (h : ∀ i, i < n → p i = true → ∃ j, j < m ∧ q j = true ∧ R i j) (hR : ∀ i i' j, i < n → i' < n → p i = true → p i' = true → R i j → R i' j → i = i') : cnt p n ≤ cnt q m := by
  have hch : ∃ f : Nat → Nat, ∀ i, i < n → p i = true → f i < m ∧ q (f i) = true ∧ R i (f i) := by
    refine Classical.axiomOfChoice (r := fun i j => i < n → p i = true → j < m ∧ q j = true ∧ R i j) (fun i => ?_)
    by_cases hi : i < n ∧ p i = true
    · obtain ⟨j, hj⟩ := h i hi.1 hi.2
      exact ⟨j, fun _ _ => hj⟩
    · exact ⟨0, fun h1 h2 => absurd ⟨h1, h2⟩ hi⟩
  obtain ⟨f, hf⟩ := hch
  exact cnt_inj f m n p q (fun i hi hp => ⟨(hf i hi hp).1, (hf i hi hp).2.1⟩) (fun i j hi hj hp hq he => hR i j (f i) hi hj hp hq (hf i hi hp).2.2 (he ▸ (hf j hj hq).2.2))

/-- No matching covers what M covers, and j. -/
def NoCov (n : Nat) (nx : Nat → Nat → Bool) (M : Nat → Nat) (j : Nat) : Prop := ∀ N, Mat n nx N → ¬ ∀ x, x < n → (M x < n ∨ x = j) → N x < n
theorem shut_no {n : Nat} {nx : Nat → Nat → Bool} {M : Nat → Nat} {root : Nat} (hG : Gr n nx) (hM : Mat n nx M) (hroot : M root = n) (h : Shut n nx M root) : NoCov n nx M root := by
  obtain ⟨ρ, S, f, hgood⟩ := h
  intro N hN hcov
  have hcu : ∀ v, S.us v = true → N v < n := fun v hv => by
    refine hcov v (f.ub v hv) ?_
    by_cases hr : v = root
    · exact Or.inr hr
    · exact Or.inl (f.mlt hv hr)
  -- out of each blossom a pair leads to an odd stone
  have hout : ∀ b, b < n → (S.us b && (S.ba b == b)) = true → ∃ j, j < n ∧ (!S.us j && decide (0 ≤ S.pa j)) = true ∧ ∃ v, S.us v = true ∧ S.ba v = b ∧ N v = j := by
    intro b hbn hb
    obtain ⟨hub, hbb⟩ := band.mp hb
    have hbb := beq_iff_eq.mp hbb
    refine Classical.byContradiction (fun hno => ?_)
    have hin : ∀ v, S.us v = true → S.ba v = b → S.us (N v) = true ∧ S.ba (N v) = b := by
      intro v hv hvb
      have hNv := hcu v hv
      rcases hgood v (N v) hv hNv (hN.near v (f.ub v hv) hNv) with h1 | ⟨h1, h2⟩
      · cases hu : S.us (N v) with
        | true => exact ⟨rfl, h1.symm.trans hvb⟩
        | false =>
          rw [f.un _ hNv hu] at h1
          exact (tf (f.bu v hv).1 (h1 ▸ hu)).elim
      · exact absurd ⟨N v, hNv, by rw [h1, decide_eq_true h2]; rfl, v, hv, hvb, rfl⟩ hno
    have e1 : cnt (fun v => S.us v && (S.ba v == b)) n % 2 = 0 := by
      refine cnt_even (f := N) (fun i hi hp => ?_)
      obtain ⟨h1, h2⟩ := band.mp hp
      obtain ⟨h3, h4⟩ := hin i h1 (beq_iff_eq.mp h2)
      have h5 := hcu i h1
      exact ⟨h5, band.mpr ⟨h3, beq_iff_eq.mpr h4⟩, hN.ne hG hi h5, hN.back i hi h5⟩
    have e2 : cnt (fun v => (S.us v && (S.ba v == b)) && !(v == b)) n % 2 = 0 := by
      refine cnt_even (f := M) (fun i hi hp => ?_)
      obtain ⟨h1, h2⟩ := band.mp hp
      obtain ⟨h1, h3⟩ := band.mp h1
      have h3 := beq_iff_eq.mp h3
      have hne : i ≠ b := fun e => by rw [e, beq_self_eq_true] at h2; exact absurd h2 (by decide)
      obtain ⟨h4, h5, h6⟩ := f.nb i h1 (by rw [h3]; exact fun e => hne e.symm)
      have h7 := hM.back i hi h4
      have h8 : M i ≠ b := fun e => by
        rw [e] at h7
        by_cases hbr : b = root
        · rw [hbr, hroot] at h7; omega
        · have := (f.bm b hub hbb hbr).2
          rw [h7] at this
          exact tf h1 this
      refine ⟨h4, band.mpr ⟨band.mpr ⟨h5, beq_iff_eq.mpr (h6.trans h3)⟩, ?_⟩, hM.ne hG hi h4, h7⟩
      rw [beq_eq_false_iff_ne.mpr h8]
      rfl
    have e3 := cnt_out (p := fun v => S.us v && (S.ba v == b)) (a := b) hbn hb
    omega
  have c1 : cnt (fun b => S.us b && (S.ba b == b)) n ≤ cnt (fun j => !S.us j && decide (0 ≤ S.pa j)) n := by
    refine cnt_rel (fun b j => ∃ v, S.us v = true ∧ S.ba v = b ∧ N v = j) hout (fun i i' j _ _ _ _ h1 h2 => ?_)
    obtain ⟨v, h3, h4, h5⟩ := h1
    obtain ⟨v', h6, h7, h8⟩ := h2
    have := hN.inj (f.ub v h3) (f.ub v' h6) (hcu v h3) (h5.trans h8.symm)
    rw [← h4, ← h7, this]
  have c2 : cnt (fun j => !S.us j && decide (0 ≤ S.pa j)) n ≤ cnt (fun b => (S.us b && (S.ba b == b)) && !(b == root)) n := by
    have key : ∀ i, i < n → (!S.us i && decide (0 ≤ S.pa i)) = true → S.us i = false ∧ M i < n ∧ S.us (M i) = true := fun i hi hp => by
      obtain ⟨h1, h2⟩ := band.mp hp
      obtain ⟨h3, h4, _⟩ := f.adj i hi (of_decide_eq_true h2)
      refine ⟨?_, h3, h4⟩
      cases hu : S.us i with
      | false => rfl
      | true => rw [hu] at h1; exact absurd h1 (by decide)
    refine cnt_inj M n n _ _ (fun i hi hp => ?_) (fun i j hi hj hp hq he => hM.inj hi hj (key i hi hp).2.1 he)
    obtain ⟨h1, h2, h3⟩ := key i hi hp
    have h4 := hM.back i hi h2
    refine ⟨h2, band.mpr ⟨band.mpr ⟨h3, beq_iff_eq.mpr ?_⟩, ?_⟩⟩
    · refine Classical.byContradiction (fun hb => ?_)
      have := (f.nb (M i) h3 hb).2.1
      rw [h4] at this
      exact tf this h1
    · have : M i ≠ root := fun e => by rw [e, hroot] at h4; omega
      rw [beq_eq_false_iff_ne.mpr this]
      rfl
  have c3 := cnt_out (p := fun b => S.us b && (S.ba b == b)) (a := root) (f.ub _ f.rt.1) (band.mpr ⟨f.rt.1, beq_iff_eq.mpr f.rt.2⟩)
  omega

/-- Stones that have a mate. -/
def cov (n : Nat) (M : Nat → Nat) : Nat := cnt (fun v => decide (M v < n)) n
/-- Stones that have the same mate twice. -/
def agr (n : Nat) (M N : Nat → Nat) : Nat := cnt (fun v => decide (M v < n) && (M v == N v)) n
/-- More pairs lead to a matching that covers as much and one stone more. -/
theorem exchange {n : Nat} {nx : Nat → Nat → Bool} {M : Nat → Nat} (hG : Gr n nx) (hM : Mat n nx M) : ∀ (d : Nat) (N : Nat → Nat), Mat n nx N → cov n M < cov n N → n - agr n M N ≤ d →
    ∃ N' x, Mat n nx N' ∧ x < n ∧ M x = n ∧ ∀ v, v < n → (M v < n ∨ v = x) → N' v < n := by
  intro d
  induction d with
  | zero =>
    intro N hN hlt hd
    -- all agree: then no more pairs
    exfalso
    have h1 : agr n M N ≤ cov n M := cnt_mono (fun i _ h => (band.mp h).1)
    have h2 := cnt_le (fun v => decide (N v < n)) n
    unfold cov at hlt h1
    omega
  | succ d ih =>
    intro N hN hlt hd
    by_cases hall : ∀ v, v < n → M v < n → N v < n
    · have hx : ∃ x, x < n ∧ M x = n ∧ N x < n := by
        refine Classical.byContradiction (fun hno => ?_)
        have : cov n N ≤ cov n M := cnt_mono (fun i hi h => by
          refine decide_eq_true (Classical.byContradiction (fun h1 => hno ⟨i, hi, ?_, of_decide_eq_true h⟩))
          have := hM.le i hi
          omega)
        omega
      obtain ⟨x, h1, h2, h3⟩ := hx
      exact ⟨N, x, hN, h1, h2, fun v hv h => h.elim (hall v hv) (fun h => by rw [h]; exact h3)⟩
    · have hx : ∃ x, x < n ∧ M x < n ∧ N x = n := by
        refine Classical.byContradiction (fun hno => hall (fun v hv hm => ?_))
        have := hN.le v hv
        have : N v ≠ n := fun h => hno ⟨v, hv, hm, h⟩
        omega
      obtain ⟨x, hxn, hmx, hnx⟩ := hx
      have hb := hM.back x hxn hmx
      have hne := hM.ne hG hxn hmx
      have hed := hM.near x hxn hmx
      generalize hx1 : M x = x1 at *
      have hN1 : N x1 ≠ x := fun h => by
        have h1 := hN.back x1 hmx (by rw [h]; exact hxn)
        rw [h, hnx] at h1
        omega
      -- the new matching
      have hex : ∃ N' : Nat → Nat, N' x = x1 ∧ N' x1 = x ∧ ∀ v, v < n → v ≠ x → v ≠ x1 → (N v = x1 ∧ N' v = n) ∨ (N v ≠ x1 ∧ N' v = N v) := by
        refine ⟨fun v => if v = x then x1 else if v = x1 then x else if N v = x1 then n else N v, if_pos rfl, ?_, fun v _ h1 h2 => ?_⟩
        · show (if x1 = x then x1 else if x1 = x1 then x else if N x1 = x1 then n else N x1) = x
          rw [if_neg hne, if_pos rfl]
        · show (N v = x1 ∧ (if v = x then x1 else if v = x1 then x else if N v = x1 then n else N v) = n) ∨ _
          by_cases h3 : N v = x1
          · left
            rw [if_neg h1, if_neg h2, if_pos h3]
            exact ⟨h3, rfl⟩
          · right
            refine ⟨h3, ?_⟩
            show (if v = x then x1 else if v = x1 then x else if N v = x1 then n else N v) = N v
            rw [if_neg h1, if_neg h2, if_neg h3]
      obtain ⟨N', ha, hb', hc⟩ := hex
      have hN' : Mat n nx N' := by
        refine ⟨fun v hv => ?_, fun v hv hlt => ?_, fun v hv hlt => ?_⟩
        · by_cases h1 : v = x
          · rw [h1, ha]; omega
          by_cases h2 : v = x1
          · rw [h2, hb']; omega
          rcases hc v hv h1 h2 with ⟨_, h3⟩ | ⟨_, h3⟩
          · rw [h3]; exact Nat.le_refl _
          · rw [h3]; exact hN.le v hv
        · by_cases h1 : v = x
          · rw [h1, ha, hb']
          by_cases h2 : v = x1
          · rw [h2, hb', ha]
          rcases hc v hv h1 h2 with ⟨_, h3⟩ | ⟨h4, h3⟩
          · omega
          · rw [h3] at hlt ⊢
            have h5 := hN.back v hv hlt
            have h6 : N v ≠ x := fun h => by rw [h, hnx] at h5; omega
            rcases hc (N v) hlt h6 h4 with ⟨h7, _⟩ | ⟨_, h7⟩
            · rw [h5] at h7; exact absurd h7 h2
            · rw [h7]; exact h5
        · by_cases h1 : v = x
          · rw [h1, ha]; exact hed
          by_cases h2 : v = x1
          · rw [h2, hb', hG.sym]; exact hed
          rcases hc v hv h1 h2 with ⟨_, h3⟩ | ⟨h4, h3⟩
          · omega
          · rw [h3] at hlt ⊢
            exact hN.near v hv hlt
      have hcov : cov n N ≤ cov n N' := by
        refine cnt_rel (fun v j => j = (if N v = x1 then (if v = x1 then x1 else x) else v)) (fun v hv hp => ?_) (fun i i' j hi hi' hp hp' h1 h2 => ?_)
        · have hp := of_decide_eq_true hp
          by_cases h1 : v = x1
          · refine ⟨x1, hmx, decide_eq_true (by rw [hb']; exact hxn), ?_⟩
            by_cases h2 : N v = x1
            · rw [if_pos h2, if_pos h1]
            · rw [if_neg h2, h1]
          · by_cases h2 : N v = x1
            · exact ⟨x, hxn, decide_eq_true (by rw [ha]; exact hmx), by rw [if_pos h2, if_neg h1]⟩
            · have h3 : v ≠ x := fun h => by rw [h, hnx] at hp; omega
              rcases hc v hv h3 h1 with ⟨h4, _⟩ | ⟨_, h4⟩
              · exact absurd h4 h2
              · exact ⟨v, hv, decide_eq_true (by rw [h4]; exact hp), by rw [if_neg h2]⟩
        · have hp := of_decide_eq_true hp
          have hp' := of_decide_eq_true hp'
          have nx1 : ∀ v, v < n → N v < n → v ≠ x := fun v _ h e => by rw [e, hnx] at h; omega
          have irr : ∀ v, v < n → N v < n → N v = x1 → v ≠ x1 := fun v hv h e e2 => by
            have := hN.ne hG hv h
            rw [e, e2] at this
            exact this rfl
          by_cases h3 : N i = x1
          · rw [if_pos h3, if_neg (irr i hi hp h3)] at h1
            by_cases h4 : N i' = x1
            · exact hN.inj hi hi' hp (h3.trans h4.symm)
            · rw [if_neg h4] at h2
              exact absurd (h2.symm.trans h1) (nx1 i' hi' hp')
          · rw [if_neg h3] at h1
            by_cases h4 : N i' = x1
            · rw [if_pos h4, if_neg (irr i' hi' hp' h4)] at h2
              exact absurd (h1.symm.trans h2) (nx1 i hi hp)
            · rw [if_neg h4] at h2
              exact h1.symm.trans h2
      have hagr : agr n M N + 1 ≤ agr n M N' := by
        unfold agr
        rw [cnt_out (p := fun v => decide (M v < n) && (M v == N' v)) (a := x) hxn (by
          show (decide (M x < n) && (M x == N' x)) = true
          rw [hx1, ha, decide_eq_true hmx, beq_self_eq_true]
          rfl)]
        refine Nat.succ_le_succ (cnt_mono (fun v hv hp => ?_))
        obtain ⟨h1, h2⟩ := band.mp hp
        have h1 := of_decide_eq_true h1
        have h2 := beq_iff_eq.mp h2
        have h3 : v ≠ x := fun h => by rw [h] at h1 h2; omega
        have h4 : v ≠ x1 := fun h => by rw [h, hb] at h2; exact hN1 h2.symm
        have h5 : N v ≠ x1 := fun h => by
          have := hM.inj hv hxn h1 ((h2.trans h).trans hx1.symm)
          exact h3 this
        rcases hc v hv h3 h4 with ⟨h6, _⟩ | ⟨_, h6⟩
        · exact absurd h6 h5
        · refine band.mpr ⟨band.mpr ⟨decide_eq_true h1, beq_iff_eq.mpr (h6 ▸ h2)⟩, ?_⟩
          rw [beq_eq_false_iff_ne.mpr h3]
          rfl
      exact ih N' hN' (by omega) (by omega)
/-- Where no stone can be covered besides, there are as many pairs as can be. -/
theorem maximum {n : Nat} {nx : Nat → Nat → Bool} {M : Nat → Nat} (hG : Gr n nx) (hM : Mat n nx M) (h : ∀ j, j < n → M j = n → NoCov n nx M j) (N : Nat → Nat) (hN : Mat n nx N) : pairsS n N ≤ pairsS n M := by
  refine Classical.byContradiction (fun hlt => ?_)
  have h1 := pairs_twice hG hM
  have h2 := pairs_twice hG hN
  obtain ⟨N', x, h3, h4, h5, h6⟩ := exchange hG hM _ N hN (by unfold cov; omega) (Nat.le_refl _)
  exact h x h4 h5 N' h3 h6
theorem most_loop {n : Nat} {nx : Nat → Nat → Bool} (hn : n ≤ 24) (hG : Gr n nx) : ∀ (d i : Nat) (M : Nat → Nat), i + d = n → Mat n nx M → (∀ j, j < i → M j = n → NoCov n nx M j) → ∃ M', mostL n nx K0 d i M = some M' ∧ Mat n nx M' ∧ ∀ j, j < n → M' j = n → NoCov n nx M' j
  | 0, i, M, hd, hM, h => ⟨M, rfl, hM, fun j hj => h j (by omega)⟩
  | d + 1, i, M, hd, hM, h => by
    have hi : i < n := by omega
    simp only [mostL]
    by_cases hm : M i < n
    · rw [if_pos hm]
      refine most_loop hn hG d (i + 1) M (by omega) hM (fun j hj hj2 => ?_)
      by_cases hji : j = i
      · rw [hji] at hj2; omega
      · exact h j (by omega) hj2
    · rw [if_neg hm]
      have hmi : M i = n := by have := hM.le i hi; omega
      rcases grown_ok hn hG hM hi hmi with ⟨e1, hs⟩ | ⟨M', e, e1, hM', he, hme, her, hcov⟩
      · rw [e1, Option.bind_some]
        refine most_loop hn hG d (i + 1) M (by omega) hM (fun j hj hj2 => ?_)
        by_cases hji : j = i
        · rw [hji]; exact shut_no hG hM hmi hs
        · exact h j (by omega) hj2
      · rw [e1, Option.bind_some]
        refine most_loop hn hG d (i + 1) M' (by omega) hM' (fun j hj hj2 N hN hc => ?_)
        have hjn : j < n := by omega
        have h3 : ¬ (M j < n ∨ j = e ∨ j = i) := fun h => by have := (hcov j hjn).mpr h; omega
        have h4 : M j = n := by
          have := hM.le j hjn
          have : ¬ M j < n := fun h => h3 (Or.inl h)
          omega
        have h5 : j < i := by
          have : j ≠ i := fun h => h3 (Or.inr (Or.inr h))
          omega
        exact h j h5 h4 N hN (fun x hx hh => hc x hx (hh.elim (fun h => Or.inl ((hcov x hx).mpr (Or.inl h))) Or.inr))
theorem mat_none (n : Nat) (nx : Nat → Nat → Bool) : Mat n nx (fun _ => n) := ⟨fun _ _ => Nat.le_refl _, fun _ _ h => absurd h (Nat.lt_irrefl _), fun _ _ h => absurd h (Nat.lt_irrefl _)⟩
/-- most's answer. -/
theorem most_ok {n : Nat} {nx : Nat → Nat → Bool} (hn : n ≤ 24) (hG : Gr n nx) : ∃ M, mostS n nx K0 = some M ∧ Mat n nx M ∧ ∀ N, Mat n nx N → pairsS n N ≤ pairsS n M := by
  obtain ⟨M, h1, h2, h3⟩ := most_loop hn hG n 0 (fun _ => n) (by omega) (mat_none n nx) (fun j hj => absurd hj (by omega))
  exact ⟨M, h1, h2, maximum hG h2 h3⟩
end Go.Proofs.Ythhgdndjnflklaa

/- The greatest number of pairs: of a graph with one edge more, one stone more, without a stone; Match, Short and Parts always answer. No conditions. -/
namespace Go.Proofs.Ythhgdndjnflklaa
set_option linter.unusedVariables false
set_option linter.unusedSimpArgs false
/-- k is the greatest number of pairs. -/
def Nu (n : Nat) (nx : Nat → Nat → Bool) (k : Nat) : Prop := (∃ M, Mat n nx M ∧ pairsS n M = k) ∧ ∀ N, Mat n nx N → pairsS n N ≤ k
theorem Nu.uniq {n k k' : Nat} {nx : Nat → Nat → Bool} (h : Nu n nx k) (h' : Nu n nx k') : k = k' := by
  obtain ⟨⟨M, h1, h2⟩, h3⟩ := h
  obtain ⟨⟨M', h4, h5⟩, h6⟩ := h'
  have := h3 M' h4
  have := h6 M h1
  omega
theorem most_nu {n : Nat} {nx : Nat → Nat → Bool} (hn : n ≤ 24) (hG : Gr n nx) : ∃ M, mostS n nx K0 = some M ∧ Nu n nx (pairsS n M) := by
  obtain ⟨M, h1, h2, h3⟩ := most_ok hn hG
  exact ⟨M, h1, ⟨M, h2, rfl⟩, h3⟩
theorem cov_pairs {n : Nat} {nx : Nat → Nat → Bool} {M : Nat → Nat} (hG : Gr n nx) (hM : Mat n nx M) : cov n M = 2 * pairsS n M := pairs_twice hG hM
theorem woS_gr {n : Nat} {nx : Nat → Nat → Bool} (h : Gr n nx) (s : Nat) : Gr n (woS nx s) := by
  refine ⟨fun a b => ?_, fun a => ?_⟩
  · unfold woS
    rw [h.sym a b, Bool.and_comm (a != s)]
  · unfold woS
    rw [h.irr a]
    rfl
/-- A matching without a stone. -/
def rmS (n a : Nat) (N : Nat → Nat) : Nat → Nat := fun v => if v = a ∨ N v = a then n else N v
theorem rmS_mat {n : Nat} {nx ny : Nat → Nat → Bool} {N : Nat → Nat} (a : Nat) (hN : Mat n nx N) (h : ∀ x y, x < n → y < n → x ≠ a → y ≠ a → nx x y = true → ny x y = true) : Mat n ny (rmS n a N) := by
  have hval : ∀ v, rmS n a N v < n → v ≠ a ∧ N v ≠ a ∧ rmS n a N v = N v := fun v hv => by
    unfold rmS at hv ⊢
    by_cases hc : v = a ∨ N v = a
    · rw [if_pos hc] at hv; omega
    · rw [if_neg hc]
      exact ⟨fun h => hc (Or.inl h), fun h => hc (Or.inr h), rfl⟩
  refine ⟨fun v hv => ?_, fun v hv hlt => ?_, fun v hv hlt => ?_⟩
  · unfold rmS
    split
    · exact Nat.le_refl _
    · exact hN.le v hv
  · obtain ⟨h1, h2, h3⟩ := hval v hlt
    rw [h3] at hlt ⊢
    have h4 := hN.back v hv hlt
    unfold rmS
    rw [if_neg (fun hc => hc.elim h2 (fun hc => h1 (h4.symm.trans hc)))]
    exact h4
  · obtain ⟨h1, h2, h3⟩ := hval v hlt
    rw [h3] at hlt ⊢
    exact h v (N v) hv hlt h1 h2 (hN.near v hv hlt)
theorem cnt_drop1 {p : Nat → Bool} (n a : Nat) : cnt p n ≤ cnt (fun i => p i && !(i == a)) n + 1 := by
  by_cases h : a < n ∧ p a = true
  · rw [cnt_out h.1 h.2]
    exact Nat.le_refl _
  · refine Nat.le_succ_of_le (cnt_mono (fun i hi hp => ?_))
    have : i ≠ a := fun e => h ⟨e ▸ hi, e ▸ hp⟩
    show (p i && !(i == a)) = true
    rw [hp, beq_eq_false_iff_ne.mpr this]
    rfl
theorem rmS_cov {n : Nat} {nx : Nat → Nat → Bool} {N : Nat → Nat} (a : Nat) (hN : Mat n nx N) : cov n N ≤ cov n (rmS n a N) + 2 := by
  have h1 := cnt_drop1 (p := fun v => decide (N v < n)) n a
  have h2 := cnt_drop1 (p := fun v => decide (N v < n) && !(v == a)) n (N a)
  have h3 : cnt (fun v => (decide (N v < n) && !(v == a)) && !(v == N a)) n ≤ cov n (rmS n a N) := cnt_mono (fun v hv hp => by
    obtain ⟨h4, h5⟩ := band.mp hp
    obtain ⟨h4, h6⟩ := band.mp h4
    have h4 := of_decide_eq_true h4
    have h7 : v ≠ a := fun e => by rw [e, beq_self_eq_true] at h6; exact absurd h6 (by decide)
    have h8 : v ≠ N a := fun e => by rw [← e, beq_self_eq_true] at h5; exact absurd h5 (by decide)
    refine decide_eq_true ?_
    unfold rmS
    rw [if_neg (fun hc => hc.elim h7 (fun hc => h8 (by rw [← hc, hN.back v hv h4])))]
    exact h4)
  unfold cov at *
  omega
theorem rmS_pairs {n : Nat} {nx ny : Nat → Nat → Bool} {N : Nat → Nat} (a : Nat) (hG : Gr n nx) (hG' : Gr n ny) (hN : Mat n nx N) (h : ∀ x y, x < n → y < n → x ≠ a → y ≠ a → nx x y = true → ny x y = true) : Mat n ny (rmS n a N) ∧ pairsS n N ≤ pairsS n (rmS n a N) + 1 := by
  have h1 := rmS_mat a hN h
  have h2 := rmS_cov a hN
  have h3 := cov_pairs hG hN
  have h4 := cov_pairs hG' h1
  exact ⟨h1, by omega⟩
theorem Mat.sub {n : Nat} {nx ny : Nat → Nat → Bool} {N : Nat → Nat} (hN : Mat n nx N) (h : ∀ x y, x < n → y < n → nx x y = true → ny x y = true) : Mat n ny N :=
  ⟨hN.le, hN.back, fun v hv hlt => h v (N v) hv hlt (hN.near v hv hlt)⟩
/-- Two graphs that differ at most at one stone's edges, the one within the other. -/
theorem nu_stone {n k k' : Nat} {nx ny : Nat → Nat → Bool} (a : Nat) (hG : Gr n nx) (hG' : Gr n ny) (h1 : ∀ x y, x < n → y < n → nx x y = true → ny x y = true) (h2 : ∀ x y, x < n → y < n → x ≠ a → y ≠ a → ny x y = true → nx x y = true) (hk : Nu n nx k) (hk' : Nu n ny k') : k' = k ∨ k' = k + 1 := by
  obtain ⟨⟨M, h3, h4⟩, h5⟩ := hk
  obtain ⟨⟨M', h6, h7⟩, h8⟩ := hk'
  have h9 := h8 M (h3.sub h1)
  obtain ⟨h10, h11⟩ := rmS_pairs a hG' hG h6 h2
  have h12 := h5 _ h10
  omega
def upS (n : Nat) (N : Nat → Nat) : Nat → Nat := fun v => if v < n ∧ N v < n then N v else n + 1
theorem upS_yes {n v : Nat} {N : Nat → Nat} (h : v < n) (h' : N v < n) : upS n N v = N v := if_pos ⟨h, h'⟩
theorem upS_no {n v : Nat} {N : Nat → Nat} (h : ¬ (v < n ∧ N v < n)) : upS n N v = n + 1 := if_neg h
def dnS (n : Nat) (N : Nat → Nat) : Nat → Nat := fun v => if N v < n then N v else n
theorem dnS_yes {n v : Nat} {N : Nat → Nat} (h' : N v < n) : dnS n N v = N v := if_pos h'
theorem dnS_no {n v : Nat} {N : Nat → Nat} (h : ¬ N v < n) : dnS n N v = n := if_neg h
/-- One stone more: alone without its edges. -/
theorem nu_up {n k : Nat} {nx ny : Nat → Nat → Bool} (hG : Gr n nx) (hG' : Gr (n + 1) ny) (h1 : ∀ x y, x < n → y < n → ny x y = nx x y) (h2 : ∀ x, ny x n = false) (hk : Nu n nx k) : Nu (n + 1) ny k := by
  obtain ⟨⟨M, h3, h4⟩, h5⟩ := hk
  have hup : ∀ (N : Nat → Nat), Mat n nx N → Mat (n + 1) ny (upS n N) ∧ cov (n + 1) (upS n N) = cov n N := fun N hN => by
    have hval : ∀ v, upS n N v < n + 1 → v < n ∧ N v < n := fun v hv => by
      refine Classical.byContradiction (fun hc => ?_)
      rw [upS_no hc] at hv
      omega
    refine ⟨⟨fun v hv => ?_, fun v hv hlt => ?_, fun v hv hlt => ?_⟩, ?_⟩
    · by_cases hc : v < n ∧ N v < n
      · rw [upS_yes hc.1 hc.2]; omega
      · rw [upS_no hc]; exact Nat.le_refl _
    · obtain ⟨h6, h7⟩ := hval v hlt
      have h8 := hN.back v h6 h7
      rw [upS_yes h6 h7, upS_yes h7 (by rw [h8]; exact h6), h8]
    · obtain ⟨h6, h7⟩ := hval v hlt
      rw [upS_yes h6 h7, h1 v _ h6 h7]
      exact hN.near v h6 h7
    · unfold cov
      rw [cnt, upS_no (fun h => Nat.lt_irrefl _ h.1), decide_eq_false (Nat.lt_irrefl _)]
      simp only [Bool.toNat_false, Nat.add_zero]
      refine cnt_congr (fun i hi => decide_eq_decide.mpr ⟨fun h => (hval i h).2, fun h => ?_⟩)
      rw [upS_yes hi h]
      omega
  have hdown : ∀ (N : Nat → Nat), Mat (n + 1) ny N → Mat n nx (dnS n N) ∧ cov n (dnS n N) = cov (n + 1) N := fun N hN => by
    have hnn : ¬ N n < n + 1 := fun h => by
      have := hN.near n (by omega) h
      rw [hG'.sym, h2] at this
      exact absurd this (by decide)
    have hno : ∀ v, v < n → N v < n + 1 → N v < n := fun v hv h => by
      refine Classical.byContradiction (fun hc => ?_)
      have h6 : N v = n := by omega
      have := hN.near v (by omega) h
      rw [h6, h2] at this
      exact absurd this (by decide)
    have hval : ∀ v, dnS n N v < n → N v < n := fun v hv => by
      refine Classical.byContradiction (fun hc => ?_)
      rw [dnS_no hc] at hv
      omega
    refine ⟨⟨fun v hv => ?_, fun v hv hlt => ?_, fun v hv hlt => ?_⟩, ?_⟩
    · by_cases hc : N v < n
      · rw [dnS_yes hc]; omega
      · rw [dnS_no hc]; exact Nat.le_refl _
    · have hc := hval v hlt
      have h8 := hN.back v (by omega) (by omega)
      rw [dnS_yes hc, dnS_yes (by rw [h8]; exact hv), h8]
    · have hc := hval v hlt
      rw [dnS_yes hc, ← h1 v _ hv hc]
      exact hN.near v (by omega) (by omega)
    · unfold cov
      rw [cnt, decide_eq_false hnn]
      simp only [Bool.toNat_false, Nat.add_zero]
      refine cnt_congr (fun i hi => decide_eq_decide.mpr ⟨fun h => ?_, fun h => ?_⟩)
      · have := hval i h; omega
      · rw [dnS_yes (hno i hi h)]; exact hno i hi h
  refine ⟨⟨_, (hup M h3).1, ?_⟩, fun N hN => ?_⟩
  · have h6 := cov_pairs hG' (hup M h3).1
    have h7 := cov_pairs hG h3
    have h8 := (hup M h3).2
    omega
  · obtain ⟨h6, h7⟩ := hdown N hN
    have h8 := h5 _ h6
    have h9 := cov_pairs hG h6
    have h10 := cov_pairs hG' hN
    omega

theorem find_tot {n : Nat} {nx : Nat → Nat → Bool} (hn : n ≤ 24) (hG : Gr n nx) (i : Nat) (left : Int) : ∀ (d j : Nat), ∃ r, findL n nx i left d j = some r
  | 0, j => ⟨none, rfl⟩
  | d + 1, j => by
    simp only [findL]
    by_cases hx : nx i j = false
    · rw [if_pos hx]
      exact find_tot hn hG i left d (j + 1)
    · rw [if_neg hx]
      obtain ⟨M, h1, _⟩ := most_ok hn (woS_gr (woS_gr hG i) j)
      rw [h1, Option.bind_some]
      split
      · exact ⟨_, rfl⟩
      · exact find_tot hn hG i left d (j + 1)
theorem matchL_tot {n : Nat} (hn : n ≤ 24) : ∀ (d i : Nat) (nx : Nat → Nat → Bool) (left : Int) (out : Nat → Nat), Gr n nx → ∃ r, matchL n d i nx left out = some r
  | 0, i, nx, left, out, _ => ⟨out, rfl⟩
  | d + 1, i, nx, left, out, hG => by
    simp only [matchL]
    split
    · exact matchL_tot hn d (i + 1) nx left out hG
    · obtain ⟨r, h1⟩ := find_tot hn hG i left n 0
      rw [h1, Option.bind_some]
      cases r with
      | some j => exact matchL_tot hn d (i + 1) _ _ _ (woS_gr (woS_gr hG i) j)
      | none => exact matchL_tot hn d (i + 1) _ _ _ (woS_gr hG i)
theorem chkS_gr' {a0 : Int} {es : List (Int × Int)} {m : Nat} {nx : Nat → Nat → Bool} (h : chkS a0 es = .ok (m, nx)) : Gr m nx ∧ m ≤ 24 ∧ a0 = m := ⟨chkS_gr h, (chkS_ok h).2.1, (chkS_ok h).1⟩
theorem match_tot {a0 : Int} {es : List (Int × Int)} {m : Nat} {nx : Nat → Nat → Bool} (h : chkS a0 es = .ok (m, nx)) : ∃ (out : Nat → Nat) (k : Nat), matchF a0 es = some (ilist m out, (k : Int), 0) ∧ Nu m nx k ∧ matchL m m 0 nx (k : Int) (fun _ => m) = some out := by
  obtain ⟨hG, hm, _⟩ := chkS_gr' h
  obtain ⟨M, h1, h2⟩ := most_nu hm hG
  obtain ⟨out, h3⟩ := matchL_tot hm m 0 nx (pairsS m M : Int) (fun _ => m) hG
  refine ⟨out, pairsS m M, ?_, h2, h3⟩
  unfold matchF
  rw [h]
  show (mostS m nx K0).bind _ = _
  rw [h1, Option.bind_some, h3]
  rfl
theorem match_err {a0 : Int} {es : List (Int × Int)} {x : Int} (h : chkS a0 es = .error x) : matchF a0 es = some ([], 0, x) := by
  unfold matchF
  rw [h]
theorem short_tot {a0 : Int} {es : List (Int × Int)} {m : Nat} {nx : Nat → Nat → Bool} (h : chkS a0 es = .ok (m, nx)) {k : Nat} (hk : Nu m nx k) : shortF a0 es = some ((m : Int) - 2 * (k : Int), 0) := by
  obtain ⟨hG, hm, _⟩ := chkS_gr' h
  obtain ⟨M, h1, h2⟩ := most_nu hm hG
  unfold shortF
  rw [h]
  show (mostS m nx K0).map _ = _
  rw [h1, Option.map_some]
  show some ((m : Int) - 2 * (pairsS m M : Int), (0 : Int)) = _
  rw [h2.uniq hk]
theorem short_err {a0 : Int} {es : List (Int × Int)} {x : Int} (h : chkS a0 es = .error x) : shortF a0 es = some (0, x) := by
  unfold shortF
  rw [h]
theorem parts_err {a0 : Int} {es : List (Int × Int)} {x : Int} (h : chkS a0 es = .error x) : partsF a0 es = some ([], x) := by
  unfold partsF
  rw [h]

/-- Stones that some greatest matching leaves alone. -/
def Dd (n : Nat) (nx : Nat → Nat → Bool) (i : Nat) : Prop := ∃ k, Nu n nx k ∧ Nu n (woS nx i) k
/-- The part of a stone. -/
def PartIs (n : Nat) (nx : Nat → Nat → Bool) (i p : Nat) : Prop :=
  (p = 0 ∧ Dd n nx i) ∨ (p = 1 ∧ ¬ Dd n nx i ∧ ∃ j, j < n ∧ nx i j = true ∧ Dd n nx j) ∨ (p = 2 ∧ ¬ Dd n nx i ∧ ∀ j, j < n → nx i j = true → ¬ Dd n nx j)
theorem PartIs.uniq {n : Nat} {nx : Nat → Nat → Bool} {i p q : Nat} (h : PartIs n nx i p) (h' : PartIs n nx i q) : p = q := by
  rcases h with ⟨h1, h2⟩ | ⟨h1, h2, j, h3, h4, h5⟩ | ⟨h1, h2, h3⟩ <;> rcases h' with ⟨h1', h2'⟩ | ⟨h1', h2', j', h3', h4', h5'⟩ | ⟨h1', h2', h3'⟩
  · omega
  · exact absurd h2 h2'
  · exact absurd h2 h2'
  · exact absurd h2' h2
  · omega
  · exact absurd h5 (h3' j h3 h4)
  · exact absurd h2' h2
  · exact absurd h5' (h3 j' h3' h4')
  · omega
theorem partsA_ok {n : Nat} {nx : Nat → Nat → Bool} (hn : n ≤ 24) (hG : Gr n nx) {k : Nat} (hk : Nu n nx k) : ∀ (d i : Nat) (out : Nat → Nat), i + d = n → (∀ j, j < i → (out j = 0 ∧ Dd n nx j) ∨ (out j = 2 ∧ ¬ Dd n nx j)) → ∃ out', partsA n nx k d i out = some out' ∧ ∀ j, j < n → (out' j = 0 ∧ Dd n nx j) ∨ (out' j = 2 ∧ ¬ Dd n nx j)
  | 0, i, out, hd, h => ⟨out, rfl, fun j hj => h j (by omega)⟩
  | d + 1, i, out, hd, h => by
    simp only [partsA]
    obtain ⟨M, h1, h2⟩ := most_nu hn (woS_gr hG i)
    rw [h1, Option.bind_some]
    refine partsA_ok hn hG hk d (i + 1) _ (by omega) (fun j hj => ?_)
    by_cases hji : j = i
    · rw [hji, upd_is_]
      by_cases hc : pairsS n M = k
      · rw [if_pos hc]
        exact Or.inl ⟨rfl, k, hk, hc ▸ h2⟩
      · rw [if_neg hc]
        refine Or.inr ⟨rfl, fun ⟨k', h3, h4⟩ => hc ?_⟩
        rw [h2.uniq h4, hk.uniq h3]
    · rw [upd_no_ hji]
      exact h j (by omega)
theorem partsC_ok {nx : Nat → Nat → Bool} {i : Nat} : ∀ (d j : Nat) (out : Nat → Nat), (∀ x, x ≠ i → partsC nx i d j out x = out x) ∧
    ((partsC nx i d j out i = out i ∧ (out i = 2 → ∀ x, j ≤ x → x < j + d → ¬ (out x = 0 ∧ nx i x = true))) ∨ (out i = 2 ∧ partsC nx i d j out i = 1 ∧ ∃ x, j ≤ x ∧ x < j + d ∧ out x = 0 ∧ nx i x = true))
  | 0, j, out => ⟨fun _ _ => rfl, Or.inl ⟨rfl, fun _ x h1 h2 => by omega⟩⟩
  | d + 1, j, out => by
    simp only [partsC]
    by_cases hc : out i = 2 ∧ out j = 0 ∧ nx i j = true
    · rw [if_pos hc]
      obtain ⟨h1, h2⟩ := partsC_ok d (j + 1) (upd out i 1) (nx := nx) (i := i)
      refine ⟨fun x hx => by rw [h1 x hx, upd_no_ hx], Or.inr ⟨hc.1, ?_, j, Nat.le_refl _, by omega, hc.2.1, hc.2.2⟩⟩
      rcases h2 with ⟨h3, _⟩ | ⟨h3, _⟩
      · rw [h3, upd_is_]
      · rw [upd_is_] at h3; omega
    · rw [if_neg hc]
      obtain ⟨h1, h2⟩ := partsC_ok d (j + 1) out (nx := nx) (i := i)
      refine ⟨h1, ?_⟩
      rcases h2 with ⟨h3, h4⟩ | ⟨h3, h4, x, h5, h6, h7⟩
      · refine Or.inl ⟨h3, fun h5 x h6 h7 => ?_⟩
        by_cases hxj : x = j
        · rw [hxj]; exact fun h => hc ⟨h5, h.1, h.2⟩
        · exact h4 h5 x (by omega) (by omega)
      · exact Or.inr ⟨h3, h4, x, by omega, by omega, h7⟩
theorem partsB_ok {n : Nat} {nx : Nat → Nat → Bool} : ∀ (d i : Nat) (out : Nat → Nat), i + d = n → (∀ j, j < n → (out j = 0 ∧ Dd n nx j) ∨ (j < i ∧ PartIs n nx j (out j)) ∨ (out j = 2 ∧ ¬ Dd n nx j ∧ i ≤ j)) → ∀ j, j < n → PartIs n nx j (partsB n nx d i out j)
  | 0, i, out, hd, h => fun j hj => by
    rcases h j hj with ⟨h1, h2⟩ | ⟨_, h1⟩ | ⟨_, _, h1⟩
    · exact Or.inl ⟨h1, h2⟩
    · exact h1
    · omega
  | d + 1, i, out, hd, h => by
    simp only [partsB]
    obtain ⟨h1, h2⟩ := partsC_ok n 0 out (nx := nx) (i := i)
    refine partsB_ok d (i + 1) _ (by omega) (fun j hj => ?_)
    have hzero : ∀ x, x < n → (out x = 0 ↔ Dd n nx x) := fun x hx => by
      rcases h x hx with ⟨h3, h4⟩ | ⟨_, h3⟩ | ⟨h3, h4, _⟩
      · exact ⟨fun _ => h4, fun _ => h3⟩
      · rcases h3 with ⟨h4, h5⟩ | ⟨h4, h5, _⟩ | ⟨h4, h5, _⟩
        · exact ⟨fun _ => h5, fun _ => h4⟩
        · exact ⟨fun h => by omega, fun h => absurd h h5⟩
        · exact ⟨fun h => by omega, fun h => absurd h h5⟩
      · exact ⟨fun h => by omega, fun h => absurd h h4⟩
    by_cases hji : j = i
    · subst hji
      rcases h2 with ⟨h3, h4⟩ | ⟨h3, h4, x, _, h5, h6, h7⟩
      · rw [h3]
        rcases h j hj with ⟨h5, h6⟩ | ⟨h5, _⟩ | ⟨h5, h6, _⟩
        · exact Or.inl ⟨h5, h6⟩
        · omega
        · refine Or.inr (Or.inl ⟨by omega, Or.inr (Or.inr ⟨h5, h6, fun x hx hxx hD => ?_⟩)⟩)
          exact h4 h5 x (by omega) (by omega) ⟨(hzero x hx).mpr hD, hxx⟩
      · rw [h4]
        have hxn : x < n := by omega
        refine Or.inr (Or.inl ⟨by omega, Or.inr (Or.inl ⟨rfl, fun hD => ?_, x, hxn, h7, (hzero x hxn).mp h6⟩)⟩)
        have := (hzero j hj).mpr hD
        omega
    · rw [h1 j hji]
      rcases h j hj with ⟨h5, h6⟩ | ⟨h5, h6⟩ | ⟨h5, h6, h7⟩
      · exact Or.inl ⟨h5, h6⟩
      · exact Or.inr (Or.inl ⟨by omega, h6⟩)
      · exact Or.inr (Or.inr ⟨h5, h6, by omega⟩)
theorem parts_tot {a0 : Int} {es : List (Int × Int)} {m : Nat} {nx : Nat → Nat → Bool} (h : chkS a0 es = .ok (m, nx)) : ∃ out : Nat → Nat, partsF a0 es = some (ilist m out, 0) ∧ ∀ j, j < m → PartIs m nx j (out j) := by
  obtain ⟨hG, hm, _⟩ := chkS_gr' h
  obtain ⟨M, h1, h2⟩ := most_nu hm hG
  obtain ⟨out, h3, h4⟩ := partsA_ok hm hG h2 m 0 (fun _ => 0) (by omega) (fun j hj => absurd hj (by omega))
  refine ⟨partsB m nx m 0 out, ?_, partsB_ok m 0 out (by omega) (fun j hj => ?_)⟩
  · unfold partsF
    rw [h]
    show (mostS m nx K0).bind _ = _
    rw [h1, Option.bind_some, h3]
    rfl
  · rcases h4 j hj with h5 | ⟨h5, h6⟩
    · exact Or.inl h5
    · exact Or.inr (Or.inr ⟨h5, h6, by omega⟩)
end Go.Proofs.Ythhgdndjnflklaa
