/- Several texts in one: A0 A1 A2 B1 B2 B3 P1 P2 P3. No conditions. -/
import Derived.Maps.RangeWalk
import Derived.Maps.OwnSet
import Derived.DeepKeys4
import Derived.WideKeyPair
import Derived.WideShapes
import Derived.Test.YtmeaeapopfcmbaaGreatQ0
import Derived.WideKeyEntry
import Derived.WalkLawsBesides
import Derived.WalkSpells
import Derived.Deep.DeepMust
import Derived.Deep.DeepFit
import Derived.Deep.RegionWith
import Derived.Deep.RegionLaw
import Derived.LoopTactic
import Derived.Test.YtmeaeapopfcmbaaGreatQ52
import Derived.Carry
import Derived.Lib.Strings
import Derived.Lib.Slices
import Derived.Lib.Walk
import Derived.Lib.Bytealg
import Derived.Laws.Externs
import Derived.Sort.Walk0
namespace Go.Proofs.YtmeaeapopfcmbaaGreat
open Go.ChangeMaps Go.WideMaps Go.WideElems Go.RowKit
set_option linter.unusedVariables false
set_option linter.unusedSimpArgs false
set_option linter.unusedSectionVars false
/-- What the keys and the values of a map are. -/
structure MK (P : Program) (α β : Type) where
  t : TypeId
  k : TypeId
  e : TypeId
  ht : P.underlying t = some (.map k e)
  K : Maps.Keyed P k
  ke : α → Value
  kl : α → Lit
  ok : α → Prop
  key : ∀ a, ok a → keyOf P k (ke a) = some (kl a)
  kinj : ∀ a b, ke a = ke b → a = b
  ve : β → Value
  vinj : ∀ a b, ve a = ve b → a = b
  z : β
  hz : ∀ w, (zeroValue e).run P w = .ok (ve z) w
variable {P : Program} {α β : Type}
open Classical in
noncomputable def MK.R (C : MK P α β) (v : Value) : Option (DataW Value × List MemPlace) := if ∃ b, v = C.ve b then some (.held v, []) else none
theorem MK.R_ve (C : MK P α β) (b : β) : C.R (C.ve b) = some (.held (C.ve b), []) := by
  unfold MK.R
  rw [if_pos ⟨b, rfl⟩]
theorem MK.R_inv (C : MK P α β) {v : Value} {y : DataW Value × List MemPlace} (h : C.R v = some y) : ∃ b, v = C.ve b ∧ y = (.held (C.ve b), []) := by
  unfold MK.R at h
  split at h
  · rename_i hb
    obtain ⟨b, rfl⟩ := hb
    exact ⟨b, rfl, (Option.some.inj h).symm⟩
  · exact absurd h (by simp)
theorem MK.litinj (C : MK P α β) {a b : α} (ha : C.ok a) (hb : C.ok b) (h : C.kl a = C.kl b) : a = b :=
  C.kinj a b (C.K.inj (C.key a ha) (by rw [h]; exact C.key b hb))
theorem MK.islit (C : MK P α β) {a : α} (ha : C.ok a) : WideAt.IsKeyLit (C.kl a) := C.K.key (C.key a ha)
def MK.en (C : MK P α β) (p : α × β) : Lit × DataW Value := (C.kl p.1, .held (C.ve p.2))
/-- Lists of pairs as maps. -/
def mget [DecidableEq α] (L : List (α × β)) (a : α) : Option β := (L.find? fun p => decide (p.1 = a)).map Prod.snd
def mdel [DecidableEq α] (L : List (α × β)) (a : α) : List (α × β) := L.filter fun p => decide (p.1 ≠ a)
def mput [DecidableEq α] (L : List (α × β)) (a : α) (b : β) : List (α × β) := (a, b) :: mdel L a
/-- Block b is a map of just these pairs. -/
def MapIs (C : MK P α β) (w : World) (b : Nat) (L : List (α × β)) : Prop :=
  ∃ es : List (Lit × DataW Value), w.ownsMap P C.k C.R b L.length (.map es) ∧ es.Perm (L.map C.en) ∧ (∀ p ∈ L, C.ok p.1) ∧ (L.map Prod.fst).Nodup
theorem ownsMap_tight {k : TypeId} {R : Value → Option (DataW Value × List MemPlace)} {w : World} {b n m : Nat} {es : List (Lit × DataW Value)} (h : w.ownsMap P k R b n (.map es)) (hm : es.length ≤ m) : w.ownsMap P k R b m (.map es) := by
  obtain ⟨E, clock, hb, F, hs, hD⟩ := h
  refine ⟨E, clock, hb, F, ?_, hD⟩
  have := congrArg Maps.size hD
  simp [Maps.size, length_sorted] at this
  omega
theorem MapIs.perm {C : MK P α β} {w : World} {b : Nat} {L L' : List (α × β)} (h : MapIs C w b L) (hp : L.Perm L') : MapIs C w b L' := by
  obtain ⟨es, h1, h2, h3, h4⟩ := h
  exact ⟨es, by rw [← hp.length_eq]; exact h1, h2.trans (hp.map _), fun p hp' => h3 p (hp.mem_iff.2 hp'), (hp.map _).nodup_iff.1 h4⟩
theorem MapIs.kept {C : MK P α β} {w w' : World} {b : Nat} {L : List (α × β)} {row : Option Nat} (h : MapIs C w b L) (hg : w.grownBy w' row) (hne : some b ≠ row) : MapIs C w' b L := by
  obtain ⟨es, h1, h2⟩ := h
  exact ⟨es, h1.kept hg hne, h2⟩
theorem MapIs.lt {C : MK P α β} {w : World} {b : Nat} {L : List (α × β)} (h : MapIs C w b L) : b < w.heap.size := by
  obtain ⟨es, h1, _⟩ := h
  exact h1.lt
theorem MapIs.below {C : MK P α β} {w w' : World} {b B : Nat} {L : List (α × β)} (h : MapIs C w b L) (hb : Below B w w') (hB : b < B) : MapIs C w' b L := by
  obtain ⟨es, ⟨E, clock, h0, h1⟩, h2⟩ := h
  exact ⟨es, ⟨E, clock, (hb.block b hB).trans h0, h1⟩, h2⟩
/-- .. whatever has left the block as it was. -/
theorem MapIs.at {C : MK P α β} {w w' : World} {b : Nat} {L : List (α × β)} (h : MapIs C w b L) (hb : w'.heap[b]? = w.heap[b]?) : MapIs C w' b L := by
  obtain ⟨es, ⟨E, clock, h0, h1⟩, h2⟩ := h
  exact ⟨es, ⟨E, clock, hb.trans h0, h1⟩, h2⟩
theorem MapIs.made (C : MK P α β) (w : World) : MapIs C (w.alloc (.map #[] 0)) w.heap.size [] :=
  ⟨[], World.ownsMap_made w _ _ _, List.Perm.refl _, by simp, by simp⟩
theorem MapIs.ok {C : MK P α β} {w : World} {b : Nat} {L : List (α × β)} (h : MapIs C w b L) : ∀ p ∈ L, C.ok p.1 := by
  obtain ⟨es, _, _, h3, _⟩ := h
  exact h3
theorem MapIs.nodup {C : MK P α β} {w : World} {b : Nat} {L : List (α × β)} (h : MapIs C w b L) : (L.map Prod.fst).Nodup := by
  obtain ⟨es, _, _, _, h4⟩ := h
  exact h4
theorem MapIs.len {C : MK P α β} {w : World} {b : Nat} {L : List (α × β)} (h : MapIs C w b L) (ty : TypeId) : (Builtin.len_ #[C.t] ty #[.map (some b)]).run P w = .ok (.int .i64 L.length) w := by
  obtain ⟨es, h1, h2, _⟩ := h
  rw [h1.len C.ht ty, Maps.size_eq, h2.length_eq, List.length_map]
theorem MapIs.bounded {C : MK P α β} {w : World} {b : Nat} {L : List (α × β)} (h : MapIs C w b L) : L.length ≤ maxLen := by
  obtain ⟨es, ⟨E, clock, _, F, _, hD⟩, h2, _⟩ := h
  have := congrArg Maps.size hD
  simp [Maps.size, length_sorted] at this
  have h3 := h2.length_eq
  rw [List.length_map] at h3
  have := F.size
  omega
section
variable [DecidableEq α]
theorem mem_mdel {L : List (α × β)} {a : α} {p : α × β} : p ∈ mdel L a ↔ p ∈ L ∧ p.1 ≠ a := by simp [mdel]
theorem mdel_len (L : List (α × β)) (a : α) : (mdel L a).length ≤ L.length := List.length_filter_le _ _
theorem mput_len (L : List (α × β)) (a : α) (b : β) : (mput L a b).length ≤ L.length + 1 := Nat.succ_le_succ (mdel_len L a)
theorem mget_some {L : List (α × β)} {a : α} {b : β} (h : mget L a = some b) : (a, b) ∈ L := by
  simp only [mget, Option.map_eq_some_iff] at h
  obtain ⟨p, h1, rfl⟩ := h
  have := List.find?_some h1
  simp at this
  subst this
  exact List.mem_of_find?_eq_some h1
theorem mget_none {L : List (α × β)} {a : α} : mget L a = none ↔ ∀ p ∈ L, p.1 ≠ a := by simp [mget]
theorem mget_mem {L : List (α × β)} (hn : (L.map Prod.fst).Nodup) {a : α} {b : β} (h : (a, b) ∈ L) : mget L a = some b := by
  induction L with
  | nil => exact absurd h (by simp)
  | cons q l ih =>
    rw [List.map_cons, List.nodup_cons] at hn
    rcases List.mem_cons.1 h with rfl | h
    · simp [mget]
    · have hq : q.1 ≠ a := fun e => hn.1 (e ▸ List.mem_map.2 ⟨(a, b), h, rfl⟩)
      have := ih hn.2 h
      unfold mget at this ⊢
      rw [List.find?_cons_of_neg (by simpa using hq)]
      exact this
theorem mget_perm {L L' : List (α × β)} (hn : (L.map Prod.fst).Nodup) (hp : L.Perm L') (a : α) : mget L' a = mget L a := by
  have hn' : (L'.map Prod.fst).Nodup := (hp.map _).nodup_iff.1 hn
  cases h : mget L a with
  | none => exact mget_none.2 fun p h1 => mget_none.1 h p (hp.mem_iff.2 h1)
  | some b => exact mget_mem hn' (hp.mem_iff.1 (mget_some h))
theorem nodup_mdel {L : List (α × β)} (hn : (L.map Prod.fst).Nodup) (a : α) : ((mdel L a).map Prod.fst).Nodup :=
  hn.sublist (List.Sublist.map _ List.filter_sublist)
theorem nodup_mput {L : List (α × β)} (hn : (L.map Prod.fst).Nodup) (a : α) (b : β) : ((mput L a b).map Prod.fst).Nodup := by
  unfold mput
  rw [List.map_cons, List.nodup_cons]
  exact ⟨fun h => by obtain ⟨p, h1, h2⟩ := List.mem_map.1 h; exact (mem_mdel.1 h1).2 h2, nodup_mdel hn a⟩
theorem del_perm {C : MK P α β} {es : List (Lit × DataW Value)} {L : List (α × β)} (hp : es.Perm (L.map C.en)) (hok : ∀ p ∈ L, C.ok p.1) {a : α} (ha : C.ok a) : (es.filter (notKey (C.kl a))).Perm ((mdel L a).map C.en) := by
  refine (hp.filter _).trans (List.Perm.of_eq ?_)
  rw [List.filter_map]
  unfold mdel
  congr 1
  refine List.filter_congr fun p h => ?_
  simp only [Function.comp, notKey, MK.en]
  rw [Bool.eq_iff_iff]
  simp only [Bool.not_eq_true', decide_eq_true_eq]
  constructor
  · intro h1 e
    rw [e, WideAt.sameKey_self (C.islit ha)] at h1
    exact absurd h1 (by simp)
  · intro h1
    cases h2 : Lit.sameKey (C.kl p.1) (C.kl a) with
    | false => rfl
    | true => exact absurd (C.litinj (hok p h) ha (WideAt.sameKey_eq h2)) h1
theorem MapIs.put {C : MK P α β} {w : World} {b : Nat} {L : List (α × β)} (h : MapIs C w b L) (hr : L.length < maxLen) {a : α} (ha : C.ok a) (v : β) :
    ∃ w', (Instr.mapUpdate C.t (.map (some b)) (C.ke a) (C.ve v)).run P w = .ok () w' ∧ MapIs C w' b (mput L a v) ∧ w.mapTurned w' b := by
  obtain ⟨es, h1, h2, h3, h4⟩ := h
  obtain ⟨w', e1, e2, e3⟩ := h1.store C.K C.ht hr (C.key a ha) (C.R_ve v)
  rw [DataW.put_eq] at e2
  have hp : (putKey (C.kl a) (.held (C.ve v)) es).Perm ((mput L a v).map C.en) := by
    unfold putKey mput
    rw [List.map_cons]
    exact (WideShapes.insert_perm _ _).trans (List.Perm.cons _ (del_perm h2 h3 ha))
  refine ⟨w', e1, ⟨_, ownsMap_tight e2 (by rw [hp.length_eq, List.length_map]; exact Nat.le_refl _), hp, ?_, nodup_mput h4 a v⟩, e3⟩
  intro p hp
  rcases List.mem_cons.1 hp with rfl | hp
  · exact ha
  · exact h3 p (mem_mdel.1 hp).1
theorem MapIs.del {C : MK P α β} {w : World} {b : Nat} {L : List (α × β)} (h : MapIs C w b L) {a : α} (ha : C.ok a) (ty : TypeId) :
    ∃ w', (Builtin.delete_ #[C.t, C.k] ty #[.map (some b), C.ke a]).run P w = .ok (.tuple #[]) w' ∧ MapIs C w' b (mdel L a) ∧ w.mapTurned w' b := by
  obtain ⟨es, h1, h2, h3, h4⟩ := h
  obtain ⟨w', e1, e2, e3⟩ := h1.drop C.K C.ht (C.key a ha) ty
  rw [DataW.del_eq] at e2
  have hp := del_perm h2 h3 ha
  exact ⟨w', e1, ⟨_, ownsMap_tight e2 (by unfold delKey; rw [hp.length_eq, List.length_map]; exact Nat.le_refl _), hp, fun p hp => h3 p (mem_mdel.1 hp).1, nodup_mdel h4 a⟩, e3⟩
theorem has_iff {C : MK P α β} {es : List (Lit × DataW Value)} {L : List (α × β)} (hp : es.Perm (L.map C.en)) (hok : ∀ p ∈ L, C.ok p.1) {a : α} (ha : C.ok a) : Maps.has (.map es) (C.kl a) = (mget L a).isSome := by
  rw [Maps.has_eq, Bool.eq_iff_iff, List.any_eq_true]
  constructor
  · rintro ⟨q, h1, h2⟩
    obtain ⟨p, h3, rfl⟩ := List.mem_map.1 (hp.mem_iff.1 h1)
    have e : p.1 = a := C.litinj (hok p h3) ha (WideAt.sameKey_eq h2)
    cases hm : mget L a with
    | none => exact absurd e (mget_none.1 hm p h3)
    | some v => rfl
  · intro h
    obtain ⟨v, hv⟩ := Option.isSome_iff_exists.1 h
    exact ⟨C.en (a, v), hp.mem_iff.2 (List.mem_map.2 ⟨_, mget_some hv, rfl⟩), WideAt.sameKey_self (C.islit ha)⟩
theorem en_pairwise {C : MK P α β} {es : List (Lit × DataW Value)} {L : List (α × β)} (hp : es.Perm (L.map C.en)) (hok : ∀ p ∈ L, C.ok p.1) (hn : (L.map Prod.fst).Nodup) : es.Pairwise (fun p q => p.1 ≠ q.1) := by
  have h : (L.map C.en).Pairwise (fun p q => p.1 ≠ q.1) := by
    rw [List.pairwise_map]
    have h1 : L.Pairwise (fun p q => p.1 ≠ q.1) := by
      have := List.pairwise_map.1 hn
      exact this
    exact List.Pairwise.imp_of_mem (fun {p q} hp hq hne e => hne (C.litinj (hok p hp) (hok q hq) e)) h1
  exact (hp.pairwise_iff (fun h e => h e.symm)).2 h
theorem at_iff {C : MK P α β} {es : List (Lit × DataW Value)} {L : List (α × β)} (hp : es.Perm (L.map C.en)) (hok : ∀ p ∈ L, C.ok p.1) (hn : (L.map Prod.fst).Nodup) {a : α} (ha : C.ok a) (zd : DataW Value) :
    (DataW.map es).atKey (C.kl a) zd = (match mget L a with | some v => .held (C.ve v) | none => zd) := by
  cases hm : mget L a with
  | none =>
    have : Maps.has (.map es) (C.kl a) = false := by rw [has_iff hp hok ha, hm]; rfl
    exact Maps.atKey_of_not_has this zd
  | some v =>
    exact WideAt.atKey_mem zd (C.islit ha) (en_pairwise hp hok hn) (hp.mem_iff.2 (List.mem_map.2 ⟨(a, v), mget_some hm, rfl⟩))
theorem MapIs.look_ok {C : MK P α β} {w : World} {b : Nat} {L : List (α × β)} (h : MapIs C w b L) {a : α} (ha : C.ok a) :
    (Instr.lookup C.t (.map (some b)) (C.ke a) true).run P w = .ok (.tuple #[C.ve ((mget L a).getD C.z), .bool (mget L a).isSome]) w := by
  obtain ⟨es, h1, h2, h3, h4⟩ := h
  obtain ⟨v, ps, e1, e2⟩ := h1.look_ok C.K C.ht (C.hz w) (C.R_ve C.z) (C.key a ha)
  rw [e1, has_iff h2 h3 ha]
  rw [at_iff h2 h3 h4 ha] at e2
  obtain ⟨x, rfl, e3⟩ := C.R_inv e2
  have e4 := congrArg Prod.fst e3
  cases hm : mget L a with
  | none => rw [hm] at e4; simp at e4; rw [← e4]; rfl
  | some y => rw [hm] at e4; simp at e4; rw [← e4]; rfl
theorem MapIs.look {C : MK P α β} {w : World} {b : Nat} {L : List (α × β)} (h : MapIs C w b L) {a : α} (ha : C.ok a) :
    (Instr.lookup C.t (.map (some b)) (C.ke a) false).run P w = .ok (C.ve ((mget L a).getD C.z)) w := by
  obtain ⟨es, h1, h2, h3, h4⟩ := h
  obtain ⟨v, ps, e1, e2⟩ := h1.lookup C.K C.ht (C.hz w) (C.R_ve C.z) (C.key a ha)
  rw [e1]
  rw [at_iff h2 h3 h4 ha] at e2
  obtain ⟨x, rfl, e3⟩ := C.R_inv e2
  have e4 := congrArg Prod.fst e3
  cases hm : mget L a with
  | none => rw [hm] at e4; simp at e4; rw [← e4]; rfl
  | some y => rw [hm] at e4; simp at e4; rw [← e4]; rfl
/-- What is still to come of a map: of its pairs those not among outs. -/
def Rng (C : MK P α β) (w : World) (b r : Nat) (L outs : List (α × β)) (cnt : Nat) : Prop :=
  ∃ (es : List (Lit × DataW Value)) (left : Lit → Bool), w.ranges P C.k C.R b r L.length (.map es) left cnt ∧ es.Perm (L.map C.en) ∧ (∀ p ∈ L, C.ok p.1) ∧ (L.map Prod.fst).Nodup ∧ outs.Nodup ∧ (∀ p ∈ outs, p ∈ L) ∧ (∀ kl, left kl = true → ∃ p ∈ L, kl = C.kl p.1) ∧ (∀ p ∈ L, left (C.kl p.1) = true ↔ p ∉ outs)
theorem Rng.kept {C : MK P α β} {w w' : World} {b r cnt : Nat} {L outs : List (α × β)} {row : Option Nat} (h : Rng C w b r L outs cnt) (hg : w.grownBy w' row) (h1 : some b ≠ row) (h2 : some r ≠ row) : Rng C w' b r L outs cnt := by
  obtain ⟨es, left, a, q⟩ := h
  exact ⟨es, left, a.kept hg h1 h2, q⟩
theorem Rng.at {C : MK P α β} {w w' : World} {b r cnt : Nat} {L outs : List (α × β)} (h : Rng C w b r L outs cnt) (hb : w'.heap[b]? = w.heap[b]?) (hr : w'.heap[r]? = w.heap[r]?) : Rng C w' b r L outs cnt := by
  obtain ⟨es, left, ⟨E, clock, since, seen, c0, a1, a2, a3, a4, a5, a6⟩, q⟩ := h
  exact ⟨es, left, ⟨E, clock, since, seen, c0, hb.trans a1, a2, a3, a4, hr.trans a5, a6⟩, q⟩
theorem Rng.left_eq {C : MK P α β} {w : World} {b r cnt : Nat} {L outs : List (α × β)} (h : Rng C w b r L outs cnt) : w.rangeLeft b r = cnt := by
  obtain ⟨es, left, a, q⟩ := h
  exact a.left_eq
theorem Rng.ne {C : MK P α β} {w : World} {b r cnt : Nat} {L outs : List (α × β)} (h : Rng C w b r L outs cnt) : r ≠ b := by
  obtain ⟨es, left, a, q⟩ := h
  exact a.ne
theorem Rng.lt {C : MK P α β} {w : World} {b r cnt : Nat} {L outs : List (α × β)} (h : Rng C w b r L outs cnt) : r < w.heap.size := by
  obtain ⟨es, left, a, q⟩ := h
  exact a.lt
theorem Rng.map {C : MK P α β} {w : World} {b r cnt : Nat} {L outs : List (α × β)} (h : Rng C w b r L outs cnt) : MapIs C w b L := by
  obtain ⟨es, left, a, h2, h3, h4, _⟩ := h
  exact ⟨es, a.owns, h2, h3, h4⟩
theorem Rng.nodup {C : MK P α β} {w : World} {b r cnt : Nat} {L outs : List (α × β)} (h : Rng C w b r L outs cnt) : outs.Nodup := by
  obtain ⟨es, left, a, _, _, _, h5, _⟩ := h
  exact h5
theorem Rng.sub {C : MK P α β} {w : World} {b r cnt : Nat} {L outs : List (α × β)} (h : Rng C w b r L outs cnt) : ∀ p ∈ outs, p ∈ L := by
  obtain ⟨es, left, a, _, _, _, _, h6, _⟩ := h
  exact h6
theorem MapIs.range {C : MK P α β} {w : World} {b : Nat} {L : List (α × β)} (h : MapIs C w b L) :
    ∃ w', (Instr.range C.t (.map (some b))).run P w = .ok (.pointer (some ⟨w.heap.size, 0, none⟩)) w' ∧ Rng C w' b w.heap.size L [] L.length ∧ w.grownBy w' none ∧ w'.heap.size = w.heap.size + 1 := by
  obtain ⟨es, h1, h2, h3, h4⟩ := h
  obtain ⟨w', e1, e2, e3, e4⟩ := h1.range C.K C.ht
  rw [Maps.size_eq, h2.length_eq, List.length_map] at e2
  refine ⟨w', e1, ⟨es, _, e2, h2, h3, h4, List.nodup_nil, by simp, ?_, ?_⟩, e3, e4⟩
  · intro kl hk
    rw [Maps.has_eq, List.any_eq_true] at hk
    obtain ⟨q, q1, q2⟩ := hk
    obtain ⟨p, p1, rfl⟩ := List.mem_map.1 (h2.mem_iff.1 q1)
    exact ⟨p, p1, (WideAt.sameKey_eq q2).symm⟩
  · intro p hp
    rw [has_iff h2 h3 (h3 p hp), mget_mem h4 (show (p.1, p.2) ∈ L from hp)]
    simp
theorem Rng.next {C : MK P α β} {w : World} {b r cnt : Nat} {L outs : List (α × β)} (h : Rng C w b r L outs cnt) (ty : TypeId) :
    (outs.Perm L ∧ (Instr.next (.pointer (some ⟨r, 0, none⟩)) false ty).run P w = .ok (.tuple #[.bool false]) w) ∨
    ∃ (p : α × β) (w' : World) (cnt' : Nat), p ∈ L ∧ p ∉ outs ∧ (Instr.next (.pointer (some ⟨r, 0, none⟩)) false ty).run P w = .ok (.tuple #[.bool true, C.ke p.1, C.ve p.2]) w' ∧ Rng C w' b r L (outs ++ [p]) cnt' ∧ cnt' < cnt ∧ w.grownBy w' (some r) ∧ w'.heap.size = w.heap.size ∧
      (Instr.entry (.pointer (some ⟨r, 0, none⟩))).run P w' = .ok (.tuple #[C.ke p.1, C.ve p.2]) w' := by
  obtain ⟨es, left, a, h2, h3, h4, h5, h6, h7, h8⟩ := h
  rcases a.next C.K ty with ⟨_, e2, e3⟩ | ⟨key, v, kl, y, w', cnt', e1, e2, e3, e4, e5, e6, e7, e8, e9, e10⟩
  · refine .inl ⟨?_, e3⟩
    have hL : L.Nodup := List.Pairwise.imp (fun h e => h (congrArg Prod.fst e)) (List.pairwise_map.1 h4)
    rw [List.perm_ext_iff_of_nodup h5 hL]
    intro p
    refine ⟨h6 p, fun hp => ?_⟩
    by_cases hq : p ∈ outs
    · exact hq
    · have := (h8 p hp).2 hq
      rw [e2] at this
      exact absurd this (by simp)
  · obtain ⟨p, hp, rfl⟩ := h7 kl e2
    have hk : key = C.ke p.1 := C.K.inj e1 (C.key _ (h3 p hp))
    subst hk
    have hat := e4 .nil
    rw [at_iff h2 h3 h4 (h3 p hp), mget_mem h4 (show (p.1, p.2) ∈ L from hp)] at hat
    obtain ⟨x, rfl, hx⟩ := C.R_inv e3
    rw [hx] at hat
    simp at hat
    rw [← hat] at e5 e10
    refine .inr ⟨p, w', cnt', hp, (h8 p hp).1 e2, e5, ⟨es, _, e6, h2, h3, h4, ?_, ?_, ?_, ?_⟩, e7, e8, e9, e10⟩
    · rw [List.nodup_append]
      refine ⟨h5, by simp, ?_⟩
      intro q hq q' hq' e
      rw [List.mem_singleton] at hq'
      exact (h8 p hp).1 e2 (by rw [← hq', ← e]; exact hq)
    · intro q hq
      rcases List.mem_append.1 hq with hq | hq
      · exact h6 q hq
      · rw [List.mem_singleton.1 hq]; exact hp
    · intro kl hkl
      simp only [Bool.and_eq_true] at hkl
      exact h7 kl hkl.1
    · intro q hq
      simp only [Bool.and_eq_true, Bool.not_eq_true', List.mem_append, List.mem_singleton, not_or]
      rw [h8 q hq]
      constructor
      · rintro ⟨q1, q2⟩
        refine ⟨q1, fun e => ?_⟩
        rw [e, WideAt.sameKey_self (C.islit (h3 p hp))] at q2
        exact absurd q2 (by simp)
      · rintro ⟨q1, q2⟩
        refine ⟨q1, ?_⟩
        cases hs : Lit.sameKey (C.kl q.1) (C.kl p.1) with
        | false => rfl
        | true =>
          have e := C.litinj (h3 q hq) (h3 p hp) (WideAt.sameKey_eq hs)
          have : q = p := by
            have a1 := mget_mem h4 (show (q.1, q.2) ∈ L from hq)
            have a2 := mget_mem h4 (show (p.1, p.2) ∈ L from hp)
            rw [e, a2] at a1
            exact Prod.ext e (Option.some.inj a1).symm
          exact absurd this q2
end
/-! ### at the operation, for the walk -/
section
variable [DecidableEq α] (w : World) {ops : Array Oper} {rest : List Oper} {o : Oper} {a : Act} {Q : Exit → Act → World → Prop}
theorem wpL_range (C : MK P α β) (hg : o.guard = none) (m : Operand) (hop : o.op = Op.range C.t m) (b : Nat) (L : List (α × β)) (hm : a.eval m = .map (some b)) (h : MapIs C w b L)
    (hK : ∀ w', Rng C w' b w.heap.size L [] L.length → w.grownBy w' none → w'.heap.size = w.heap.size + 1 → wpList P ops Q rest (a.put o.dst (.pointer (some ⟨w.heap.size, 0, none⟩))) w') : wpList P ops Q (o :: rest) a w := by
  refine wpList_plain hg fun K' hK' => ?_
  obtain ⟨w', hrun, r1, r2, r3⟩ := h.range
  unfold Oper.wp
  simp [execOp, hop, hm, hrun, Result.andThen]
  exact hK' _ _ (hK w' r1 r2 r3)
theorem wpL_next (C : MK P α β) (hg : o.guard = none) (it : Operand) (hop : o.op = Op.next it false) (b r : Nat) (L outs : List (α × β)) (cnt : Nat) (hit : a.eval it = .pointer (some ⟨r, 0, none⟩)) (h : Rng C w b r L outs cnt)
    (hDone : outs.Perm L → wpList P ops Q rest (a.put o.dst (.tuple #[.bool false])) w)
    (hMore : ∀ (p : α × β) (w' : World) (cnt' : Nat), p ∈ L → p ∉ outs → Rng C w' b r L (outs ++ [p]) cnt' → cnt' < cnt → w.grownBy w' (some r) → w'.heap.size = w.heap.size → (Instr.entry (.pointer (some ⟨r, 0, none⟩))).run P w' = .ok (.tuple #[C.ke p.1, C.ve p.2]) w' → wpList P ops Q rest (a.put o.dst (.tuple #[.bool true, C.ke p.1, C.ve p.2])) w') :
    wpList P ops Q (o :: rest) a w := by
  refine wpList_plain hg fun K' hK' => ?_
  unfold Oper.wp
  rcases h.next o.type with ⟨h0, hrun⟩ | ⟨p, w', cnt', e1, e2, hrun, e3, e4, e5, e6, e7⟩
  · simp [execOp, hop, hit, hrun, Result.andThen]
    exact hK' _ _ (hDone h0)
  · simp [execOp, hop, hit, hrun, Result.andThen]
    exact hK' _ _ (hMore p w' cnt' e1 e2 e3 e4 e5 e6 e7)
theorem wpL_mput (C : MK P α β) (hg : o.guard = none) (m x v : Operand) (hop : o.op = Op.mapUpdate C.t m x v) (b : Nat) (L : List (α × β)) (k : α) (y : β) (hok : C.ok k) (hm : a.eval m = .map (some b)) (hx : a.eval x = C.ke k) (hv : a.eval v = C.ve y) (h : MapIs C w b L) (hn : L.length < maxLen)
    (hK : ∀ w', MapIs C w' b (mput L k y) → w.mapTurned w' b → wpList P ops Q rest (a.put o.dst undef) w') : wpList P ops Q (o :: rest) a w := by
  refine wpList_plain hg fun K' hK' => ?_
  obtain ⟨w', hrun, r1, r2⟩ := h.put hn hok y
  unfold Oper.wp
  simp [execOp, hop, hm, hx, hv, hrun, Result.andThen]
  exact hK' _ _ (hK w' r1 r2)
theorem wpL_mdel (C : MK P α β) (hg : o.guard = none) (m x : Operand) (hop : o.op = Op.call { callee := Callee.builtin Builtin.delete, args := #[m, x], argTypes := #[C.t, C.k] }) (b : Nat) (L : List (α × β)) (k : α) (hok : C.ok k) (hm : a.eval m = .map (some b)) (hx : a.eval x = C.ke k) (h : MapIs C w b L)
    (hK : ∀ w', MapIs C w' b (mdel L k) → w.mapTurned w' b → wpList P ops Q rest (a.put o.dst (.tuple #[])) w') : wpList P ops Q (o :: rest) a w := by
  refine wpList_plain hg fun K' hK' => ?_
  obtain ⟨w', hrun, r1, r2⟩ := h.del hok o.type
  unfold Oper.wp
  simp [execOp, hop, resolve, invoke, builtin, hm, hx, hrun, Result.andThen]
  exact hK' _ _ (hK w' r1 r2)
end
end Go.Proofs.YtmeaeapopfcmbaaGreat

namespace Go.Proofs.YtmeaeapopfcmbaaGreat
open Go.RowKit Go.Proofs.YtmeaeapopfcmbaaGreatW.PrintWords Go.Proofs.YtmeaeapopfcmbaaGreatW.PrintLast Go.Proofs.YtmeaeapopfcmbaaGreatW.PrintMore PP Go.WideMaps Go.WideElems Go.ChangeMaps
set_option linter.unusedVariables false
set_option linter.unusedSimpArgs false
deriving instance DecidableEq for S97
deriving instance DecidableEq for S99
deriving instance DecidableEq for S102
deriving instance DecidableEq for S108
deriving instance DecidableEq for S111
/-- A way: a stock, from whom, to whom. -/
structure S131 where
  f0 : Int
  f1 : Int
  f2 : Int
deriving DecidableEq
theorem sizeP : ∃ m, Tryz.prog.types.size = m + 2 := ⟨Tryz.prog.types.size - 2, by
  have h : decide (1 < Tryz.prog.types.size) = true := by kernel_rfl
  have := of_decide_eq_true h
  omega⟩
def okI (a : Int) : Prop := (Lit.int .i64 a).wf = true
theorem okI_of {a : Int} (h0 : -9223372036854775808 ≤ a) (h1 : a ≤ 9223372036854775807) : okI a := WalkArith.wf_i64 (by omega)
theorem lawD : Maps.Keyed Tryz.prog 97 := Maps.Keyed.of_law (deep_law_laid (by kernel_rfl) (m := 2) (by omega) (of_decide_eq_true (by kernel_rfl)) (by kernel_rfl) (by kernel_rfl))
theorem lawW : Maps.Keyed Tryz.prog 131 := Maps.Keyed.of_law (deep_law_laid (by kernel_rfl) (m := 2) (by omega) (of_decide_eq_true (by kernel_rfl)) (by kernel_rfl) (by kernel_rfl))
theorem lawN : Maps.Keyed Tryz.prog 3 := Maps.int_keyed Tryz.underlying3
theorem keyType97 : Tryz.prog.keyType 97 = true := by kernel_rfl
theorem keyType131 : Tryz.prog.keyType 131 = true := by kernel_rfl
theorem cells3 : Tryz.prog.cellsOf 3 = 1 := by kernel_rfl
theorem cells97 : Tryz.prog.cellsOf 97 = 2 := by kernel_rfl
theorem cells131 : Tryz.prog.cellsOf 131 = 3 := by kernel_rfl
/-- Values of the keys and of what is kept. -/
def vD (x : S97) : Value := .agg #[.int .i64 x.f0, .int .i64 x.f1]
def vW (x : S131) : Value := .agg #[.int .i64 x.f0, .int .i64 x.f1, .int .i64 x.f2]
def vT (x : S99) : Value := .agg #[.int .i64 x.f0, .string x.f1, .int .i64 x.f2.f0, .int .i64 x.f2.f1]
def vN (x : S102) : Value := .agg #[.int .i64 x.f0, .string x.f1, .int .i64 x.f2, .int .i64 x.f3]
def okD (x : S97) : Prop := okI x.f0 ∧ okI x.f1
def okW (x : S131) : Prop := okI x.f0 ∧ okI x.f1 ∧ okI x.f2
def klD (x : S97) : Lit := .string (keyBytes [.int .i64 x.f0, .int .i64 x.f1])
def klW (x : S131) : Lit := .string (keyBytes [.int .i64 x.f0, .int .i64 x.f1, .int .i64 x.f2])
theorem keyD (x : S97) (h : okD x) : keyOf Tryz.prog 97 (vD x) = some (klD x) := by
  obtain ⟨w0, w1⟩ := h
  unfold okI at w0 w1
  obtain ⟨m, hm⟩ := sizeP
  unfold keyOf vD
  simp only [Tryz.underlying97]
  rw [if_pos (by simp [keyType97, Value.formed, Tryz.underlying97, cells97]), hm]
  unfold Program.keyLits
  simp only [Tryz.underlying97, Value.cells]
  rw [if_pos (by rw [cells97]; exact ⟨rfl, by kernel_rfl⟩)]
  simp [cells3, Program.keyLits, Tryz.underlying3, w0, w1, klD]
theorem keyW (x : S131) (h : okW x) : keyOf Tryz.prog 131 (vW x) = some (klW x) := by
  obtain ⟨w0, w1, w2⟩ := h
  unfold okI at w0 w1 w2
  obtain ⟨m, hm⟩ := sizeP
  unfold keyOf vW
  simp only [Tryz.underlying131]
  rw [if_pos (by simp [keyType131, Value.formed, Tryz.underlying131, cells131]), hm]
  unfold Program.keyLits
  simp only [Tryz.underlying131, Value.cells]
  rw [if_pos (by rw [cells131]; exact ⟨rfl, by kernel_rfl⟩)]
  simp [cells3, Program.keyLits, Tryz.underlying3, w0, w1, w2, klW]
theorem keyN (x : Int) (h : okI x) : keyOf Tryz.prog 3 (.int .i64 x) = some (.int .i64 x) := Maps.keyOf_int_mk Tryz.underlying3 h
/-- The three maps. -/
def CT : MK Tryz.prog S97 S99 where
  t := 119
  k := 97
  e := 99
  ht := Tryz.underlying119
  K := lawD
  ke := vD
  kl := klD
  ok := okD
  key := keyD
  kinj := fun a b h => by obtain ⟨a0, a1⟩ := a; obtain ⟨b0, b1⟩ := b; unfold vD at h; simp at h; simp [h]
  ve := vT
  vinj := fun a b h => by obtain ⟨a0, a1, a2, a3⟩ := a; obtain ⟨b0, b1, b2, b3⟩ := b; unfold vT at h; simp at h; simp [h]
  z := z99
  hz := Tryz.zeroValue99
def CN : MK Tryz.prog Int S102 where
  t := 120
  k := 3
  e := 102
  ht := Tryz.underlying120
  K := lawN
  ke := .int .i64
  kl := .int .i64
  ok := okI
  key := keyN
  kinj := fun a b h => by simpa using h
  ve := vN
  vinj := fun a b h => by obtain ⟨a0, a1, a2, a3⟩ := a; obtain ⟨b0, b1, b2, b3⟩ := b; unfold vN at h; simp at h; simp [h]
  z := z102
  hz := Tryz.zeroValue102
def CW : MK Tryz.prog S131 Int where
  t := 124
  k := 131
  e := 3
  ht := Tryz.underlying124
  K := lawW
  ke := vW
  kl := klW
  ok := okW
  key := keyW
  kinj := fun a b h => by obtain ⟨a0, a1, a2⟩ := a; obtain ⟨b0, b1, b2⟩ := b; unfold vW at h; simp at h; simp [h]
  ve := .int .i64
  vinj := fun a b h => by simpa using h
  z := 0
  hz := Tryz.zeroValue3
/-- What a know's block holds. -/
def knowCells (s : List Int) (mt mn mw : Nat) : Array Value := (s.map (Value.int .i64) ++ [Value.map (some mt), Value.map (some mn), Value.func (.func 122) #[] #[], Value.map (some mw), Value.func (.func 102) #[] #[]]).toArray
/-- A know at block k: what it has seen, its maps' blocks and their pairs. -/
structure KnowAt (w : World) (k mt mn mw : Nat) (s : List Int) (T : List (S97 × S99)) (N : List (Int × S102)) (Y : List (S131 × Int)) : Prop where
  len : s.length = 8
  blk : w.heap[k]? = some (.cells (knowCells s mt mn mw) 129 (0, 0))
  t : MapIs CT w mt T
  n : MapIs CN w mn N
  y : MapIs CW w mw Y
  tn : mt ≠ mn
  tw : mt ≠ mw
  nw : mn ≠ mw
theorem KnowAt.at {w w' : World} {k mt mn mw : Nat} {s : List Int} {T : List (S97 × S99)} {N : List (Int × S102)} {Y : List (S131 × Int)} (h : KnowAt w k mt mn mw s T N Y) (hk : ∀ i, i = k ∨ i = mt ∨ i = mn ∨ i = mw → w'.heap[i]? = w.heap[i]?) : KnowAt w' k mt mn mw s T N Y :=
  ⟨h.len, (hk k (.inl rfl)).trans h.blk, h.t.at (hk mt (.inr (.inl rfl))), h.n.at (hk mn (.inr (.inr (.inl rfl)))), h.y.at (hk mw (.inr (.inr (.inr rfl)))), h.tn, h.tw, h.nw⟩
theorem KnowAt.lt {w : World} {k mt mn mw : Nat} {s : List Int} {T : List (S97 × S99)} {N : List (Int × S102)} {Y : List (S131 × Int)} (h : KnowAt w k mt mn mw s T N Y) : k < w.heap.size ∧ mt < w.heap.size ∧ mn < w.heap.size ∧ mw < w.heap.size :=
  ⟨(Array.getElem?_eq_some_iff.1 h.blk).1, h.t.lt, h.n.lt, h.y.lt⟩
theorem KnowAt.below {w w' : World} {k mt mn mw : Nat} {s : List Int} {T : List (S97 × S99)} {N : List (Int × S102)} {Y : List (S131 × Int)} (h : KnowAt w k mt mn mw s T N Y) (hb : Below w.heap.size w w') : KnowAt w' k mt mn mw s T N Y :=
  h.at (fun i hi => by
    obtain ⟨h1, h2, h3, h4⟩ := h.lt
    rcases hi with rfl | rfl | rfl | rfl
    · exact hb.block _ h1
    · exact hb.block _ h2
    · exact hb.block _ h3
    · exact hb.block _ h4)
end Go.Proofs.YtmeaeapopfcmbaaGreat

namespace Go.Proofs.YtmeaeapopfcmbaaGreat
open Go.ChangeShapes Go.WideShapes Go.MapKept Go.ChangeMaps Go.WideElems
open Go.WideMaps (KeyLaw)
set_option linter.unusedVariables false
set_option linter.unusedSimpArgs false
section
variable {H : Type} {P : Program} {w : World} {t k e : TypeId} {R : Value → Option (DataW H × List MemPlace)} {b : Nat} {es : Array MapEntry} {clock : Nat}
/-- The entry that is found or made: the map is as if its value had been put again. -/
theorem entry_as_put (K : KeyLaw P k) (ht : P.underlying t = some (.map k e)) {z : Value} (hz : ∀ u : World, (zeroValue e).run P u = .ok z u) (hb : w.heap[b]? = some (.map es clock)) (F : Fit P k R es clock)
    {key : Value} {kl : Lit} (hkey : keyOf P k key = some kl) :
    ∃ (v0 : Value) (st : Nat) (es1 : Array MapEntry) (clock1 : Nat), (Instr.mapEntry t (.map (some b)) key).run P w = .ok (.tuple #[v0, goInt st]) (setBlock w b (.map es1 clock1)) ∧
      (Instr.mapUpdate t (.map (some b)) key v0).run P w = .ok () (setBlock w b (.map es1 clock1)) ∧
      (Instr.lookup t (.map (some b)) key false).run P w = .ok v0 w ∧
      (∀ (w2 : World) (val : Value), w2.heap[b]? = some (.map es1 clock1) → ∃ es' clock', (Instr.entryStore t (.map (some b)) (goInt st) val).run P w2 = .ok () (setBlock w2 b (.map es' clock')) ∧
        (Instr.mapUpdate t (.map (some b)) key val).run P w = .ok () (setBlock w b (.map es' clock'))) := by
  obtain ⟨s1, s2, _⟩ := F.stamped
  rcases K.find w hkey es.toList F.keys with ⟨h1, h2⟩ | ⟨j, e0, h1, h2, h3⟩
  · refine ⟨z, clock, es.push ⟨key, z, clock⟩, clock + 1, ?_, ?_, ?_, ?_⟩
    · simp [Instr.mapEntry, run_underlying ht, MapKept.run_getObj_map hb, K.check w false hkey, h1, hz, MapKept.run_setObj_map _ hb, Result.andThen, setBlock]
    · simp [Instr.mapUpdate, run_underlying ht, MapKept.run_getObj_map hb, K.check w false hkey, h1, MapKept.run_setObj_map _ hb, Result.andThen, setBlock]
    · simp [Instr.lookup, run_underlying ht, MapKept.run_getObj_map hb, K.check w es.isEmpty hkey, h1, hz, Result.andThen]
    · intro w2 val hw2
      refine ⟨es.push ⟨key, val, clock⟩, clock + 1, ?_, ?_⟩
      · have hidx : (es.push ⟨key, z, clock⟩).findIdx? (fun e => ((e.born : Nat) : Int) == ((clock : Nat) : Int)) = some es.size := by
          rw [findIdx_arr]
          have := findIdx_born (l := (es.push ⟨key, z, clock⟩).toList) (j := es.size) (e0 := ⟨key, z, clock⟩) (by
            simp only [Array.toList_push, List.map_append, List.map_cons, List.map_nil]
            refine List.nodup_append.2 ⟨s2, by simp, fun a ha c hc e1 => ?_⟩
            simp only [List.mem_singleton] at hc
            obtain ⟨x, hx, rfl⟩ := List.mem_map.1 ha
            have := s1 x hx
            omega) (by simp)
          exact this
        have hmod : (es.push ⟨key, z, clock⟩).modify es.size (fun e => { e with val := val }) = es.push ⟨key, val, clock⟩ := by
          apply Array.ext'
          rw [Array.toList_modify, Array.toList_push, Array.toList_push, ← Array.length_toList, modify_last]
        simp [Instr.entryStore, MapKept.run_getObj_map hw2, asInt, asIntOf, goInt, hidx, hmod, MapKept.run_setObj_map _ hw2, Result.andThen, setBlock]
      · simp [Instr.mapUpdate, run_underlying ht, MapKept.run_getObj_map hb, K.check w false hkey, h1, MapKept.run_setObj_map _ hb, Result.andThen, setBlock]
  · have hj : es[j]? = some e0 := by simpa using h2
    have hsame : es.modify j (fun e => { e with key := key }) = es := by
      apply Array.ext'
      rw [Array.toList_modify, modify_eq_set _ _ _ _ h2]
      have : ({ e0 with key := key } : MapEntry) = e0 := by rw [← h3]
      rw [this]
      exact set_self _ _ _ h2
    have hsame2 : es.modify j (fun e => { e with key := key, val := e0.val }) = es := by
      apply Array.ext'
      rw [Array.toList_modify, modify_eq_set _ _ _ _ h2]
      have : ({ e0 with key := key, val := e0.val } : MapEntry) = e0 := by rw [← h3]
      rw [this]
      exact set_self _ _ _ h2
    refine ⟨e0.val, e0.born, es, clock, ?_, ?_, ?_, ?_⟩
    · simp [Instr.mapEntry, run_underlying ht, MapKept.run_getObj_map hb, K.check w false hkey, h1, hj, h3, K.stays w hkey, hsame, MapKept.run_setObj_map _ hb, Result.andThen, setBlock]
    · simp [Instr.mapUpdate, run_underlying ht, MapKept.run_getObj_map hb, K.check w false hkey, h1, hj, h3, K.stays w hkey, hsame2, MapKept.run_setObj_map _ hb, Result.andThen, setBlock]
    · simp [Instr.lookup, run_underlying ht, MapKept.run_getObj_map hb, K.check w es.isEmpty hkey, h1, Result.andThen]
    · intro w2 val hw2
      refine ⟨es.modify j (fun e' => { e' with key := key, val := val }), clock, ?_, ?_⟩
      · have hidx : es.findIdx? (fun e => ((e.born : Nat) : Int) == ((e0.born : Nat) : Int)) = some j := by
          rw [findIdx_arr]
          exact findIdx_born s2 h2
        have hmod : es.modify j (fun e => { e with val := val }) = es.modify j (fun e' => { e' with key := key, val := val }) := by
          apply Array.ext'
          rw [Array.toList_modify, Array.toList_modify, modify_eq_set _ _ _ _ h2, modify_eq_set _ _ _ _ h2, ← h3]
        simp [Instr.entryStore, MapKept.run_getObj_map hw2, asInt, asIntOf, goInt, hidx, hmod, MapKept.run_setObj_map _ hw2, Result.andThen, setBlock]
      · simp [Instr.mapUpdate, run_underlying ht, MapKept.run_getObj_map hb, K.check w false hkey, h1, hj, h3, K.stays w hkey, MapKept.run_setObj_map _ hb, Result.andThen, setBlock]
end
theorem klawW : KeyLaw Tryz.prog 131 := deep_law_laid (by kernel_rfl) (m := 2) (by omega) (of_decide_eq_true (by kernel_rfl)) (by kernel_rfl) (by kernel_rfl)
/-- An entry of the ways. -/
theorem MapIs.entry {w : World} {b : Nat} {L : List (S131 × Int)} (h : MapIs CW w b L) (hr : L.length < maxLen) {a : S131} (ha : okW a) :
    ∃ (st : Nat) (w1 : World), (Instr.mapEntry 124 (.map (some b)) (vW a)).run Tryz.prog w = .ok (.tuple #[.int .i64 ((mget L a).getD 0), goInt st]) w1 ∧ MapIs CW w1 b (mput L a ((mget L a).getD 0)) ∧ w.mapTurned w1 b ∧
      ∀ (w2 : World) (val : Int), w2.heap[b]? = w1.heap[b]? → ∃ w3, (Instr.entryStore 124 (.map (some b)) (goInt st) (.int .i64 val)).run Tryz.prog w2 = .ok () w3 ∧ MapIs CW w3 b (mput L a val) ∧ w2.mapTurned w3 b := by
  have hlook := h.look ha
  have hput := fun v => h.put hr ha v
  obtain ⟨ds, ⟨es, clock, hb, F, _⟩, _⟩ := h
  obtain ⟨v0, st, es1, clock1, e1, e2, e3, e4⟩ := entry_as_put klawW Tryz.underlying124 (z := .int .i64 0) Tryz.zeroValue3 hb F (keyW a ha)
  have hv : v0 = .int .i64 ((mget L a).getD 0) := by
    have := e3.symm.trans hlook
    injection this
  subst hv
  refine ⟨st, setBlock w b (.map es1 clock1), e1, ?_, ⟨_, _, _, _, hb, rfl⟩, ?_⟩
  · obtain ⟨w', p1, p2, _⟩ := hput ((mget L a).getD 0)
    have : w' = setBlock w b (.map es1 clock1) := by
      have := p1.symm.trans e2
      injection this
    rw [← this]
    exact p2
  · intro w2 val hw2
    have hs : (setBlock w b (.map es1 clock1)).heap[b]? = some (.map es1 clock1) := heap_setBlock_same hb _
    obtain ⟨es', clock', q1, q2⟩ := e4 w2 (.int .i64 val) (hw2.trans hs)
    obtain ⟨w', p1, p2, _⟩ := hput val
    have hw' : w' = setBlock w b (.map es' clock') := by
      have := p1.symm.trans q2
      injection this
    refine ⟨_, q1, ?_, ⟨_, _, _, _, hw2.trans hs, rfl⟩⟩
    refine p2.at ?_
    rw [hw', heap_setBlock_same hb _]
    exact heap_setBlock_same (hw2.trans hs) _
end Go.Proofs.YtmeaeapopfcmbaaGreat

namespace Go.Proofs.YtmeaeapopfcmbaaGreat
open Go.RowKit Go.Proofs.YtmeaeapopfcmbaaGreatW.PrintWords Go.Proofs.YtmeaeapopfcmbaaGreatW.PrintLast Go.Proofs.YtmeaeapopfcmbaaGreatW.PrintMore PP
set_option linter.unusedVariables false
set_option linter.unusedSimpArgs false
/-- A fact that the walk's simp doesn't look into. -/
structure Hd (p : Prop) : Prop where mk :: (out : p)
/-- A replica's two words at block r. -/
def RepBlk (w : World) (r : Nat) (o : Int) (kp : Option Addr) : Prop := w.heap[r]? = some (.cells #[.int .i64 o, .pointer kp] 86 (0, 0))
theorem cell_of {w : World} {r t : Nat} {cs : Array Value} (h : w.heap[r]? = some (.cells cs t (0, 0))) (i : Nat) {v : Value} (hv : cs[i]? = some v) : w.cell? ⟨r, i, none⟩ = some v := by
  unfold World.cell?
  simp [h, hv]
theorem frozen_of {w : World} {r t : Nat} {cs : Array Value} (h : w.heap[r]? = some (.cells cs t (0, 0))) (i : Nat) (s : Option Nat) : w.frozen? ⟨r, i, s⟩ = false := by
  unfold World.frozen?
  simp [h]
theorem RepBlk.o {w : World} {r : Nat} {o : Int} {kp : Option Addr} (h : RepBlk w r o kp) : w.cell? ⟨r, 0, none⟩ = some (.int .i64 o) := cell_of h 0 rfl
theorem RepBlk.k {w : World} {r : Nat} {o : Int} {kp : Option Addr} (h : RepBlk w r o kp) : w.cell? ⟨r, 1, none⟩ = some (.pointer kp) := cell_of h 1 rfl
/-- No replica: nil, or one without a know. -/
def NoRep (w : World) (p : Option Addr) : Prop := p = none ∨ ∃ r o, p = some ⟨r, 0, none⟩ ∧ RepBlk w r o none
set_option maxHeartbeats 2000000
theorem made_yes (w : World) (r k : Nat) (o : Int) (h : RepBlk w r o (some ⟨k, 0, none⟩)) : Calls Tryz.prog 61 #[.pointer (some ⟨r, 0, none⟩)] w fun e w' => e = .returned (.bool true) ∧ w' = w := by
  have h1 := h.k
  go_enter Tryz.func61, Tryz.ntmps61
  go_wp2
  go_ret
  exact ⟨rfl, rfl⟩
theorem made_no (w : World) (p : Option Addr) (h : NoRep w p) : Calls Tryz.prog 61 #[.pointer p] w fun e w' => e = .returned (.bool false) ∧ w' = w := by
  rcases h with rfl | ⟨r, o, rfl, h⟩
  · go_enter Tryz.func61, Tryz.ntmps61
    go_wp2
    go_ret
    exact ⟨rfl, rfl⟩
  · have h1 := h.k
    go_enter Tryz.func61, Tryz.ntmps61
    go_wp2
    go_ret
    exact ⟨rfl, rfl⟩
theorem checked_yes (w : World) (r k : Nat) (o : Int) (h : RepBlk w r o (some ⟨k, 0, none⟩)) (ok : Bool) : Calls Tryz.prog 64 #[.pointer (some ⟨r, 0, none⟩), .bool ok] w fun e w' => e = .returned (.int .i64 (if ok = true then 0 else 2)) ∧ w' = w := by
  have c := made_yes w r k o h
  go_enter Tryz.func64, Tryz.ntmps64
  go_wp2_with fail
  refine c.mono ?_
  rintro e w' ⟨rfl, rfl⟩
  cases ok <;> go_wp2 <;> go_ret <;> exact ⟨rfl, rfl⟩
theorem checked_no (w : World) (p : Option Addr) (h : NoRep w p) (ok : Bool) : Calls Tryz.prog 64 #[.pointer p, .bool ok] w fun e w' => e = .returned (.int .i64 1) ∧ w' = w := by
  have c := made_no w p h
  go_enter Tryz.func64, Tryz.ntmps64
  go_wp2_with fail
  refine c.mono ?_
  rintro e w' ⟨rfl, rfl⟩
  go_wp2
  go_ret
  exact ⟨rfl, rfl⟩
theorem own_rep (w : World) (r : Nat) (o : Int) (kp : Option Addr) (h : RepBlk w r o kp) : Calls Tryz.prog 94 #[.pointer (some ⟨r, 0, none⟩)] w fun e w' => e = .returned (.int .i64 o) ∧ w' = w := by
  have h1 := h.o
  go_enter Tryz.func94, Tryz.ntmps94
  go_wp2
  go_ret
  exact ⟨rfl, rfl⟩
theorem own_nil (w : World) : Calls Tryz.prog 94 #[.pointer none] w fun e w' => e = .returned (.int .i64 0) ∧ w' = w := by
  go_enter Tryz.func94, Tryz.ntmps94
  go_wp2
  go_ret
  exact ⟨rfl, rfl⟩
end Go.Proofs.YtmeaeapopfcmbaaGreat

namespace Go.Proofs.YtmeaeapopfcmbaaGreat
open Go.RowKit Go.Proofs.YtmeaeapopfcmbaaGreatW.PrintWords Go.Proofs.YtmeaeapopfcmbaaGreatW.PrintLast Go.Proofs.YtmeaeapopfcmbaaGreatW.PrintMore PP
set_option linter.unusedVariables false
set_option linter.unusedSimpArgs false
/-- A know whose blocks lie at or above B. -/
structure KnowNew (B : Nat) (w : World) (k mt mn mw : Nat) (s : List Int) (T : List (S97 × S99)) (N : List (Int × S102)) (Y : List (S131 × Int)) : Prop where
  at_ : KnowAt w k mt mn mw s T N Y
  k_ : B ≤ k
  t_ : B ≤ mt
  n_ : B ≤ mn
  w_ : B ≤ mw
def zeros8 : List Int := [0, 0, 0, 0, 0, 0, 0, 0]
set_option maxHeartbeats 2000000
theorem MapIs.al {α β : Type} {C : MK Tryz.prog α β} {w : World} {b : Nat} {L : List (α × β)} (h : MapIs C w b L) (o : Obj) : MapIs C (w.alloc o) b L := h.kept (World.grownBy_alloc w o none) (by simp)
theorem empty_run (w : World) : Calls Tryz.prog 63 #[] w fun e w' => ∃ k mt mn mw, e = .returned (.pointer (some ⟨k, 0, none⟩)) ∧ KnowNew w.heap.size w' k mt mn mw zeros8 [] [] [] ∧ Below w.heap.size w w' := by
  have hmm := @run_makeMap Tryz.prog
  have M1 := Hd.mk (MapIs.made CT)
  have M2 := Hd.mk (MapIs.made CN)
  have M3 := Hd.mk (MapIs.made CW)
  go_enter Tryz.func63, Tryz.ntmps63
  go_wp2
  go_ret
  have s1 : (w.alloc (.map #[] 0)).heap.size = w.heap.size + 1 := by simp
  have s2 : ((w.alloc (.map #[] 0)).alloc (.map #[] 0)).heap.size = w.heap.size + 2 := by simp
  have s3 : (((w.alloc (.map #[] 0)).alloc (.map #[] 0)).alloc (.map #[] 0)).heap.size = w.heap.size + 3 := by simp
  have m1 := (((M1.out w).al (.map #[] 0)).al (.map #[] 0))
  have m2 := (M2.out (w.alloc (.map #[] 0))).al (.map #[] 0)
  have m3 := M3.out ((w.alloc (.map #[] 0)).alloc (.map #[] 0))
  rw [s1] at m2
  rw [s2] at m3
  refine ⟨w.heap.size + 3, w.heap.size, w.heap.size + 1, w.heap.size + 2, by simp, ⟨⟨rfl, ?_, m1.al _, m2.al _, m3.al _, by omega, by omega, by omega⟩, by omega, by omega, by omega, by omega⟩, (below_alloc (below_alloc (below_alloc (below_alloc (Below.refl _ _) _) _) _) _)⟩
  rw [← s3, (MapKept.heap_alloc _ _).1]
  rfl
theorem upto_run (w : World) (a b : Int) (r : Bool) (hr : (decide (0 ≤ a) && decide (a ≤ b)) = r) : Calls Tryz.prog 52 #[.int .i64 a, .int .i64 b] w fun e w' => e = .returned (.bool r) ∧ Below w.heap.size w w' :=
  (replica_upto.calls a b r w (by unfold replica_upto.f; subst hr; by_cases h : 0 ≤ a <;> simp [h])).mono (fun e w' h => ⟨h.1, h.2.below⟩)
theorem new_ok (w : World) (o : Int) (h0 : 0 ≤ o) (h7 : o ≤ 7) : Calls Tryz.prog 25 #[.int .i64 o] w fun e w' => ∃ r k mt mn mw, e = .returned (.tuple #[.pointer (some ⟨r, 0, none⟩), .int .i64 0]) ∧ w.heap.size ≤ r ∧ RepBlk w' r o (some ⟨k, 0, none⟩) ∧ KnowNew w.heap.size w' k mt mn mw zeros8 [] [] [] ∧ Below w.heap.size w w' := by
  have U := Hd.mk (fun W => upto_run W o 7 true (by simp [h0, h7]))
  have E := Hd.mk empty_run
  go_enter Tryz.func25, Tryz.ntmps25
  go_wp2_with fail
  refine (U.out _).mono ?_
  rintro e w1 ⟨rfl, hb1⟩
  have B1 := Hd.mk hb1
  clear hb1
  go_wp2_with fail
  refine (E.out _).mono ?_
  rintro e w2 ⟨k, mt, mn, mw, rfl, hn, hb2⟩
  have B2 := Hd.mk (below_step B1.out hb2)
  have KN := Hd.mk hn
  clear hb2 hn
  go_wp2_with fail
  go_ret2
  refine ⟨_, k, mt, mn, mw, rfl, B2.out.size, (MapKept.heap_alloc _ _).1, ⟨KN.out.at_.below (below_alloc (Below.refl _ _) _), ?_, ?_, ?_, ?_⟩, below_alloc B2.out _⟩
  · exact Nat.le_trans B1.out.size KN.out.k_
  · exact Nat.le_trans B1.out.size KN.out.t_
  · exact Nat.le_trans B1.out.size KN.out.n_
  · exact Nat.le_trans B1.out.size KN.out.w_
theorem new_no (w : World) (o : Int) (h : ¬(0 ≤ o ∧ o ≤ 7)) : Calls Tryz.prog 25 #[.int .i64 o] w fun e w' => e = .returned (.tuple #[.pointer none, .int .i64 2]) ∧ Below w.heap.size w w' := by
  have U := Hd.mk (fun W => upto_run W o 7 false (by simp; omega))
  go_enter Tryz.func25, Tryz.ntmps25
  go_wp2_with fail
  refine (U.out _).mono ?_
  rintro e w1 ⟨rfl, hb1⟩
  go_wp2_with fail
  go_ret2
  exact ⟨rfl, hb1⟩
end Go.Proofs.YtmeaeapopfcmbaaGreat

namespace Go.Proofs.YtmeaeapopfcmbaaGreat
open Go.RowKit Go.Proofs.YtmeaeapopfcmbaaGreatW.PrintWords Go.Proofs.YtmeaeapopfcmbaaGreatW.PrintLast Go.Proofs.YtmeaeapopfcmbaaGreatW.PrintMore PP
set_option linter.unusedVariables false
set_option linter.unusedSimpArgs false
set_option maxHeartbeats 2000000
set_option maxRecDepth 100000
theorem compareString_run (a b : ByteArray) (w : World) : Calls Tryz.prog 160 #[.string a, .string b] w fun e w' => e = .returned (.int .i64 (Lib.compareBytes a.data.toList b.data.toList)) ∧ w' = w := by
  go_enter Tryz.func160, Tryz.ntmps160
  go_wp2_with fail
  rw [run_callFunc_extern Tryz.func199 (by kernel_rfl) (by kernel_rfl) (by kernel_rfl) (e := Extern.BytealgCompare.compare) (by kernel_rfl), Lib.run_compareString]
  simp only [Result.andThen]
  rw [Oper.upon_value]
  go_wp2
  go_ret
  exact ⟨rfl, rfl⟩
theorem stringsCompare_run (a b : ByteArray) (w : World) : Calls Tryz.prog 141 #[.string a, .string b] w fun e w' => e = .returned (.int .i64 (Lib.compareBytes a.data.toList b.data.toList)) ∧ w' = w := by
  have c := Hd.mk (compareString_run a b)
  go_enter Tryz.func141, Tryz.ntmps141
  go_wp2_with fail
  refine (c.out _).mono ?_
  rintro e w' ⟨rfl, rfl⟩
  go_wp2
  go_ret
  exact ⟨rfl, rfl⟩
end Go.Proofs.YtmeaeapopfcmbaaGreat

namespace Go.Proofs.YtmeaeapopfcmbaaGreat
open PP
set_option linter.unusedVariables false
set_option linter.unusedSimpArgs false
/-- A comparison that orders. -/
structure GC {α : Type} (c : α → α → Int) : Prop where
  sw : ∀ x y, c y x = - c x y
  tr : ∀ x y z, c x y ≤ 0 → c y z ≤ 0 → c x z ≤ 0
namespace GC
variable {α : Type} {c : α → α → Int}
theorem self (h : GC c) (x : α) : c x x = 0 := by have := h.sw x x; omega
theorem lt_le (h : GC c) {x y z : α} (h1 : c x y < 0) (h2 : c y z ≤ 0) : c x z < 0 := by
  have a := h.tr x y z (by omega) h2
  by_cases e : c x z = 0
  · have b := h.tr y z x h2 (by have := h.sw x z; omega)
    have := h.sw x y
    omega
  · omega
theorem le_lt (h : GC c) {x y z : α} (h1 : c x y ≤ 0) (h2 : c y z < 0) : c x z < 0 := by
  have a := h.tr x y z h1 (by omega)
  by_cases e : c x z = 0
  · have b := h.tr z x y (by have := h.sw x z; omega) h1
    have := h.sw y z
    omega
  · omega
theorem eq_tr (h : GC c) {x y z : α} (h1 : c x y = 0) (h2 : c y z = 0) : c x z = 0 := by
  have a := h.tr x y z (by omega) (by omega)
  have b := h.tr z y x (by have := h.sw y z; omega) (by have := h.sw x y; omega)
  have := h.sw x z
  omega
theorem pull (h : GC c) {β : Type} (f : β → α) : GC (fun x y => c (f x) (f y)) := ⟨fun x y => h.sw _ _, fun x y z => h.tr _ _ _⟩
end GC
def or2 (a b : Int) : Int := if a = 0 then b else a
theorem GC.or {α : Type} {c d : α → α → Int} (hc : GC c) (hd : GC d) : GC (fun x y => or2 (c x y) (d x y)) where
  sw x y := by
    have h1 := hc.sw x y
    have h2 := hd.sw x y
    simp only [or2]
    split <;> split <;> omega
  tr x y z h1 h2 := by
    simp only [or2] at *
    by_cases e1 : c x y = 0
    · by_cases e2 : c y z = 0
      · rw [if_pos e1] at h1
        rw [if_pos e2] at h2
        rw [if_pos (hc.eq_tr e1 e2)]
        exact hd.tr x y z h1 h2
      · rw [if_neg e2] at h2
        have := hc.le_lt (x := x) (y := y) (z := z) (by omega) (by omega)
        rw [if_neg (by omega)]
        omega
    · rw [if_neg e1] at h1
      have hyz : c y z ≤ 0 := by
        by_cases e2 : c y z = 0
        · omega
        · rw [if_neg e2] at h2; exact h2
      have := hc.lt_le (x := x) (y := y) (z := z) (by omega) hyz
      rw [if_neg (by omega)]
      omega
def cmpI (a b : Int) : Int := if a < b then -1 else if b < a then 1 else 0
theorem gcI : GC cmpI where
  sw x y := by unfold cmpI; split <;> split <;> (try split) <;> omega
  tr x y z h1 h2 := by
    unfold cmpI at *
    split at h1 <;> split at h2 <;> split <;> (try split at h1) <;> (try split at h2) <;> (try split) <;> omega
theorem cmpI_lt {a b : Int} : cmpI a b < 0 ↔ a < b := by unfold cmpI; split <;> (try split) <;> omega
theorem cmpI_le {a b : Int} : cmpI a b ≤ 0 ↔ a ≤ b := by unfold cmpI; split <;> (try split) <;> omega
theorem cmpI_eq {a b : Int} : cmpI a b = 0 ↔ a = b := by unfold cmpI; split <;> (try split) <;> omega
theorem cb_sw : ∀ a b : List UInt8, Lib.compareBytes b a = - Lib.compareBytes a b
  | [], [] => rfl
  | [], _ :: _ => rfl
  | _ :: _, [] => rfl
  | a :: l, b :: m => by
    unfold Lib.compareBytes
    by_cases h1 : a < b
    · rw [if_neg (fun h => absurd (UInt8.lt_trans h1 h) (UInt8.lt_irrefl _)), if_pos h1, if_pos h1]; rfl
    · by_cases h2 : b < a
      · rw [if_pos h2, if_neg h1, if_pos h2]
      · rw [if_neg h2, if_neg h1, if_neg h1, if_neg h2]
        exact cb_sw l m
theorem cb_le_cons {a b : UInt8} {l m : List UInt8} : Lib.compareBytes (a :: l) (b :: m) ≤ 0 ↔ a < b ∨ (a = b ∧ Lib.compareBytes l m ≤ 0) := by
  rw [Lib.compareBytes]
  by_cases h1 : a < b
  · rw [if_pos h1]; simp [h1]
  · by_cases h2 : b < a
    · rw [if_neg h1, if_pos h2]
      constructor
      · intro h; exact absurd h (by decide)
      · rintro (h | ⟨rfl, _⟩)
        · exact absurd h h1
        · exact absurd h2 (UInt8.lt_irrefl _)
    · rw [if_neg h1, if_neg h2]
      have e : a = b := UInt8.le_antisymm (UInt8.not_lt.1 h2) (UInt8.not_lt.1 h1)
      simp [e]
theorem cb_tr : ∀ a b c : List UInt8, Lib.compareBytes a b ≤ 0 → Lib.compareBytes b c ≤ 0 → Lib.compareBytes a c ≤ 0
  | [], _, [] => fun _ _ => by decide
  | [], _, _ :: _ => fun _ _ => by simp [Lib.compareBytes]
  | _ :: _, [], _ => fun h _ => absurd h (by simp [Lib.compareBytes])
  | _ :: _, _ :: _, [] => fun _ h => absurd h (by simp [Lib.compareBytes])
  | a :: l, b :: m, c :: n => fun h1 h2 => by
    rw [cb_le_cons] at *
    rcases h1 with h1 | ⟨rfl, h1⟩
    · rcases h2 with h2 | ⟨rfl, h2⟩
      · exact .inl (UInt8.lt_trans h1 h2)
      · exact .inl h1
    · rcases h2 with h2 | ⟨rfl, h2⟩
      · exact .inl h2
      · exact .inr ⟨rfl, cb_tr l m n h1 h2⟩
theorem cb_eq : ∀ a b : List UInt8, Lib.compareBytes a b = 0 ↔ a = b
  | [], [] => by simp [Lib.compareBytes]
  | [], _ :: _ => by simp [Lib.compareBytes]
  | _ :: _, [] => by simp [Lib.compareBytes]
  | a :: l, b :: m => by
    rw [Lib.compareBytes]
    by_cases h1 : a < b
    · rw [if_pos h1]
      constructor
      · intro h; exact absurd h (by decide)
      · intro h; injection h with h _; subst h; exact absurd h1 (UInt8.lt_irrefl _)
    · by_cases h2 : b < a
      · rw [if_neg h1, if_pos h2]
        constructor
        · intro h; exact absurd h (by decide)
        · intro h; injection h with h _; subst h; exact absurd h2 (UInt8.lt_irrefl _)
      · rw [if_neg h1, if_neg h2, cb_eq l m]
        have e : a = b := UInt8.le_antisymm (UInt8.not_lt.1 h2) (UInt8.not_lt.1 h1)
        simp [e]
theorem cb_lt : ∀ a b : List UInt8, Lib.compareBytes a b < 0 ↔ a < b
  | [], [] => by simp [Lib.compareBytes]
  | [], _ :: _ => by simp [Lib.compareBytes]
  | _ :: _, [] => by simp [Lib.compareBytes]
  | a :: l, b :: m => by
    rw [Lib.compareBytes, List.cons_lt_cons_iff]
    by_cases h1 : a < b
    · rw [if_pos h1]; simp [h1]
    · by_cases h2 : b < a
      · rw [if_neg h1, if_pos h2]
        constructor
        · intro h; exact absurd h (by decide)
        · rintro (h | ⟨rfl, _⟩)
          · exact absurd h h1
          · exact absurd h2 (UInt8.lt_irrefl _)
      · rw [if_neg h1, if_neg h2, cb_lt l m]
        have e : a = b := UInt8.le_antisymm (UInt8.not_lt.1 h2) (UInt8.not_lt.1 h1)
        simp [e]
def cmpS (a b : ByteArray) : Int := Lib.compareBytes a.data.toList b.data.toList
theorem gcS : GC cmpS := ⟨fun x y => cb_sw _ _, fun x y z => cb_tr _ _ _⟩
theorem ba_ext {a b : ByteArray} (h : a.data.toList = b.data.toList) : a = b := by
  cases a; cases b
  simp at h
  exact congrArg ByteArray.mk h
theorem cmpS_eq {a b : ByteArray} : cmpS a b = 0 ↔ a = b := by
  unfold cmpS
  rw [cb_eq]
  exact ⟨ba_ext, fun h => by rw [h]⟩
theorem less_iff {a b : ByteArray} : Op.bytesLess a.toList b.toList = true ↔ cmpS a b < 0 := by
  unfold cmpS
  rw [cb_lt, Proofs.bytesLess_eq, decide_eq_true_iff, Lib.toList_data, Lib.toList_data]
theorem same_iff {a b : ByteArray} : a.toList = b.toList ↔ a = b := by
  rw [Lib.toList_data, Lib.toList_data]
  exact ⟨ba_ext, fun h => by rw [h]⟩
/-- The four comparisons. -/
def cmpT (x y : S99) : Int := or2 (cmpI x.f0 y.f0) (or2 (cmpS x.f1 y.f1) (or2 (cmpI x.f2.f0 y.f2.f0) (cmpI x.f2.f1 y.f2.f1)))
def cmpN (x y : S102) : Int := or2 (cmpI x.f2 y.f2) (or2 (cmpI x.f3 y.f3) (cmpS x.f1 y.f1))
def cmpR (x y : S108) : Int := or2 (cmpI x.f0 y.f0) (or2 (cmpI x.f1 y.f1) (cmpI x.f2 y.f2))
def cmpU (x y : S111) : Int := or2 (cmpI x.f0 y.f0) (cmpI x.f1 y.f1)
def cmpM (x y : S102) : Int := cmpI x.f0 y.f0
theorem gcT : GC cmpT := (gcI.pull S99.f0).or ((gcS.pull S99.f1).or ((gcI.pull fun x : S99 => x.f2.f0).or (gcI.pull fun x : S99 => x.f2.f1)))
theorem gcN : GC cmpN := (gcI.pull S102.f2).or ((gcI.pull S102.f3).or (gcS.pull S102.f1))
theorem gcR : GC cmpR := (gcI.pull S108.f0).or ((gcI.pull S108.f1).or (gcI.pull S108.f2))
theorem gcU : GC cmpU := (gcI.pull S111.f0).or (gcI.pull S111.f1)
theorem gcM : GC cmpM := gcI.pull S102.f0
theorem or2_eq {a b : Int} : or2 a b = 0 ↔ a = 0 ∧ b = 0 := by unfold or2; split <;> omega
theorem cmpT_eq {x y : S99} : cmpT x y = 0 ↔ x = y := by
  unfold cmpT
  rw [or2_eq, or2_eq, or2_eq, cmpI_eq, cmpS_eq, cmpI_eq, cmpI_eq]
  obtain ⟨a, b, c, d⟩ := x
  obtain ⟨a', b', c', d'⟩ := y
  simp
theorem cmpR_eq {x y : S108} : cmpR x y = 0 ↔ x.f0 = y.f0 ∧ x.f1 = y.f1 ∧ x.f2 = y.f2 := by
  unfold cmpR
  rw [or2_eq, or2_eq, cmpI_eq, cmpI_eq, cmpI_eq]
theorem cmpU_eq {x y : S111} : cmpU x y = 0 ↔ x.f0 = y.f0 ∧ x.f1 = y.f1 := by
  unfold cmpU
  rw [or2_eq, cmpI_eq, cmpI_eq]
end Go.Proofs.YtmeaeapopfcmbaaGreat

namespace Go.Proofs.YtmeaeapopfcmbaaGreat
open PP
set_option linter.unusedVariables false
set_option linter.unusedSimpArgs false
/-! ### sums -/
def sumF {α : Type} (f : α → Int) : List α → Int
  | [] => 0
  | x :: l => f x + sumF f l
theorem sumF_app {α : Type} (f : α → Int) : ∀ l m : List α, sumF f (l ++ m) = sumF f l + sumF f m
  | [], m => by simp [sumF]
  | x :: l, m => by simp [sumF, sumF_app f l m]; omega
theorem sumF_perm {α : Type} (f : α → Int) {l m : List α} (h : l.Perm m) : sumF f l = sumF f m := by
  induction h with
  | nil => rfl
  | cons x _ ih => simp [sumF, ih]
  | swap x y l => simp [sumF]; omega
  | trans _ _ i1 i2 => exact i1.trans i2
theorem sumF_map {α β : Type} (f : β → Int) (g : α → β) : ∀ l : List α, sumF f (l.map g) = sumF (fun x => f (g x)) l
  | [] => rfl
  | x :: l => by simp [sumF, sumF_map f g l]
theorem sumF_mono {α : Type} {f g : α → Int} : ∀ {l : List α}, (∀ x ∈ l, f x ≤ g x) → sumF f l ≤ sumF g l
  | [], _ => Int.le_refl _
  | x :: l, h => by
    have := h x (by simp)
    have := sumF_mono (l := l) fun y hy => h y (by simp [hy])
    simp [sumF]
    omega
theorem sumF_congr {α : Type} {f g : α → Int} {l : List α} (h : ∀ x ∈ l, f x = g x) : sumF f l = sumF g l :=
  Int.le_antisymm (sumF_mono fun x hx => Int.le_of_eq (h x hx)) (sumF_mono fun x hx => Int.le_of_eq (h x hx).symm)
theorem sumF_add {α : Type} (f g : α → Int) : ∀ l : List α, sumF (fun x => f x + g x) l = sumF f l + sumF g l
  | [] => rfl
  | x :: l => by simp [sumF, sumF_add f g l]; omega
theorem sumF_sub {α : Type} (f g : α → Int) : ∀ l : List α, sumF (fun x => f x - g x) l = sumF f l - sumF g l
  | [] => rfl
  | x :: l => by simp [sumF, sumF_sub f g l]; omega
theorem sumF_zero {α : Type} {f : α → Int} {l : List α} (h : ∀ x ∈ l, f x = 0) : sumF f l = 0 := by
  induction l with
  | nil => rfl
  | cons x l ih => simp [sumF, h x (by simp), ih fun y hy => h y (by simp [hy])]
theorem sumF_bound {α : Type} {f : α → Int} {M : Int} (h0 : 0 ≤ M) : ∀ {l : List α}, (∀ x ∈ l, -M ≤ f x ∧ f x ≤ M) → -(M * l.length) ≤ sumF f l ∧ sumF f l ≤ M * l.length
  | [], _ => by simp [sumF]
  | x :: l, h => by
    have h1 := h x (by simp)
    have h2 := sumF_bound h0 (l := l) fun y hy => h y (by simp [hy])
    have e : M * ((x :: l).length : Int) = M * (l.length : Int) + M := by simp [Int.mul_add]
    rw [e]
    simp [sumF]
    omega
theorem nodup_len : ∀ (n : Nat) (l : List Nat), l.Nodup → (∀ x ∈ l, x < n) → l.length ≤ n
  | 0, l, _, h => by
    cases l with
    | nil => simp
    | cons x l => exact absurd (h x (by simp)) (by omega)
  | n + 1, l, hn, h => by
    have h1 := nodup_len n (l.erase n) (hn.erase n) fun x hx => by
      have h2 := h x (List.mem_of_mem_erase hx)
      have h3 : x ≠ n := fun e => by subst e; exact (List.Nodup.not_mem_erase hn) hx
      omega
    by_cases hm : n ∈ l
    · have := List.length_erase_of_mem hm
      omega
    · rw [List.erase_of_not_mem hm] at h1
      omega
/-! ### lists in order -/
section
variable {α : Type} (c : α → α → Int)
def Asc (l : List α) : Prop := l.Pairwise fun x y => c x y < 0
def ins (x : α) : List α → List α
  | [] => [x]
  | y :: l => if c x y < 0 then x :: y :: l else y :: ins x l
def srt (l : List α) : List α := l.foldr (ins c) []
variable {c}
theorem ins_perm (x : α) : ∀ l : List α, (ins c x l).Perm (x :: l)
  | [] => .refl _
  | y :: l => by
    unfold ins
    split
    · exact .refl _
    · exact ((ins_perm x l).cons y).trans (.swap x y l)
theorem asc_ins (h : GC c) (x : α) : ∀ l : List α, Asc c l → (∀ y ∈ l, c x y ≠ 0) → Asc c (ins c x l)
  | [], _, _ => by simp [ins, Asc]
  | y :: l, hl, hne => by
    unfold ins
    have hl2 := List.pairwise_cons.1 hl
    split
    · rename_i hxy
      refine List.pairwise_cons.2 ⟨fun z hz => ?_, hl⟩
      rcases List.mem_cons.1 hz with rfl | hz
      · exact hxy
      · have := hl2.1 z hz
        exact h.lt_le hxy (by omega)
    · rename_i hxy
      refine List.pairwise_cons.2 ⟨fun z hz => ?_, asc_ins h x l hl2.2 fun z hz => hne z (by simp [hz])⟩
      rcases List.mem_cons.1 ((ins_perm x l).mem_iff.1 hz) with rfl | hz
      · have h1 := hne y (by simp)
        have := h.sw z y
        omega
      · exact hl2.1 z hz
theorem srt_perm : ∀ l : List α, (srt c l).Perm l
  | [] => .refl _
  | x :: l => (ins_perm x (srt c l)).trans ((srt_perm l).cons x)
theorem asc_srt (h : GC c) : ∀ l : List α, l.Pairwise (fun x y => c x y ≠ 0) → Asc c (srt c l)
  | [], _ => by simp [srt, Asc]
  | x :: l, hl => by
    have hl2 := List.pairwise_cons.1 hl
    exact asc_ins h x _ (asc_srt h l hl2.2) fun y hy => hl2.1 y ((srt_perm l).mem_iff.1 hy)
theorem asc_unique (h : GC c) : ∀ l m : List α, Asc c l → Asc c m → l.Perm m → l = m
  | [], m, _, _, hp => hp.nil_eq
  | x :: l, [], _, _, hp => absurd hp.length_eq (by simp)
  | x :: l, y :: m, hl, hm, hp => by
    have hl2 := List.pairwise_cons.1 hl
    have hm2 := List.pairwise_cons.1 hm
    have hxy : x = y := by
      rcases List.mem_cons.1 (hp.mem_iff.1 (List.mem_cons_self)) with e | hx
      · exact e
      · rcases List.mem_cons.1 (hp.mem_iff.2 (List.mem_cons_self)) with e | hy
        · exact e.symm
        · have h1 := hl2.1 y hy
          have h2 := hm2.1 x hx
          have := h.sw x y
          omega
    subst hxy
    rw [asc_unique h l m hl2.2 hm2.2 hp.cons_inv]
theorem Asc.ne (h : GC c) {l : List α} (hl : Asc c l) : l.Pairwise (fun x y => c x y ≠ 0) := hl.imp fun h => by omega
theorem srt_asc (h : GC c) {l : List α} (hl : Asc c l) : srt c l = l := asc_unique h _ _ (asc_srt h l (hl.ne h)) hl (srt_perm l)
theorem srt_eq (h : GC c) {l m : List α} (hn : m.Pairwise (fun x y => c x y ≠ 0)) (hp : l.Perm m) : srt c l = srt c m := by
  have hn' : l.Pairwise (fun x y => c x y ≠ 0) := (hp.pairwise_iff (fun {x y} h1 h2 => h1 (by have := h.sw y x; omega))).2 hn
  exact asc_unique h _ _ (asc_srt h _ hn') (asc_srt h _ hn) ((srt_perm l).trans (hp.trans (srt_perm m).symm))
end
/-! ### states -/
def MC : Int := 1073741824
def inR (lo hi x : Int) : Bool := decide (lo ≤ x) && decide (x ≤ hi)
theorem inR_iff {lo hi x : Int} : inR lo hi x = true ↔ lo ≤ x ∧ x ≤ hi := by simp [inR]
def byteOk (c : UInt8) : Bool := (decide (97 ≤ c) && decide (c ≤ 122)) || (decide (48 ≤ c) && decide (c ≤ 57))
def nameB (b : ByteArray) : Bool := decide (1 ≤ b.size) && decide (b.size ≤ 8) && b.data.toList.all byteOk
/-- How many of an office's tags are seen. -/
def sget (s : List Int) (o : Int) : Int := s.getD o.toNat 0
def tagB (s : List Int) (t : S99) : Bool := inR 0 63 t.f0 && nameB t.f1 && inR 0 7 t.f2.f0 && decide (1 ≤ t.f2.f1) && decide (t.f2.f1 ≤ sget s t.f2.f0)
def noteB (n : S102) : Bool := inR 0 63 n.f0 && decide (n.f1.size ≤ 32) && inR 1 MC n.f2 && inR 0 7 n.f3
def rightB (r : S108) : Bool := inR 0 7 r.f0 && inR 0 7 r.f1 && inR 0 7 r.f2 && inR 1 MC r.f3
def usedB (u : S111) : Bool := inR 0 7 u.f0 && inR 0 7 u.f1 && inR 1 MC u.f2
def wayB (p : S131 × Int) : Bool := inR 0 7 p.1.f0 && inR 0 7 p.1.f1 && inR (-1) 7 p.1.f2 && inR 1 MC p.2
/-- What a way adds to what an office has free of a stock. -/
def conF (s o : Int) (p : S131 × Int) : Int :=
  if p.1.f0 = s then (if p.1.f2 = o then p.2 else 0) - (if p.1.f1 = o ∧ p.1.f2 ≠ o then p.2 else 0) else 0
def conL (s : Int) (p : S131 × Int) : Int :=
  if p.1.f0 = s then (if p.1.f2 = p.1.f1 then p.2 else if p.1.f2 = -1 then - p.2 else 0) else 0
def freeY (Y : List (S131 × Int)) (s o : Int) : Int := sumF (conF s o) Y
def leftY (Y : List (S131 × Int)) (s : Int) : Int := sumF (conL s) Y
/-- The maps of a state's lists. -/
def tagsP (S : S28) : List (S97 × S99) := S.f1.map fun t => (t.f2, t)
def notesP (S : S28) : List (Int × S102) := S.f2.map fun n => (n.f0, n)
def wayR (r : S108) : S131 × Int := (⟨r.f0, r.f1, r.f2⟩, r.f3)
def wayU (u : S111) : S131 × Int := (⟨u.f0, u.f1, -1⟩, u.f2)
def waysP (S : S28) : List (S131 × Int) := S.f3.map wayR ++ S.f4.map wayU
/-- Right. -/
structure Rt (S : S28) : Prop where
  sl : S.f0.length = 8
  sr : ∀ x ∈ S.f0, 0 ≤ x ∧ x ≤ MC
  tl : S.f1.length ≤ 128
  ta : Asc cmpT S.f1
  tr : ∀ t ∈ S.f1, tagB S.f0 t = true
  td : (S.f1.map S99.f2).Nodup
  na : Asc cmpM S.f2
  nr : ∀ n ∈ S.f2, noteB n = true
  ra : Asc cmpR S.f3
  rr : ∀ r ∈ S.f3, rightB r = true
  ua : Asc cmpU S.f4
  ur : ∀ u ∈ S.f4, usedB u = true
  fu : ∀ s o : Int, 0 ≤ s → s ≤ 7 → 0 ≤ o → o ≤ 7 → 0 ≤ freeY (waysP S) s o
/-- What a know's maps keep to. -/
structure Kv (s : List Int) (T : List (S97 × S99)) (N : List (Int × S102)) (Y : List (S131 × Int)) : Prop where
  sl : s.length = 8
  sr : ∀ x ∈ s, 0 ≤ x ∧ x ≤ MC
  tk : ∀ p ∈ T, p.1 = p.2.f2 ∧ tagB s p.2 = true
  tn : (T.map Prod.fst).Nodup
  nk : ∀ p ∈ N, p.1 = p.2.f0 ∧ noteB p.2 = true
  nn : (N.map Prod.fst).Nodup
  yk : ∀ p ∈ Y, wayB p = true
  yn : (Y.map Prod.fst).Nodup
def toR (p : S131 × Int) : Option S108 := if p.1.f2 = -1 then none else some ⟨p.1.f0, p.1.f1, p.1.f2, p.2⟩
def toU (p : S131 × Int) : Option S111 := if p.1.f2 = -1 then some ⟨p.1.f0, p.1.f1, p.2⟩ else none
/-- The state of a know. -/
def mkS (s : List Int) (T : List (S97 × S99)) (N : List (Int × S102)) (Y : List (S131 × Int)) : S28 :=
  ⟨s, srt cmpT (T.map Prod.snd), srt cmpM (N.map Prod.snd), srt cmpR (Y.filterMap toR), srt cmpU (Y.filterMap toU)⟩
theorem nodup_key {α β : Type} {L : List (α × β)} (h : (L.map Prod.fst).Nodup) : L.Pairwise fun p q => p.1 ≠ q.1 := List.pairwise_map.1 h
theorem key_nodup {α β : Type} {L : List (α × β)} (h : L.Pairwise fun p q => p.1 ≠ q.1) : (L.map Prod.fst).Nodup := List.pairwise_map.2 h
section
variable {s : List Int} {T : List (S97 × S99)} {N : List (Int × S102)} {Y : List (S131 × Int)}
theorem Kv.pT (h : Kv s T N Y) : (T.map Prod.snd).Pairwise fun x y => cmpT x y ≠ 0 := by
  rw [List.pairwise_map]
  refine List.Pairwise.imp_of_mem (fun {p q} hp hq hne e => hne ?_) (nodup_key h.tn)
  rw [(h.tk p hp).1, (h.tk q hq).1, cmpT_eq.1 e]
theorem Kv.pN (h : Kv s T N Y) : (N.map Prod.snd).Pairwise fun x y => cmpM x y ≠ 0 := by
  rw [List.pairwise_map]
  refine List.Pairwise.imp_of_mem (fun {p q} hp hq hne e => hne ?_) (nodup_key h.nn)
  rw [(h.nk p hp).1, (h.nk q hq).1]
  exact cmpI_eq.1 e
theorem toR_some {p : S131 × Int} {r : S108} (h : toR p = some r) : p = wayR r ∧ p.1.f2 ≠ -1 := by
  unfold toR at h
  split at h
  · exact absurd h (by simp)
  · obtain rfl := Option.some.inj h
    exact ⟨rfl, ‹_›⟩
theorem toU_some {p : S131 × Int} {u : S111} (h : toU p = some u) : p = wayU u := by
  unfold toU at h
  split at h
  · rename_i e
    obtain rfl := Option.some.inj h
    obtain ⟨⟨a, b, d⟩, v⟩ := p
    simp at e
    subst e
    rfl
  · exact absurd h (by simp)
theorem pR (h : (Y.map Prod.fst).Nodup) : (Y.filterMap toR).Pairwise fun x y => cmpR x y ≠ 0 := by
  rw [List.pairwise_filterMap]
  refine (nodup_key h).imp fun {p q} hne r hr r' hr' e => hne ?_
  rw [(toR_some hr).1, (toR_some hr').1]
  obtain ⟨e1, e2, e3⟩ := cmpR_eq.1 e
  simp [wayR, e1, e2, e3]
theorem pU (h : (Y.map Prod.fst).Nodup) : (Y.filterMap toU).Pairwise fun x y => cmpU x y ≠ 0 := by
  rw [List.pairwise_filterMap]
  refine (nodup_key h).imp fun {p q} hne r hr r' hr' e => hne ?_
  rw [toU_some hr, toU_some hr']
  obtain ⟨e1, e2⟩ := cmpU_eq.1 e
  simp [wayU, e1, e2]
theorem ways_split (Y : List (S131 × Int)) : ((Y.filterMap toR).map wayR ++ (Y.filterMap toU).map wayU).Perm Y := by
  induction Y with
  | nil => exact .refl _
  | cons p Y ih =>
    rw [List.filterMap_cons, List.filterMap_cons]
    cases hr : toR p with
    | some r =>
      obtain ⟨e, hne⟩ := toR_some hr
      have hu : toU p = none := by unfold toU; rw [if_neg hne]
      simp only [hu]
      rw [List.map_cons, ← e]
      exact ih.cons p
    | none =>
      have hu : ∃ u, toU p = some u := by
        unfold toR at hr
        unfold toU
        split at hr
        · rename_i e; rw [if_pos e]; exact ⟨_, rfl⟩
        · exact absurd hr (by simp)
      obtain ⟨u, hu⟩ := hu
      simp only [hu]
      rw [List.map_cons, ← toU_some hu]
      exact List.perm_middle.trans (ih.cons p)
theorem Kv.tags (h : Kv s T N Y) : (tagsP (mkS s T N Y)).Perm T := by
  unfold tagsP mkS
  refine ((srt_perm _).map _).trans (List.Perm.of_eq ?_)
  rw [List.map_map]
  conv => rhs; rw [← List.map_id T]
  exact List.map_congr_left fun p hp => Prod.ext (h.tk p hp).1.symm rfl
theorem Kv.notes (h : Kv s T N Y) : (notesP (mkS s T N Y)).Perm N := by
  unfold notesP mkS
  refine ((srt_perm _).map _).trans (List.Perm.of_eq ?_)
  rw [List.map_map]
  conv => rhs; rw [← List.map_id N]
  exact List.map_congr_left fun p hp => Prod.ext (h.nk p hp).1.symm rfl
theorem ways_mk : (waysP (mkS s T N Y)).Perm Y :=
  (((srt_perm _).map _).append ((srt_perm _).map _)).trans (ways_split Y)
theorem freeY_mk (k o : Int) : freeY (waysP (mkS s T N Y)) k o = freeY Y k o := sumF_perm _ ways_mk
theorem mkS_perm {T' : List (S97 × S99)} {N' : List (Int × S102)} {Y' : List (S131 × Int)} (h : Kv s T N Y) (hT : T'.Perm T) (hN : N'.Perm N) (hY : Y'.Perm Y) : mkS s T' N' Y' = mkS s T N Y := by
  unfold mkS
  rw [srt_eq gcT h.pT (hT.map _), srt_eq gcM h.pN (hN.map _), srt_eq gcR (pR h.yn) (hY.filterMap _), srt_eq gcU (pU h.yn) (hY.filterMap _)]
/-- A know's state is right, when its tags are not too many and nothing is overdrawn. -/
theorem Kv.rt (h : Kv s T N Y) (hl : T.length ≤ 128) (hf : ∀ k o : Int, 0 ≤ k → k ≤ 7 → 0 ≤ o → o ≤ 7 → 0 ≤ freeY Y k o) : Rt (mkS s T N Y) where
  sl := h.sl
  sr := h.sr
  tl := by show (srt cmpT (T.map Prod.snd)).length ≤ 128; rw [(srt_perm _).length_eq, List.length_map]; exact hl
  ta := asc_srt gcT _ h.pT
  tr := fun t ht => by
    obtain ⟨p, hp, rfl⟩ := List.mem_map.1 ((srt_perm _).mem_iff.1 ht)
    exact (h.tk p hp).2
  td := by
    have h1 := ((h.tags).map Prod.fst).nodup_iff.2 h.tn
    unfold tagsP at h1
    rw [List.map_map] at h1
    exact h1
  na := asc_srt gcM _ h.pN
  nr := fun t ht => by
    obtain ⟨p, hp, rfl⟩ := List.mem_map.1 ((srt_perm _).mem_iff.1 ht)
    exact (h.nk p hp).2
  ra := asc_srt gcR _ (pR h.yn)
  rr := fun r hr => by
    obtain ⟨p, hp, e⟩ := List.mem_filterMap.1 ((srt_perm _).mem_iff.1 hr)
    obtain ⟨rfl, hne⟩ := toR_some e
    have h1 := h.yk _ hp
    simp only [wayB, wayR, rightB, Bool.and_eq_true, inR_iff] at *
    omega
  ua := asc_srt gcU _ (pU h.yn)
  ur := fun u hu => by
    obtain ⟨p, hp, e⟩ := List.mem_filterMap.1 ((srt_perm _).mem_iff.1 hu)
    obtain rfl := toU_some e
    have h1 := h.yk _ hp
    simp only [wayB, wayU, usedB, Bool.and_eq_true, inR_iff] at *
    omega
  fu := fun k o a b c d => by rw [freeY_mk]; exact hf k o a b c d
end
theorem toR_wayR {r : S108} (h : rightB r = true) : toR (wayR r) = some r := by
  simp only [rightB, Bool.and_eq_true, inR_iff] at h
  unfold toR wayR
  rw [if_neg (by simp; omega)]
theorem toU_wayR {r : S108} (h : rightB r = true) : toU (wayR r) = none := by
  simp only [rightB, Bool.and_eq_true, inR_iff] at h
  unfold toU wayR
  rw [if_neg (by simp; omega)]
theorem toU_wayU (u : S111) : toU (wayU u) = some u := rfl
theorem toR_wayU (u : S111) : toR (wayU u) = none := rfl
theorem Rt.fR {S : S28} (h : Rt S) : (waysP S).filterMap toR = S.f3 := by
  unfold waysP
  rw [List.filterMap_append, List.filterMap_map, List.filterMap_map]
  have h1 : S.f3.filterMap (toR ∘ wayR) = S.f3 := by
    have : ∀ l : List S108, (∀ r ∈ l, rightB r = true) → l.filterMap (toR ∘ wayR) = l := by
      intro l
      induction l with
      | nil => intro _; rfl
      | cons r l ih =>
        intro hl
        rw [List.filterMap_cons]
        simp only [Function.comp, toR_wayR (hl r (by simp))]
        exact congrArg (List.cons r) (ih fun x hx => hl x (by simp [hx]))
    exact this _ h.rr
  have h2 : S.f4.filterMap (toR ∘ wayU) = [] := by
    rw [List.filterMap_eq_nil_iff]
    exact fun u _ => rfl
  rw [h1, h2, List.append_nil]
theorem Rt.fU {S : S28} (h : Rt S) : (waysP S).filterMap toU = S.f4 := by
  unfold waysP
  rw [List.filterMap_append, List.filterMap_map, List.filterMap_map]
  have h1 : S.f3.filterMap (toU ∘ wayR) = [] := by
    rw [List.filterMap_eq_nil_iff]
    exact fun r hr => toU_wayR (h.rr r hr)
  have h2 : S.f4.filterMap (toU ∘ wayU) = S.f4 := by
    have : (toU ∘ wayU) = some := rfl
    rw [this, List.filterMap_some]
  rw [h1, h2, List.nil_append]
theorem Rt.kv {S : S28} (h : Rt S) : Kv S.f0 (tagsP S) (notesP S) (waysP S) where
  sl := h.sl
  sr := h.sr
  tk := fun p hp => by
    obtain ⟨t, ht, rfl⟩ := List.mem_map.1 hp
    exact ⟨rfl, h.tr t ht⟩
  tn := by
    unfold tagsP
    rw [List.map_map]
    exact h.td
  nk := fun p hp => by
    obtain ⟨t, ht, rfl⟩ := List.mem_map.1 hp
    exact ⟨rfl, h.nr t ht⟩
  nn := by
    unfold notesP
    rw [List.map_map, List.Nodup, List.pairwise_map]
    exact h.na.imp fun {x y} hxy e => by
      have : cmpM x y = 0 := cmpI_eq.2 e
      omega
  yk := fun p hp => by
    rcases List.mem_append.1 hp with hp | hp
    · obtain ⟨r, hr, rfl⟩ := List.mem_map.1 hp
      have := h.rr r hr
      simp only [wayB, wayR, rightB, Bool.and_eq_true, inR_iff] at *
      omega
    · obtain ⟨u, hu, rfl⟩ := List.mem_map.1 hp
      have := h.ur u hu
      simp only [wayB, wayU, usedB, Bool.and_eq_true, inR_iff] at *
      omega
  yn := by
    refine key_nodup ?_
    unfold waysP
    rw [List.pairwise_append, List.pairwise_map, List.pairwise_map]
    refine ⟨h.ra.imp fun {x y} hxy e => ?_, h.ua.imp fun {x y} hxy e => ?_, ?_⟩
    · simp only [wayR, S131.mk.injEq] at e
      have := cmpR_eq.2 e
      omega
    · simp only [wayU, S131.mk.injEq] at e
      have := cmpU_eq.2 ⟨e.1, e.2.1⟩
      omega
    · intro p hp q hq e
      obtain ⟨r, hr, rfl⟩ := List.mem_map.1 hp
      obtain ⟨u, hu, rfl⟩ := List.mem_map.1 hq
      have := h.rr r hr
      simp only [rightB, Bool.and_eq_true, inR_iff] at this
      simp only [wayR, wayU, S131.mk.injEq] at e
      omega
/-- A right state is the state of its maps. -/
theorem Rt.mk_eq {S : S28} (h : Rt S) : mkS S.f0 (tagsP S) (notesP S) (waysP S) = S := by
  unfold mkS
  rw [h.fR, h.fU, srt_asc gcR h.ra, srt_asc gcU h.ua]
  have h1 : (tagsP S).map Prod.snd = S.f1 := by unfold tagsP; rw [List.map_map]; exact List.map_id _
  have h2 : (notesP S).map Prod.snd = S.f2 := by unfold notesP; rw [List.map_map]; exact List.map_id _
  rw [h1, h2, srt_asc gcT h.ta, srt_asc gcM h.na]
/-- .. and of any maps that are these up to order. -/
theorem Rt.of_perm {S : S28} (h : Rt S) {T : List (S97 × S99)} {N : List (Int × S102)} {Y : List (S131 × Int)} (hT : T.Perm (tagsP S)) (hN : N.Perm (notesP S)) (hY : Y.Perm (waysP S)) : mkS S.f0 T N Y = S :=
  (mkS_perm h.kv hT hN hY).trans h.mk_eq
/-- There are at most 576 ways. -/
theorem ways_len {Y : List (S131 × Int)} (hk : ∀ p ∈ Y, wayB p = true) (hn : (Y.map Prod.fst).Nodup) : Y.length ≤ 576 := by
  have h1 := nodup_len 576 (Y.map fun p => (p.1.f0 * 72 + p.1.f1 * 9 + (p.1.f2 + 1)).toNat) (by
    rw [List.Nodup, List.pairwise_map]
    refine List.Pairwise.imp_of_mem (fun {p q} hp hq hne e => hne ?_) (nodup_key hn)
    have a := hk p hp
    have b := hk q hq
    simp only [wayB, Bool.and_eq_true, inR_iff] at a b
    obtain ⟨⟨p0, p1, p2⟩, v⟩ := p
    obtain ⟨⟨q0, q1, q2⟩, v'⟩ := q
    simp only [S131.mk.injEq] at *
    omega) (fun x hx => by
      obtain ⟨p, hp, rfl⟩ := List.mem_map.1 hx
      have a := hk p hp
      simp only [wayB, Bool.and_eq_true, inR_iff] at a
      omega)
  rwa [List.length_map] at h1
theorem conF_bound {p : S131 × Int} (h : wayB p = true) (s o : Int) : -MC ≤ conF s o p ∧ conF s o p ≤ MC := by
  simp only [wayB, Bool.and_eq_true, inR_iff, MC] at *
  unfold conF
  split
  · split <;> split <;> omega
  · omega
theorem conL_bound {p : S131 × Int} (h : wayB p = true) (s : Int) : -MC ≤ conL s p ∧ conL s p ≤ MC := by
  simp only [wayB, Bool.and_eq_true, inR_iff, MC] at *
  unfold conL
  split
  · split
    · omega
    · split <;> omega
  · omega
end Go.Proofs.YtmeaeapopfcmbaaGreat

namespace Go.Proofs.YtmeaeapopfcmbaaGreat
set_option linter.unusedVariables false
set_option linter.unusedSimpArgs false
set_option linter.unusedSectionVars false
section
variable {α β : Type} [DecidableEq α]
theorem mget_nil (x : α) : mget ([] : List (α × β)) x = none := rfl
theorem mget_cons (p : α × β) (L : List (α × β)) (x : α) : mget (p :: L) x = if p.1 = x then some p.2 else mget L x := by
  unfold mget
  by_cases h : p.1 = x
  · rw [List.find?_cons_of_pos (by simpa using h), if_pos h]; rfl
  · rw [List.find?_cons_of_neg (by simpa using h), if_neg h]
theorem mget_app (L M : List (α × β)) (x : α) : mget (L ++ M) x = (mget L x).or (mget M x) := by
  induction L with
  | nil => rfl
  | cons p L ih =>
    rw [List.cons_append, mget_cons, mget_cons, ih]
    split <;> rfl
theorem mget_mdel (L : List (α × β)) (a x : α) : mget (mdel L a) x = if x = a then none else mget L x := by
  induction L with
  | nil => simp [mdel, mget]
  | cons p L ih =>
    unfold mdel at *
    rw [List.filter_cons, mget_cons]
    by_cases h : p.1 = a
    · rw [if_neg (by simpa using h), ih]
      by_cases h2 : x = a
      · rw [if_pos h2, if_pos h2]
      · rw [if_neg h2, if_neg h2, if_neg (fun e => h2 (by rw [← e, h]))]
    · rw [if_pos (by simpa using h), mget_cons, ih]
      by_cases h2 : x = a
      · rw [if_pos h2, if_pos h2, if_neg (fun e => h (by rw [e, h2]))]
      · rw [if_neg h2, if_neg h2]
theorem mget_mput (L : List (α × β)) (a : α) (b : β) (x : α) : mget (mput L a b) x = if x = a then some b else mget L x := by
  unfold mput
  rw [mget_cons, mget_mdel]
  by_cases h : x = a
  · rw [if_pos h.symm, if_pos h]
  · rw [if_neg h, if_neg h, if_neg (fun e => h e.symm)]
theorem mget_filter {L : List (α × β)} (hn : (L.map Prod.fst).Nodup) (q : α × β → Bool) (x : α) : mget (L.filter q) x = (mget L x).bind fun b => if q (x, b) then some b else none := by
  have hn' : ((L.filter q).map Prod.fst).Nodup := hn.sublist (List.Sublist.map _ List.filter_sublist)
  cases h : mget L x with
  | none =>
    have := mget_none.1 h
    exact mget_none.2 fun p hp => this p (List.mem_filter.1 hp).1
  | some b =>
    show _ = if q (x, b) = true then some b else none
    have hm := mget_some h
    split
    · rename_i hq
      exact mget_mem hn' (List.mem_filter.2 ⟨hm, hq⟩)
    · rename_i hq
      refine mget_none.2 fun p hp e => ?_
      obtain ⟨h1, h2⟩ := List.mem_filter.1 hp
      have h3 := mget_mem hn (show (p.1, p.2) ∈ L from h1)
      rw [e, h] at h3
      have : p = (x, b) := Prod.ext e (Option.some.inj h3).symm
      rw [this] at h2
      exact hq h2
theorem nodup_of_key {L : List (α × β)} (hn : (L.map Prod.fst).Nodup) : L.Nodup := (List.pairwise_map.1 hn).imp fun h e => h (congrArg Prod.fst e)
theorem perm_of_mget {L M : List (α × β)} (hL : (L.map Prod.fst).Nodup) (hM : (M.map Prod.fst).Nodup) (h : ∀ x, mget L x = mget M x) : L.Perm M := by
  rw [List.perm_ext_iff_of_nodup (nodup_of_key hL) (nodup_of_key hM)]
  intro p
  constructor
  · intro hp
    have h1 := mget_mem hL (show (p.1, p.2) ∈ L from hp)
    rw [h] at h1
    exact mget_some h1
  · intro hp
    have h1 := mget_mem hM (show (p.1, p.2) ∈ M from hp)
    rw [← h] at h1
    exact mget_some h1
theorem nodup_part {L outs : List (α × β)} (hL : (L.map Prod.fst).Nodup) (ho : outs.Nodup) (hs : ∀ p ∈ outs, p ∈ L) : (outs.map Prod.fst).Nodup := by
  rw [List.Nodup, List.pairwise_map]
  refine List.Pairwise.imp_of_mem (fun {p q} hp hq hne e => hne ?_) ho
  have h1 := mget_mem hL (show (p.1, p.2) ∈ L from hs p hp)
  have h2 := mget_mem hL (show (q.1, q.2) ∈ L from hs q hq)
  rw [e, h2] at h1
  exact Prod.ext e (Option.some.inj h1).symm
/-- A row is put, if it is greater than the one that is there. -/
def tput (c : β → β → Int) (L : List (α × β)) (x : α) (v : β) : List (α × β) :=
  match mget L x with
  | none => mput L x v
  | some y => if 0 < c v y then mput L x v else L
/-- The greater one of two rows. -/
def comb (c : β → β → Int) : Option β → Option β → Option β
  | none, b => b
  | some u, none => some u
  | some u, some v => some (if 0 < c v u then v else u)
theorem mget_tput (c : β → β → Int) (L : List (α × β)) (x : α) (v : β) (y : α) : mget (tput c L x v) y = if y = x then comb c (mget L x) (some v) else mget L y := by
  unfold tput
  cases h : mget L x with
  | none => simp only [mget_mput]; rfl
  | some u =>
    simp only
    split
    · rename_i hc
      rw [mget_mput]
      simp only [comb, if_pos hc]
    · rename_i hc
      by_cases e : y = x
      · rw [if_pos e, e, h]
        simp only [comb, if_neg hc]
      · rw [if_neg e]
theorem nodup_tput {c : β → β → Int} {L : List (α × β)} (h : (L.map Prod.fst).Nodup) (x : α) (v : β) : ((tput c L x v).map Prod.fst).Nodup := by
  unfold tput
  split
  · exact nodup_mput h x v
  · split
    · exact nodup_mput h x v
    · exact h
theorem tput_len {c : β → β → Int} (L : List (α × β)) (x : α) (v : β) : (tput c L x v).length ≤ L.length + 1 := by
  unfold tput
  split
  · exact mput_len L x v
  · split
    · exact mput_len L x v
    · omega
/-- The rows of two tables. -/
def upd (c : β → β → Int) (M : List (α × β)) (k : α) (u : β) : β := match mget M k with | none => u | some v => if 0 < c v u then v else u
def mrg (c : β → β → Int) (L M : List (α × β)) : List (α × β) :=
  L.map (fun p => (p.1, upd c M p.1 p.2)) ++ M.filter fun p => (mget L p.1).isNone
theorem mget_map (f : α → β → β) (L : List (α × β)) (x : α) : mget (L.map fun p => (p.1, f p.1 p.2)) x = (mget L x).map (f x) := by
  induction L with
  | nil => rfl
  | cons p L ih =>
    rw [List.map_cons, mget_cons, mget_cons, ih]
    split
    · rename_i h
      simp only at h
      subst h
      rfl
    · rfl
theorem mget_mrg {c : β → β → Int} {L M : List (α × β)} (hM : (M.map Prod.fst).Nodup) (x : α) : mget (mrg c L M) x = comb c (mget L x) (mget M x) := by
  unfold mrg
  rw [mget_app, mget_map (upd c M), mget_filter hM]
  cases h : mget L x with
  | none =>
    cases h2 : mget M x with
    | none => rfl
    | some v => simp [comb, h]
  | some u =>
    cases h2 : mget M x with
    | none => simp [comb, upd, h2]
    | some v => simp [comb, upd, h2]
theorem nodup_mrg {c : β → β → Int} {L M : List (α × β)} (hL : (L.map Prod.fst).Nodup) (hM : (M.map Prod.fst).Nodup) : ((mrg c L M).map Prod.fst).Nodup := by
  unfold mrg
  rw [List.map_append, List.nodup_append]
  refine ⟨?_, hM.sublist (List.Sublist.map _ List.filter_sublist), ?_⟩
  · rw [List.map_map]
    exact hL
  · intro a ha b hb e
    subst e
    obtain ⟨p, hp, rfl⟩ := List.mem_map.1 hb
    obtain ⟨q, hq, e⟩ := List.mem_map.1 ha
    obtain ⟨q', hq', rfl⟩ := List.mem_map.1 hq
    have h1 := (List.mem_filter.1 hp).2
    have h2 := mget_mem hL (show (q'.1, q'.2) ∈ L from hq')
    simp only at e
    rw [← e, h2] at h1
    exact absurd h1 (by simp)
theorem mget_snoc {outs : List (α × β)} {p : α × β} (x : α) : mget (outs ++ [p]) x = (mget outs x).or (if p.1 = x then some p.2 else none) := by
  rw [mget_app, mget_cons, mget_nil]
end
end Go.Proofs.YtmeaeapopfcmbaaGreat
