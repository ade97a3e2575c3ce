/- A map whose keys are grades, as the kit tells maps; Both. No conditions. -/
import Derived.Test.YtnbdfmdjedakcaaH25
import Derived.Test.YtnbdfmdjedakcaaQ31
import Derived.Maps.RangeWalk
import Derived.Maps.OwnSet
import Derived.DeepKeys4
import Derived.WideKeyPair
namespace Go.Proofs.Ytnbdfmdjedakcaa
open Go.RowKit Go.Proofs.YtnbdfmdjedakcaaW.PrintWords Go.Proofs.YtnbdfmdjedakcaaW.PrintLast Go.Proofs.YtnbdfmdjedakcaaW.PrintMore PP Go.WideMaps Go.WideElems Go.ChangeMaps
set_option linter.unusedVariables false
set_option linter.unusedSimpArgs false
theorem lawG : Maps.Keyed Try.prog 36 := Maps.Keyed.of_law (deep_law_laid (by kernel_rfl) (m := 2) (by omega) (of_decide_eq_true (by kernel_rfl)) (by kernel_rfl) (by kernel_rfl))
/-- What a grade reads as, as a key. -/
def klG (x : S36) : Lit := .string (keyBytes [.int .i64 x.f0, .int .i64 x.f1, .int .i64 x.f2])
theorem wf_lv {a : Int} (h0 : 0 ≤ a) (h1 : a ≤ 11) : (Lit.int .i64 a).wf = true := WalkArith.wf_i64 (by omega)
theorem arrG : ArrKey Try.prog 36 3 3 := ⟨Try.underlying36, by kernel_rfl, by kernel_rfl, by kernel_rfl⟩
theorem sizeG : ∃ m, Try.prog.types.size = m + 1 := ⟨Try.prog.types.size - 1, by
  have h : decide (0 < Try.prog.types.size) = true := by kernel_rfl
  have := of_decide_eq_true h
  omega⟩
theorem keyG {x : S36} (h : gok x = true) : keyOf Try.prog 36 (gv x) = some (klG x) := by
  rw [gok_iff] at h
  obtain ⟨⟨a1, a2⟩, ⟨a3, a4⟩, a5, a6⟩ := h
  have w0 := wf_lv a1 a2
  have w1 := wf_lv a3 a4
  have w2 := wf_lv a5 a6
  have hkt := arrG.keyType sizeG
  obtain ⟨m, hm⟩ := sizeG
  have hc1 : Try.prog.cellsOf 3 = 1 := arrG.one
  have hc3 : Try.prog.cellsOf 36 = 3 := arrG.size
  unfold keyOf gv
  simp only [arrG.hu]
  rw [if_pos (by simp [hkt, Value.formed, arrG.hu, hc3]), hm]
  unfold Program.keyLits
  simp only [arrG.hu, Value.cells]
  rw [if_pos (by rw [hc3]; rfl), show List.range 3 = [0, 1, 2] from rfl, List.mapM_cons, List.mapM_cons, List.mapM_cons, List.mapM_nil]
  obtain ⟨m', rfl⟩ : ∃ m', m = m' + 1 := by
    refine ⟨m - 1, ?_⟩
    have h : decide (1 < Try.prog.types.size) = true := by kernel_rfl
    have := of_decide_eq_true h
    omega
  simp [hc1, Program.keyLits, Try.underlying3, w0, w1, w2, klG]
theorem keyG_inv {key : Value} {kl : Lit} (h : keyOf Try.prog 36 key = some kl) : ∃ x, key = gv x ∧ kl = klG x := by
  obtain ⟨m, hm⟩ := sizeG
  have hc1 : Try.prog.cellsOf 3 = 1 := arrG.one
  have hc3 : Try.prog.cellsOf 36 = 3 := arrG.size
  obtain ⟨xs, L, rfl, hL, rfl⟩ := keyOf_top (by kernel_rfl) h
  rw [hm] at hL
  unfold Program.keyLits at hL
  simp only [arrG.hu] at hL
  by_cases hs : xs.toList.length = Try.prog.cellsOf 36
  · rw [if_pos hs] at hL
    rw [hc3] at hs
    obtain ⟨c0, c1, c2, he⟩ : ∃ c0 c1 c2, xs.toList = [c0, c1, c2] := by
      generalize xs.toList = l at hs
      rcases l with _ | ⟨c0, _ | ⟨c1, _ | ⟨c2, _ | ⟨c3, l⟩⟩⟩⟩
      · exact absurd hs (by simp)
      · exact absurd hs (by simp)
      · exact absurd hs (by simp)
      · exact ⟨c0, c1, c2, rfl⟩
      · exact absurd hs (by simp)
    rw [he] at hL
    have hxs : xs = #[c0, c1, c2] := by rw [← Array.toList_inj, he]
    subst hxs
    rw [show List.range 3 = [0, 1, 2] from rfl, List.mapM_cons, List.mapM_cons, List.mapM_cons, List.mapM_nil] at hL
    obtain ⟨m', rfl⟩ : ∃ m', m = m' + 1 := by
      refine ⟨m - 1, ?_⟩
      have h : decide (1 < Try.prog.types.size) = true := by kernel_rfl
      have := of_decide_eq_true h
      omega
    have one : ∀ c : Value, ∀ l, Try.prog.keyLits (m' + 1 + 1) 3 [c] = some l → ∃ a : Int, c = .int .i64 a ∧ l = [.int .i64 a] := fun c l hl => by
      unfold Program.keyLits at hl
      cases c <;> simp [Try.underlying3] at hl
      obtain ⟨⟨rfl, _⟩, rfl⟩ := hl
      exact ⟨_, rfl, rfl⟩
    simp [hc1, Option.bind_eq_some_iff] at hL
    obtain ⟨y0, h0, L1, ⟨y1, h1, L2, ⟨y2, h2, e2⟩, e1⟩, e0⟩ := hL
    subst e2 e1 e0
    obtain ⟨a, rfl, rfl⟩ := one _ _ h0
    obtain ⟨b, rfl, rfl⟩ := one _ _ h1
    obtain ⟨c, rfl, rfl⟩ := one _ _ h2
    exact ⟨⟨a, b, c⟩, rfl, by simp [klG]⟩
  · rw [if_neg hs] at hL
    exact absurd hL (by simp)
theorem gv_inj {x y : S36} (h : gv x = gv y) : x = y := by
  obtain ⟨a, b, c⟩ := x
  obtain ⟨d, e, f⟩ := y
  unfold gv at h
  simp at h
  simp [h]
theorem klG_inj {x y : S36} (hx : gok x = true) (hy : gok y = true) (h : klG x = klG y) : x = y :=
  gv_inj (lawG.inj (keyG hx) (by rw [h]; exact keyG hy))
theorem klG_key (x : S36) : WideAt.IsKeyLit (klG x) := trivial
/-- The map has just these grades as keys. -/
def KeysAre (D : DataW Unit) (js : List S36) : Prop := ∀ kl, Maps.has D kl = true ↔ ∃ x, x ∈ js ∧ kl = klG x
def MapG (w : World) (mb n : Nat) (js : List S36) : Prop := ∃ D : DataW Unit, w.ownsMap Try.prog 36 (plainElem Try.prog 4) mb n D ∧ KeysAre D js
theorem MapG.kept {w w' : World} {mb n : Nat} {js : List S36} {row : Option Nat} (h : MapG w mb n js) (hg : w.grownBy w' row) (hne : some mb ≠ row) : MapG w' mb n js := by
  obtain ⟨D, h1, h2⟩ := h
  exact ⟨D, h1.kept hg hne, h2⟩
theorem MapG.below {w w' : World} {mb n : Nat} {js : List S36} (h : MapG w mb n js) (hb : Below w.heap.size w w') : MapG w' mb n js :=
  h.kept (row := none) ⟨hb.os, hb.tape, hb.output, hb.size, fun i hi _ => hb.block i hi⟩ (by simp)
theorem MapG.lt {w : World} {mb n : Nat} {js : List S36} (h : MapG w mb n js) : mb < w.heap.size := by
  obtain ⟨D, h1, h2⟩ := h
  exact h1.lt
theorem MapG.made (w : World) : MapG (w.alloc (.map #[] 0)) w.heap.size 0 [] :=
  ⟨.map [], World.ownsMap_made w _ _ _, fun kl => ⟨fun h => absurd h (by simp [Maps.has]), fun ⟨x, h, _⟩ => absurd h (by simp)⟩⟩
theorem KeysAre.put {D : DataW Unit} {js : List S36} (h : KeysAre D js) (hm : Maps.IsMap D) (x : S36) (d : DataW Unit) : KeysAre (D.put (klG x) d) (js ++ [x]) := fun kl => by
  by_cases e : kl = klG x
  · subst e
    rw [Maps.has_put_same hm (klG_key x)]
    exact ⟨fun _ => ⟨x, by simp, rfl⟩, fun _ => rfl⟩
  · rw [Maps.has_put_other e, h kl]
    constructor
    · rintro ⟨y, hy, rfl⟩; exact ⟨y, by simp [hy], rfl⟩
    · rintro ⟨y, hy, rfl⟩
      rcases List.mem_append.1 hy with hy | hy
      · exact ⟨y, hy, rfl⟩
      · rw [List.mem_singleton.1 hy] at e; exact absurd rfl e
theorem wpList_gput (w : World) {ops : Array Oper} {rest : List Oper} {o : Oper} {a : Act} {Q : Exit → Act → World → Prop} (hg : o.guard = none) (m x v : Operand) (hop : o.op = Op.mapUpdate 89 m x v) (mb n : Nat) (js : List S36) (g : S36) (hok : gok g = true) (hm : a.eval m = .map (some mb)) (hx : a.eval x = gv g) (hv : a.eval v = .bool true) (h : MapG w mb n js) (hn : n < 1000000000)
    (hK : ∀ w', MapG w' mb (n + 1) (js ++ [g]) → w.grownBy w' (some mb) → wpList Try.prog ops Q rest (a.put o.dst undef) w') : wpList Try.prog ops Q (o :: rest) a w := by
  obtain ⟨D, h1, h2⟩ := h
  refine wpList_mapUpdate_own w hg m x v 89 hop 36 4 lawG Try.underlying89 (plainElem Try.prog 4) mb n D hm h1 (by unfold maxLen; omega) (gv g) (.bool true) (klG g) hx hv (keyG hok) _ [] (plainElem_bool Try.underlying4 true) ?_
  intro w' hw' hg'
  exact hK w' ⟨_, hw', h2.put (h1.isMap) g _⟩ hg'
/-- What is still to come of a map of grades. -/
def RngG (w : World) (mb r n : Nat) (js outs : List S36) (cnt : Nat) : Prop := ∃ (D : DataW Unit) (left : Lit → Bool), w.ranges Try.prog 36 (plainElem Try.prog 4) mb r n D left cnt ∧ KeysAre D js ∧ (∀ kl, left kl = true → Maps.has D kl = true) ∧ ∀ x, x ∈ outs ↔ (x ∈ js ∧ left (klG x) = false)
theorem RngG.below {w w' : World} {mb r n cnt : Nat} {js outs : List S36} {row : Option Nat} (h : RngG w mb r n js outs cnt) (hg : w.grownBy w' row) (h1 : some mb ≠ row) (h2 : some r ≠ row) : RngG w' mb r n js outs cnt := by
  obtain ⟨D, left, a, b⟩ := h
  exact ⟨D, left, a.kept hg h1 h2, b⟩
theorem wpList_grange (w : World) {ops : Array Oper} {rest : List Oper} {o : Oper} {a : Act} {Q : Exit → Act → World → Prop} (hg : o.guard = none) (m : Operand) (hop : o.op = Op.range 89 m) (mb n : Nat) (js : List S36) (hm : a.eval m = .map (some mb)) (h : MapG w mb n js)
    (hK : ∀ w' cnt, cnt ≤ n → RngG w' mb w.heap.size n js [] cnt → w.grownBy w' none → w'.heap.size = w.heap.size + 1 → wpList Try.prog ops Q rest (a.put o.dst (.pointer (some ⟨w.heap.size, 0, none⟩))) w') : wpList Try.prog ops Q (o :: rest) a w := by
  obtain ⟨D, h1, h2⟩ := h
  refine wpList_range_own w hg m 89 hop 36 4 lawG Try.underlying89 (plainElem Try.prog 4) mb n D hm h1 ?_
  intro w' hr hg' hs
  refine hK w' _ h1.size_le ⟨D, _, hr, h2, fun _ h => h, fun x => ⟨fun h => absurd h (by simp), fun ⟨h3, h4⟩ => ?_⟩⟩ hg' hs
  rw [(h2 _).2 ⟨x, h3, rfl⟩] at h4
  exact absurd h4 (by decide)
theorem wpList_gnext (w : World) {ops : Array Oper} {rest : List Oper} {o : Oper} {a : Act} {Q : Exit → Act → World → Prop} (hg : o.guard = none) (it : Operand) (hop : o.op = Op.next it false) (mb r n : Nat) (js outs : List S36) (cnt : Nat) (hjs : ∀ x ∈ js, gok x = true) (hit : a.eval it = .pointer (some ⟨r, 0, none⟩)) (h : RngG w mb r n js outs cnt)
    (hDone : (∀ x, x ∈ outs ↔ x ∈ js) → wpList Try.prog ops Q rest (a.put o.dst (.tuple #[.bool false])) w)
    (hMore : ∀ (x : S36) (c : Value) (w' : World) (cnt' : Nat), x ∈ js → RngG w' mb r n js (outs ++ [x]) cnt' → cnt' < cnt → w.grownBy w' (some r) → w'.heap.size = w.heap.size → (Instr.entry (.pointer (some ⟨r, 0, none⟩))).run Try.prog w' = .ok (.tuple #[gv x, c]) w' → wpList Try.prog ops Q rest (a.put o.dst (.tuple #[.bool true, gv x, c])) w') :
    wpList Try.prog ops Q (o :: rest) a w := by
  obtain ⟨D, left, h1, h2, h3, h4⟩ := h
  refine wpList_next_ranges (β := Value) w hg it hop 36 lawG (plainElem Try.prog 4) gv (fun v => v) (fun key kl hk => by obtain ⟨x, e, _⟩ := keyG_inv hk; exact ⟨x, e⟩) (fun v y _ => ⟨v, rfl⟩) mb r n D left cnt hit h1 ?_ ?_
  · intro _ hl
    exact hDone fun x => by rw [h4]; exact ⟨fun h => h.1, fun h => ⟨h, hl _⟩⟩
  · intro x c kl y w' cnt' hkey hlk _ _ hrg hlt hgr hsz hen
    obtain ⟨x', e, rfl⟩ := keyG_inv hkey
    have := gv_inj e
    subst this
    obtain ⟨z, hz, ez⟩ := (h2 _).1 (h3 _ hlk)
    have hxz : x = z := gv_inj (lawG.inj hkey (by rw [ez]; exact keyG (hjs z hz)))
    subst hxz
    refine hMore x c w' cnt' hz ⟨D, _, hrg, h2, fun kl h => h3 kl (by simp only [Bool.and_eq_true] at h; exact h.1), fun q => ?_⟩ hlt hgr hsz hen
    rw [List.mem_append, List.mem_singleton, h4]
    constructor
    · rintro (⟨a1, a2⟩ | rfl)
      · exact ⟨a1, by rw [a2]; rfl⟩
      · exact ⟨hz, by rw [WideAt.sameKey_self (klG_key _)]; simp⟩
    · rintro ⟨a1, a2⟩
      by_cases e : q = x
      · exact .inr e
      · refine .inl ⟨a1, ?_⟩
        cases hq : left (klG q) with
        | false => rfl
        | true =>
          rw [hq, Bool.true_and, Bool.not_eq_false'] at a2
          exact absurd (klG_inj (hjs q a1) (hjs x hz) (WideAt.sameKey_eq a2)) e
end Go.Proofs.Ytnbdfmdjedakcaa
