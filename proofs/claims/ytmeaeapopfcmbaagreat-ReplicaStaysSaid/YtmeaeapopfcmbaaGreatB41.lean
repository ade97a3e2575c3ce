/- maps.Equal, same, Covers. No conditions. -/
import Derived.Test.YtmeaeapopfcmbaaGreatP8
namespace Go.Proofs.YtmeaeapopfcmbaaGreat
open Go.RowKit Go.Proofs.YtmeaeapopfcmbaaGreatW.PrintWords Go.Proofs.YtmeaeapopfcmbaaGreatW.PrintLast Go.Proofs.YtmeaeapopfcmbaaGreatW.PrintMore PP
attribute [local go_sem high] eqA99 eqA102
set_option linter.unusedVariables false
set_option linter.unusedSimpArgs false
set_option maxHeartbeats 4000000
set_option maxRecDepth 100000
section
variable {α β : Type} [DecidableEq α]
/-- The same pairs. -/
def EqM (L M : List (α × β)) : Prop := ∀ x, mget L x = mget M x
open Classical in
noncomputable def eqM (L M : List (α × β)) : Bool := decide (EqM L M)
open Classical in
theorem eqM_iff {L M : List (α × β)} : eqM L M = true ↔ EqM L M := by unfold eqM; exact decide_eq_true_iff
theorem eqM_no {L M : List (α × β)} (hn : (L.map Prod.fst).Nodup) {p : α × β} (hp : p ∈ L) (h : mget M p.1 ≠ some p.2) : eqM L M = false := by
  cases e : eqM L M with
  | false => rfl
  | true => exact absurd ((eqM_iff.1 e p.1).symm.trans (mget_mem hn hp)) h
theorem eqM_len {L M : List (α × β)} (hL : (L.map Prod.fst).Nodup) (hM : (M.map Prod.fst).Nodup) (h : L.length ≠ M.length) : eqM L M = false := by
  cases e : eqM L M with
  | false => rfl
  | true => exact absurd (perm_of_mget hL hM (eqM_iff.1 e)).length_eq h
theorem eqM_yes [DecidableEq β] {L M : List (α × β)} (hL : (L.map Prod.fst).Nodup) (hM : (M.map Prod.fst).Nodup) (hl : L.length = M.length) (h : ∀ p ∈ L, mget M p.1 = some p.2) : eqM L M = true := by
  rw [eqM_iff]
  intro x
  cases hx : mget L x with
  | some u => exact (h _ (mget_some hx)).symm
  | none =>
    cases hy : mget M x with
    | none => rfl
    | some v =>
      exfalso
      have h1 : ((x, v) :: L).length ≤ M.length := sub_len (List.nodup_cons.2 ⟨fun hm => mget_none.1 hx _ hm rfl, nodup_of_key hL⟩) (fun q hq => by
        rcases List.mem_cons.1 hq with rfl | hq
        · exact mget_some hy
        · exact mget_some (h q hq))
      rw [List.length_cons] at h1
      omega
end
theorem size_alloc1 (w : World) (a : Obj) : (w.alloc a).heap.size = w.heap.size + 1 := by simp
theorem size_alloc2 (w : World) (a b : Obj) : ((w.alloc a).alloc b).heap.size = w.heap.size + 2 := by simp
theorem note_eq (z0 t0 : Int) (z1 t1 : ByteArray) (z2 t2 z3 t3 : Int) : (z0 == t0 && (z1.toList == t1.toList && (z2 == t2 && (z3 == t3)))) = decide ((⟨z0, z1, z2, z3⟩ : S102) = ⟨t0, t1, t2, t3⟩) := by
  rw [Bool.eq_iff_iff]
  simp only [Bool.and_eq_true, beq_iff_eq, decide_eq_true_eq, S102.mk.injEq, same_iff]
theorem eqT_run (w : World) (m1 m2 : Nat) (L M : List (S97 × S99)) (h1 : MapIs CT w m1 L) (h2 : MapIs CT w m2 M) :
    Calls Tryz.prog 128 #[.map (some m1), .map (some m2)] w fun e w' => e = .returned (.bool (eqM L M)) ∧ Below w.heap.size w w' := by
  have H1 := Hd.mk h1
  have H2 := Hd.mk h2
  have l1 : (Builtin.len_ #[119] 3 #[.map (some m1)]).run Tryz.prog w = .ok (.int .i64 L.length) w := h1.len 3
  have l2 : (Builtin.len_ #[119] 3 #[.map (some m2)]).run Tryz.prog w = .ok (.int .i64 M.length) w := h2.len 3
  clear h1 h2
  go_enter Tryz.func128, Tryz.ntmps128
  by_cases hl : L.length = M.length
  · have HL := Hd.mk hl
    have b1 : ((L.length : Int) == (M.length : Int)) = true := by simp [hl]
    have b2 : decide ((L.length : Int) = (M.length : Int)) = true := by simp [hl]
    have b3 : (L.length : Int) = (M.length : Int) := by omega
    rw [b3] at l1
    clear b1 b2 b3 hl
    go_wp2_with (at_range; refine wpL_range w CT rfl _ rfl m1 L rfl H1.out ?_; intro w1 hr hg hs; have RG := Hd.mk hr; have BW := Hd.mk (show Below w.heap.size w w1 from (Below.refl _ _).grown hg (Nat.le_refl _) (by simp)); clear hr hg hs)
    go_frame
    go_loopg [] L.length (fun gg wq => ∃ (outs : List (S97 × S99)) (cn : Nat), cn ≤ gg ∧ Hd (Rng CT wq m1 w.heap.size L outs cn) ∧ Hd (Below w.heap.size w wq) ∧ Hd (∀ p ∈ outs, mget M p.1 = some p.2))
    case atStart => exact ⟨[], L.length, Nat.le_refl _, RG, BW, ⟨fun p hp => absurd hp (by simp)⟩⟩
    case round =>
      clear RG BW l1 l2
      obtain ⟨outs, cn, hg, RG, BQ, CO⟩ := hrel
      go_wp2_with (at_next; refine wpL_next _ CT rfl _ rfl m1 w.heap.size L outs cn rfl RG.out ?gd ?gm)
      case gd =>
        intro hd
        have EQ := Hd.mk (show eqM L M = true from eqM_yes H1.out.nodup H2.out.nodup HL.out fun p hp => CO.out p (hd.mem_iff.2 hp))
        clear hd
        go_wp2_with fail
        go_ret
        exact ⟨by rw [EQ.out]; rfl, BQ.out⟩
      case gm =>
        intro x y w3 c5 hp hno hr2 hlt hg2 hs2 hen
        obtain ⟨d0, d1⟩ := x
        obtain ⟨t0, t1, e0, e1⟩ := y
        change (Instr.entry _).run _ _ = .ok (.tuple #[.agg #[.int .i64 d0, .int .i64 d1], .agg #[.int .i64 t0, .string t1, .int .i64 e0, .int .i64 e1]]) w3 at hen
        have B3 : Below w.heap.size w w3 := BQ.out.grown hg2 BQ.out.size (by simp)
        have OKD := Hd.mk (H1.out.ok _ hp)
        have HP := Hd.mk hp
        obtain ⟨W4, hW4⟩ : ∃ W4, W4 = (w3.alloc (.cells #[.int .i64 d0, .int .i64 d1] 97)).alloc (.cells #[.int .i64 t0, .string t1, .int .i64 e0, .int .i64 e1] 99) := ⟨_, rfl⟩
        have B4 := Hd.mk (show Below w.heap.size w W4 by rw [hW4]; exact below_alloc (below_alloc B3 _) _)
        have R4 := Hd.mk (show Rng CT W4 m1 w.heap.size L _ c5 by rw [hW4]; exact (hr2.below (below_alloc (Below.refl _ _) _)).below (below_alloc (Below.refl _ _) _))
        have D4 := Hd.mk (show W4.heap[w3.heap.size]? = some (Obj.cells #[.int .i64 d0, .int .i64 d1] 97 (0, 0)) by rw [hW4]; exact (Below.heap_alloc _ _ _ (by simp)).trans (alloc_at _ _ _ rfl))
        rw [hW4] at D4
        have k0 := cell_of D4.out 0 rfl
        have k1 := cell_of D4.out 1 rfl
        have lk := (H2.out.below B4.out H2.out.lt).look_ok OKD.out
        generalize hq : mget M _ = g at lk
        have HQ := Hd.mk hq
        generalize hz : g.getD CT.z = z at lk
        have HZ := Hd.mk hz
        clear hq hz
        obtain ⟨z0, z1, z2, z3⟩ := z
        change (Instr.lookup 119 _ (.agg #[.int .i64 d0, .int .i64 d1]) true).run _ _ = .ok (.tuple #[.agg #[.int .i64 z0, .string z1, .int .i64 z2, .int .i64 z3], .bool g.isSome]) _ at lk
        have BF := Hd.mk (show Below w.heap.size w (W4.alloc (.cells #[.int .i64 z0, .string z1, .int .i64 z2, .int .i64 z3] 99)) from below_alloc B4.out _)
        have RF := Hd.mk (show Rng CT (W4.alloc (.cells #[.int .i64 z0, .string z1, .int .i64 z2, .int .i64 z3] 99)) m1 w.heap.size L _ c5 from R4.out.below (below_alloc (Below.refl _ _) _))
        have Z5 := Hd.mk (alloc_at W4 (.cells #[.int .i64 z0, .string z1, .int .i64 z2, .int .i64 z3] 99) _ rfl)
        have T5 := Hd.mk (show (W4.alloc (.cells #[.int .i64 z0, .string z1, .int .i64 z2, .int .i64 z3] 99)).heap[w3.heap.size + 1]? = some (Obj.cells #[.int .i64 t0, .string t1, .int .i64 e0, .int .i64 e1] 99 (0, 0)) from (Below.heap_alloc _ _ _ (by rw [hW4]; simp)).trans (by rw [hW4]; exact alloc_at _ _ _ (by simp)))
        rw [hW4] at Z5 T5 lk BF RF
        have c0 := cell_of Z5.out 0 rfl
        have c1 := cell_of Z5.out 1 rfl
        have c2 := cell_of Z5.out 2 rfl
        have c3 := cell_of Z5.out 3 rfl
        simp only [size_alloc2] at c0 c1 c2 c3
        have q0 := cell_of T5.out 0 rfl
        have q1 := cell_of T5.out 1 rfl
        have q2 := cell_of T5.out 2 rfl
        have q3 := cell_of T5.out 3 rfl
        clear hr2 hg2 hs2 hp hno RG BQ B3 R4 B4
        cases g with
        | none =>
          have EQ := Hd.mk (show eqM L M = false from eqM_no H1.out.nodup HP.out (by rw [show mget M _ = none from HQ.out]; simp))
          simp only [Option.isSome_none] at lk
          clear HZ
          subst hW4
          go_wp2_with fail
          go_ret
          exact ⟨by rw [EQ.out]; rfl, BF.out⟩
        | some z' =>
          obtain rfl := HZ.out
          simp only [Option.isSome_some] at lk
          have TE := Hd.mk (tag_eq t0 z0 t1 z1 e0 z2 e1 z3)
          cases hq2 : (t0 == z0 && (t1.toList == z1.toList && (e0 == z2 && (e1 == z3)))) with
          | true =>
            have CO2 := Hd.mk (show mget M _ = some _ from HQ.out.trans (congrArg some (of_decide_eq_true (TE.out.symm.trans hq2)).symm))
            clear HZ TE
            subst hW4
            go_wp2_with fail
            go_roundg c5
            case measure => omega
            case rel => exact ⟨_, c5, Nat.le_refl _, RF, BF, ⟨fun p hp => by
              rcases List.mem_append.1 hp with hp | hp
              · exact CO.out p hp
              · obtain rfl := List.mem_singleton.1 hp
                exact CO2.out⟩⟩
          | false =>
            have EQ := Hd.mk (show eqM L M = false from eqM_no H1.out.nodup HP.out (by rw [show mget M _ = some _ from HQ.out]; intro e; exact of_decide_eq_false (TE.out.symm.trans hq2) (Option.some.inj e).symm))
            clear HZ TE
            subst hW4
            go_wp2_with fail
            go_ret
            exact ⟨by rw [EQ.out]; rfl, BF.out⟩
  · have EQ := Hd.mk (show eqM L M = false from eqM_len H1.out.nodup H2.out.nodup hl)
    have b1 : ((L.length : Int) == (M.length : Int)) = false := by simp; omega
    have b2 : decide ((L.length : Int) = (M.length : Int)) = false := by simp; omega
    have b3 : ¬ (L.length : Int) = (M.length : Int) := by omega
    go_wp2_with fail
    go_ret
    exact ⟨by rw [EQ.out]; rfl, Below.refl _ _⟩
theorem eqN_run (w : World) (m1 m2 : Nat) (L M : List (Int × S102)) (h1 : MapIs CN w m1 L) (h2 : MapIs CN w m2 M) :
    Calls Tryz.prog 129 #[.map (some m1), .map (some m2)] w fun e w' => e = .returned (.bool (eqM L M)) ∧ Below w.heap.size w w' := by
  have H1 := Hd.mk h1
  have H2 := Hd.mk h2
  have l1 : (Builtin.len_ #[120] 3 #[.map (some m1)]).run Tryz.prog w = .ok (.int .i64 L.length) w := h1.len 3
  have l2 : (Builtin.len_ #[120] 3 #[.map (some m2)]).run Tryz.prog w = .ok (.int .i64 M.length) w := h2.len 3
  clear h1 h2
  go_enter Tryz.func129, Tryz.ntmps129
  by_cases hl : L.length = M.length
  · have HL := Hd.mk hl
    have b1 : ((L.length : Int) == (M.length : Int)) = true := by simp [hl]
    have b2 : decide ((L.length : Int) = (M.length : Int)) = true := by simp [hl]
    have b3 : (L.length : Int) = (M.length : Int) := by omega
    rw [b3] at l1
    clear b1 b2 b3 hl
    go_wp2_with (at_range; refine wpL_range w CN rfl _ rfl m1 L rfl H1.out ?_; intro w1 hr hg hs; have RG := Hd.mk hr; have BW := Hd.mk (show Below w.heap.size w w1 from (Below.refl _ _).grown hg (Nat.le_refl _) (by simp)); clear hr hg hs)
    go_frame
    go_loopg [] L.length (fun gg wq => ∃ (outs : List (Int × S102)) (cn : Nat), cn ≤ gg ∧ Hd (Rng CN wq m1 w.heap.size L outs cn) ∧ Hd (Below w.heap.size w wq) ∧ Hd (∀ p ∈ outs, mget M p.1 = some p.2))
    case atStart => exact ⟨[], L.length, Nat.le_refl _, RG, BW, ⟨fun p hp => absurd hp (by simp)⟩⟩
    case round =>
      clear RG BW l1 l2
      obtain ⟨outs, cn, hg, RG, BQ, CO⟩ := hrel
      go_wp2_with (at_next; refine wpL_next _ CN rfl _ rfl m1 w.heap.size L outs cn rfl RG.out ?gd ?gm)
      case gd =>
        intro hd
        have EQ := Hd.mk (show eqM L M = true from eqM_yes H1.out.nodup H2.out.nodup HL.out fun p hp => CO.out p (hd.mem_iff.2 hp))
        clear hd
        go_wp2_with fail
        go_ret
        exact ⟨by rw [EQ.out]; rfl, BQ.out⟩
      case gm =>
        intro x y w3 c5 hp hno hr2 hlt hg2 hs2 hen
        obtain ⟨t0, t1, e0, e1⟩ := y
        change (Instr.entry _).run _ _ = .ok (.tuple #[.int .i64 x, .agg #[.int .i64 t0, .string t1, .int .i64 e0, .int .i64 e1]]) w3 at hen
        have B3 : Below w.heap.size w w3 := BQ.out.grown hg2 BQ.out.size (by simp)
        have OKD := Hd.mk (H1.out.ok _ hp)
        have HP := Hd.mk hp
        obtain ⟨W4, hW4⟩ : ∃ W4, W4 = w3.alloc (.cells #[.int .i64 t0, .string t1, .int .i64 e0, .int .i64 e1] 102) := ⟨_, rfl⟩
        have B4 := Hd.mk (show Below w.heap.size w W4 by rw [hW4]; exact below_alloc B3 _)
        have R4 := Hd.mk (show Rng CN W4 m1 w.heap.size L _ c5 by rw [hW4]; exact hr2.below (below_alloc (Below.refl _ _) _))
        have lk := (H2.out.below B4.out H2.out.lt).look_ok OKD.out
        generalize hq : mget M _ = g at lk
        have HQ := Hd.mk hq
        generalize hz : g.getD CN.z = z at lk
        have HZ := Hd.mk hz
        clear hq hz
        obtain ⟨z0, z1, z2, z3⟩ := z
        change (Instr.lookup 120 _ (.int .i64 x) true).run _ _ = .ok (.tuple #[.agg #[.int .i64 z0, .string z1, .int .i64 z2, .int .i64 z3], .bool g.isSome]) _ at lk
        have BF := Hd.mk (show Below w.heap.size w (W4.alloc (.cells #[.int .i64 z0, .string z1, .int .i64 z2, .int .i64 z3] 102)) from below_alloc B4.out _)
        have RF := Hd.mk (show Rng CN (W4.alloc (.cells #[.int .i64 z0, .string z1, .int .i64 z2, .int .i64 z3] 102)) m1 w.heap.size L _ c5 from R4.out.below (below_alloc (Below.refl _ _) _))
        have Z5 := Hd.mk (alloc_at W4 (.cells #[.int .i64 z0, .string z1, .int .i64 z2, .int .i64 z3] 102) _ rfl)
        have T5 := Hd.mk (show (W4.alloc (.cells #[.int .i64 z0, .string z1, .int .i64 z2, .int .i64 z3] 102)).heap[w3.heap.size]? = some (Obj.cells #[.int .i64 t0, .string t1, .int .i64 e0, .int .i64 e1] 102 (0, 0)) from (Below.heap_alloc _ _ _ (by rw [hW4]; simp)).trans (by rw [hW4]; exact alloc_at _ _ _ rfl))
        rw [hW4] at Z5 T5 lk BF RF
        have c0 := cell_of Z5.out 0 rfl
        have c1 := cell_of Z5.out 1 rfl
        have c2 := cell_of Z5.out 2 rfl
        have c3 := cell_of Z5.out 3 rfl
        simp only [size_alloc1] at c0 c1 c2 c3
        have q0 := cell_of T5.out 0 rfl
        have q1 := cell_of T5.out 1 rfl
        have q2 := cell_of T5.out 2 rfl
        have q3 := cell_of T5.out 3 rfl
        clear hr2 hg2 hs2 hp hno RG BQ B3 R4 B4
        cases g with
        | none =>
          have EQ := Hd.mk (show eqM L M = false from eqM_no H1.out.nodup HP.out (by rw [show mget M _ = none from HQ.out]; simp))
          simp only [Option.isSome_none] at lk
          clear HZ
          subst hW4
          go_wp2_with fail
          go_ret
          exact ⟨by rw [EQ.out]; rfl, BF.out⟩
        | some z' =>
          obtain rfl := HZ.out
          simp only [Option.isSome_some] at lk
          have TE := Hd.mk (note_eq t0 z0 t1 z1 e0 z2 e1 z3)
          cases hq2 : (t0 == z0 && (t1.toList == z1.toList && (e0 == z2 && (e1 == z3)))) with
          | true =>
            have CO2 := Hd.mk (show mget M _ = some _ from HQ.out.trans (congrArg some (of_decide_eq_true (TE.out.symm.trans hq2)).symm))
            clear HZ TE
            subst hW4
            go_wp2_with fail
            go_roundg c5
            case measure => omega
            case rel => exact ⟨_, c5, Nat.le_refl _, RF, BF, ⟨fun p hp => by
              rcases List.mem_append.1 hp with hp | hp
              · exact CO.out p hp
              · obtain rfl := List.mem_singleton.1 hp
                exact CO2.out⟩⟩
          | false =>
            have EQ := Hd.mk (show eqM L M = false from eqM_no H1.out.nodup HP.out (by rw [show mget M _ = some _ from HQ.out]; intro e; exact of_decide_eq_false (TE.out.symm.trans hq2) (Option.some.inj e).symm))
            clear HZ TE
            subst hW4
            go_wp2_with fail
            go_ret
            exact ⟨by rw [EQ.out]; rfl, BF.out⟩
  · have EQ := Hd.mk (show eqM L M = false from eqM_len H1.out.nodup H2.out.nodup hl)
    have b1 : ((L.length : Int) == (M.length : Int)) = false := by simp; omega
    have b2 : decide ((L.length : Int) = (M.length : Int)) = false := by simp; omega
    have b3 : ¬ (L.length : Int) = (M.length : Int) := by omega
    go_wp2_with fail
    go_ret
    exact ⟨by rw [EQ.out]; rfl, Below.refl _ _⟩
theorem eqW_run (w : World) (m1 m2 : Nat) (L M : List (S131 × Int)) (h1 : MapIs CW w m1 L) (h2 : MapIs CW w m2 M) :
    Calls Tryz.prog 130 #[.map (some m1), .map (some m2)] w fun e w' => e = .returned (.bool (eqM L M)) ∧ Below w.heap.size w w' := by
  have H1 := Hd.mk h1
  have H2 := Hd.mk h2
  have l1 : (Builtin.len_ #[124] 3 #[.map (some m1)]).run Tryz.prog w = .ok (.int .i64 L.length) w := h1.len 3
  have l2 : (Builtin.len_ #[124] 3 #[.map (some m2)]).run Tryz.prog w = .ok (.int .i64 M.length) w := h2.len 3
  clear h1 h2
  go_enter Tryz.func130, Tryz.ntmps130
  by_cases hl : L.length = M.length
  · have HL := Hd.mk hl
    have b1 : ((L.length : Int) == (M.length : Int)) = true := by simp [hl]
    have b2 : decide ((L.length : Int) = (M.length : Int)) = true := by simp [hl]
    have b3 : (L.length : Int) = (M.length : Int) := by omega
    rw [b3] at l1
    clear b1 b2 b3 hl
    go_wp2_with (at_range; refine wpL_range w CW rfl _ rfl m1 L rfl H1.out ?_; intro w1 hr hg hs; have RG := Hd.mk hr; have BW := Hd.mk (show Below w.heap.size w w1 from (Below.refl _ _).grown hg (Nat.le_refl _) (by simp)); clear hr hg hs)
    go_frame
    go_loopg [] L.length (fun gg wq => ∃ (outs : List (S131 × Int)) (cn : Nat), cn ≤ gg ∧ Hd (Rng CW wq m1 w.heap.size L outs cn) ∧ Hd (Below w.heap.size w wq) ∧ Hd (∀ p ∈ outs, mget M p.1 = some p.2))
    case atStart => exact ⟨[], L.length, Nat.le_refl _, RG, BW, ⟨fun p hp => absurd hp (by simp)⟩⟩
    case round =>
      clear RG BW l1 l2
      obtain ⟨outs, cn, hg, RG, BQ, CO⟩ := hrel
      go_wp2_with (at_next; refine wpL_next _ CW rfl _ rfl m1 w.heap.size L outs cn rfl RG.out ?gd ?gm)
      case gd =>
        intro hd
        have EQ := Hd.mk (show eqM L M = true from eqM_yes H1.out.nodup H2.out.nodup HL.out fun p hp => CO.out p (hd.mem_iff.2 hp))
        clear hd
        go_wp2_with fail
        go_ret
        exact ⟨by rw [EQ.out]; rfl, BQ.out⟩
      case gm =>
        intro x y w3 c5 hp hno hr2 hlt hg2 hs2 hen
        obtain ⟨d0, d1, d2⟩ := x
        change (Instr.entry _).run _ _ = .ok (.tuple #[.agg #[.int .i64 d0, .int .i64 d1, .int .i64 d2], .int .i64 y]) w3 at hen
        have B3 : Below w.heap.size w w3 := BQ.out.grown hg2 BQ.out.size (by simp)
        have OKD := Hd.mk (H1.out.ok _ hp)
        have HP := Hd.mk hp
        obtain ⟨W4, hW4⟩ : ∃ W4, W4 = w3.alloc (.cells #[.int .i64 d0, .int .i64 d1, .int .i64 d2] 131) := ⟨_, rfl⟩
        have B4 := Hd.mk (show Below w.heap.size w W4 by rw [hW4]; exact below_alloc B3 _)
        have R4 := Hd.mk (show Rng CW W4 m1 w.heap.size L _ c5 by rw [hW4]; exact hr2.below (below_alloc (Below.refl _ _) _))
        have D4 := Hd.mk (show W4.heap[w3.heap.size]? = some (Obj.cells #[.int .i64 d0, .int .i64 d1, .int .i64 d2] 131 (0, 0)) by rw [hW4]; exact alloc_at _ _ _ rfl)
        rw [hW4] at D4
        have k0 := cell_of D4.out 0 rfl
        have k1 := cell_of D4.out 1 rfl
        have k2 := cell_of D4.out 2 rfl
        have lk := (H2.out.below B4.out H2.out.lt).look_ok OKD.out
        generalize hq : mget M _ = g at lk
        have HQ := Hd.mk hq
        generalize hz : g.getD CW.z = z at lk
        have HZ := Hd.mk hz
        clear hq hz
        change (Instr.lookup 124 _ (.agg #[.int .i64 d0, .int .i64 d1, .int .i64 d2]) true).run _ _ = .ok (.tuple #[.int .i64 z, .bool g.isSome]) _ at lk
        have BF := Hd.mk (show Below w.heap.size w (W4) from B4.out)
        have RF := Hd.mk (show Rng CW (W4) m1 w.heap.size L _ c5 from R4.out)
        rw [hW4] at lk BF RF
        clear hr2 hg2 hs2 hp hno RG BQ B3 R4 B4
        cases g with
        | none =>
          have EQ := Hd.mk (show eqM L M = false from eqM_no H1.out.nodup HP.out (by rw [show mget M _ = none from HQ.out]; simp))
          simp only [Option.isSome_none] at lk
          clear HZ
          subst hW4
          go_wp2_with fail
          go_ret
          exact ⟨by rw [EQ.out]; rfl, BF.out⟩
        | some z' =>
          obtain rfl := HZ.out
          simp only [Option.isSome_some] at lk
          have TE := Hd.mk (show (y == z') = decide (y = z') from rfl)
          cases hq2 : (y == z') with
          | true =>
            have CO2 := Hd.mk (show mget M _ = some _ from HQ.out.trans (congrArg some (of_decide_eq_true (TE.out.symm.trans hq2)).symm))
            clear HZ TE
            subst hW4
            go_wp2_with fail
            go_roundg c5
            case measure => omega
            case rel => exact ⟨_, c5, Nat.le_refl _, RF, BF, ⟨fun p hp => by
              rcases List.mem_append.1 hp with hp | hp
              · exact CO.out p hp
              · obtain rfl := List.mem_singleton.1 hp
                exact CO2.out⟩⟩
          | false =>
            have EQ := Hd.mk (show eqM L M = false from eqM_no H1.out.nodup HP.out (by rw [show mget M _ = some _ from HQ.out]; intro e; exact of_decide_eq_false (TE.out.symm.trans hq2) (Option.some.inj e).symm))
            clear HZ TE
            subst hW4
            go_wp2_with fail
            go_ret
            exact ⟨by rw [EQ.out]; rfl, BF.out⟩
  · have EQ := Hd.mk (show eqM L M = false from eqM_len H1.out.nodup H2.out.nodup hl)
    have b1 : ((L.length : Int) == (M.length : Int)) = false := by simp; omega
    have b2 : decide ((L.length : Int) = (M.length : Int)) = false := by simp; omega
    have b3 : ¬ (L.length : Int) = (M.length : Int) := by omega
    go_wp2_with fail
    go_ret
    exact ⟨by rw [EQ.out]; rfl, Below.refl _ _⟩
end Go.Proofs.YtmeaeapopfcmbaaGreat
