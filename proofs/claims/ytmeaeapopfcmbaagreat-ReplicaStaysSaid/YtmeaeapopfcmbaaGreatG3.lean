/- Several texts in one: B11 P4 B12 B13 B14 B15 B16 B17 B18. No conditions. -/
import Derived.Test.YtmeaeapopfcmbaaGreatG2
import Derived.Test.YtmeaeapopfcmbaaGreatG1
import Derived.Laws.CopyOwn
import Derived.Deep.DeepCutAuto
namespace Go.Proofs.YtmeaeapopfcmbaaGreat
open Go.RowKit Go.Proofs.YtmeaeapopfcmbaaGreatW.PrintWords Go.Proofs.YtmeaeapopfcmbaaGreatW.PrintLast Go.Proofs.YtmeaeapopfcmbaaGreatW.PrintMore PP
set_option linter.unusedVariables false
set_option linter.unusedSimpArgs false
set_option maxHeartbeats 4000000
set_option maxRecDepth 100000
/-- Behind some operations of a region that draws: the rest is quiet. -/
theorem wpAny_rest {P : Program} {C : World → Prop} {Q : Exit → Go.Act → World → Prop} {a : Go.Act} {w : World} {ops : Array Oper} {fuel : Nat} {listed : Array Bool} (k : Nat) (rest : List Oper) (hf : fuel = rest.length) (hs : Region.noSelect ops = true) (hl : rest = ops.toList.drop k) (hB : Region.lexFrom .any ops rest.length k listed = true) (hC : C w)
    (h : wpQuiet P ops C (fun a' => ∀ w', C w' → Q .normal a' w') rest a) : wpAny P .any ops Q fuel listed a w := by
  subst hf
  exact wpAny_of_quiet (Q := fun a' => ∀ w', C w' → Q .normal a' w') (fun _ w' hw' h => h w' hw') _ _ _ _ hC (wpAnyQ_lex hs rest k listed a (fun j => by rw [hl, List.getElem?_drop]; simp) hB h)
instance : Inhabited S99 := ⟨z99⟩
instance : Inhabited S102 := ⟨z102⟩
instance : Inhabited S108 := ⟨z108⟩
instance : Inhabited S111 := ⟨z111⟩
theorem rdT (zs : List S99) (j : Nat) : rd_T99 zs (j : Int) = zs[j]! := by
  unfold rd_T99
  rw [Int.toNat_natCast, List.getElem!_eq_getElem?_getD, List.getD_eq_getElem?_getD]
  rfl
/-- What rising asks of its closure. -/
structure Rise {α : Type} (c : α → α → Int) (v : α → Value) (may : Nat) (kc : Nat) (w0 : World) (l : List α) [Inhabited α] (p : Nat → Bool) (I : Nat → World → Prop) (J : World → Prop) : Prop where
  base : ∀ i W, I i W → J W
  jb : ∀ W, J W → Below w0.heap.size w0 W
  js : ∀ W W', J W → Below W.heap.size W W' → J W'
  st : ∀ i W W', I i W → Below W.heap.size W W' → I i W'
  call : ∀ i W, i < l.length → I i W → Calls Tryz.prog may #[v l[i]!, .pointer (some ⟨kc, 0, none⟩)] W fun e w' => e = .returned (.bool (p i)) ∧ (p i = true → I (i + 1) w') ∧ J w' ∧ (∀ (b : Nat) (cs : Array Value) (t : Nat) (z : Nat × Nat), W.heap[b]? = some (Obj.cells cs t z) → w'.heap[b]? = W.heap[b]?)
/-- All are as they may be, and ascend. -/
def Rises {α : Type} [Inhabited α] (c : α → α → Int) (l : List α) (p : Nat → Bool) : Prop := ∀ i, i < l.length → p i = true ∧ (0 < i → c l[i - 1]! l[i]! < 0)
/-- What rising answers. -/
structure RiseRes {α : Type} [Inhabited α] (c : α → α → Int) (l : List α) (p : Nat → Bool) (I : Nat → World → Prop) (J : World → Prop) (b : Bool) (w' : World) : Prop where
  ans : b = true ↔ Rises c l p
  inv : b = true → I l.length w'
  base : J w'
theorem risingT_run (w w0 : World) (A : Option Addr) (cp kc : Nat) (l : List S99) (p : Nat → Bool) (I : Nat → World → Prop) (J : World → Prop) (hC : Kd.C k99 w0 A l.length l) (hbig : l.length < 9223372036854775807) (h : Rise cmpT vT 99 kc w0 l p I J) (hI : I 0 w) :
    Calls Tryz.prog 97 #[.slice A l.length cp, .func (.func 98) #[] #[], .func (.func 99) #[] #[.pointer (some ⟨kc, 0, none⟩)]] w fun e w' => ∃ b : Bool, e = .returned (.bool b) ∧ RiseRes cmpT l p I J b w' := by
  have HC := Hd.mk hC
  have H := Hd.mk h
  have HI := Hd.mk hI
  have CM := Hd.mk compareTags_run
  clear hC h hI
  go_enter Tryz.func97, Tryz.ntmps97
  go_wp2_with fail
  go_loopg [11] l.length (fun gg s11 wr => ∃ i : Nat, s11 = .int .i64 i ∧ i + gg = l.length ∧ Hd (I i wr) ∧ Hd (∀ j, j < i → p j = true ∧ (0 < j → cmpT l[j - 1]! l[j]! < 0)))
  case atStart => exact ⟨0, rfl, by omega, HI, ⟨fun j hj => absurd hj (Nat.not_lt_zero _)⟩⟩
  case round =>
    clear HI
    obtain ⟨i, rfl, hg, HI, HA⟩ := hrel
    by_cases hlt : i < l.length
    · have hltz : (i : Int) < (l.length : Int) := by omega
      have HLT := Hd.mk hlt
      have BB := Hd.mk (H.out.jb _ (H.out.base i wr HI.out))
      have LOOK := Hd.mk (fun (W : World) (hb : Below w0.heap.size w0 W) (j : Nat) (hj : j < l.length) => at_T99 (Kd.C_below HC.out hb) (j : Int) (by omega) (by omega))
      obtain ⟨ad, rfl, x0, x1, x2, x3⟩ := LOOK.out wr BB.out i hlt
      rw [rdT, Int.toNat_natCast] at x0 x1 x2 x3
      generalize hy : l[i]! = y at x0 x1 x2 x3
      have HY := Hd.mk hy
      clear hy
      obtain ⟨y0, y1, y2, y3⟩ := y
      simp only at x0 x1 x2 x3
      have BX : Below wr.heap.size wr (wr.alloc (.cells #[.int .i64 y0, .string y1, .int .i64 y2, .int .i64 y3] 99)) := below_alloc (Below.refl _ _) _
      have I2 := Hd.mk (H.out.st i _ _ HI.out BX)
      have XB := Hd.mk (alloc_at wr (.cells #[.int .i64 y0, .string y1, .int .i64 y2, .int .i64 y3] 99) _ rfl)
      clear BX
      have CALL := Hd.mk (H.out.call i _ HLT.out (H.out.st i _ _ I2.out (Below.drew (Below.refl _ _))))
      rw [HY.out] at CALL
      have CB : Hd (∀ w2 : World, (∀ (b : Nat) (cs : Array Value) (t : Nat) (z : Nat × Nat), (wr.alloc (.cells #[.int .i64 y0, .string y1, .int .i64 y2, .int .i64 y3] 99)).drew.heap[b]? = some (Obj.cells cs t z) → w2.heap[b]? = (wr.alloc (.cells #[.int .i64 y0, .string y1, .int .i64 y2, .int .i64 y3] 99)).drew.heap[b]?) → w2.heap[wr.heap.size]? = some (Obj.cells #[.int .i64 y0, .string y1, .int .i64 y2, .int .i64 y3] 99 (0, 0))) := ⟨fun w2 hk => (hk _ _ _ _ XB.out).trans XB.out⟩
      cases hp : p i with
      | false =>
        rw [hp] at CALL
        have NR := Hd.mk (show ¬ Rises cmpT l p from fun hr => by have := (hr i HLT.out).1; rw [hp] at this; exact absurd this (by simp))
        go_wp2_with fail
        refine wp_region_any (by kernel_rfl) ?_
        change wpAny _ _ _ _ _ _ _ (World.drew _)
        refine wpAny_take (i := 0) (v := .func (.func 99) #[] #[.pointer (some ⟨kc, 0, none⟩)]) rfl (by kernel_rfl) (by kernel_rfl) (by kernel_rfl) (fun _ _ _ h => h) (Or.inl ⟨by rfl, ?_⟩) ?_
        · intro w
          go_simp
        refine wpAny_ready (rs := [1]) (by kernel_rfl) (by simp) ?_
        refine AllReady.cons rfl (fun K hK => ?_) AllReady.nil
        go_simp
        refine hK _ _ ?_
        clear hK K
        refine wpAny_ready (rs := [2]) (by kernel_rfl) (by simp) ?_
        refine AllReady.cons rfl (fun K hK => ?_) AllReady.nil
        go_simp
        refine CALL.out.mono ?_
        rintro e w2 ⟨rfl, hI2, hB2, hK2⟩
        have hB : Hd (∀ W, Below w2.heap.size w2 W → J W) := ⟨fun W hW => H.out.js _ _ hB2 hW⟩
        simp only
        refine hK _ _ ?_
        clear hK K hB2 hI2 hK2
        refine wpAny_rest 3 _ rfl (by kernel_rfl) rfl (by kernel_rfl) (C := fun W => Below w2.heap.size w2 W) (Below.refl _ _) ?_
        repeat (first
          | go_big_quiet_skip
          | (go_big_quiet_want; go_big_quiet_op; first
            | go_big_quiet_on
            | (refine ⟨_, fun _ _ => by with_reducible rfl, ?_⟩; go_big_quiet_on)
            | (apply Exists.intro
               refine ⟨fun W hW => ?_, ?_⟩
               · first
                 | fail
               go_big_quiet_on)))
        refine wpQuiet_nil ?_
        intro W hW
        have HW := Hd.mk (hB.out W hW)
        clear hW
        go_wp2_with fail
        go_ret
        exact ⟨false, rfl, ⟨fun h => absurd h (by simp), fun h => absurd h NR.out⟩, fun h => absurd h (by simp), HW.out⟩
      | true =>
        rw [hp] at CALL
        by_cases h0 : i = 0
        · have hiN : decide (0 < i) = false := decide_eq_false (by omega)
          have HA2 := Hd.mk (show ∀ j, j < i + 1 → p j = true ∧ (0 < j → cmpT l[j - 1]! l[j]! < 0) from fun j hj => by
            obtain rfl : j = i := by omega
            exact ⟨hp, fun h => absurd h (by omega)⟩)
          have H0 := Hd.mk h0
          clear h0
          go_wp2_with fail
          refine wp_region_any (by kernel_rfl) ?_
          change wpAny _ _ _ _ _ _ _ (World.drew _)
          refine wpAny_take (i := 0) (v := .func (.func 99) #[] #[.pointer (some ⟨kc, 0, none⟩)]) rfl (by kernel_rfl) (by kernel_rfl) (by kernel_rfl) (fun _ _ _ h => h) (Or.inl ⟨by rfl, ?_⟩) ?_
          · intro w
            go_simp
          refine wpAny_ready (rs := [1]) (by kernel_rfl) (by simp) ?_
          refine AllReady.cons rfl (fun K hK => ?_) AllReady.nil
          go_simp
          refine hK _ _ ?_
          clear hK K
          refine wpAny_ready (rs := [2]) (by kernel_rfl) (by simp) ?_
          refine AllReady.cons rfl (fun K hK => ?_) AllReady.nil
          go_simp
          refine CALL.out.mono ?_
          rintro e w2 ⟨rfl, hI2, hB2, hK2⟩
          have hB : Hd (∀ W, Below w2.heap.size w2 W → I (i + 1) W) := ⟨fun W hW => H.out.st _ _ _ (hI2 (by first | rfl | trivial)) hW⟩
          simp only
          refine hK _ _ ?_
          clear hK K hB2 hI2 hK2
          refine wpAny_rest 3 _ rfl (by kernel_rfl) rfl (by kernel_rfl) (C := fun W => Below w2.heap.size w2 W) (Below.refl _ _) ?_
          repeat (first
            | go_big_quiet_skip
            | (go_big_quiet_want; go_big_quiet_op; first
              | go_big_quiet_on
              | (refine ⟨_, fun _ _ => by with_reducible rfl, ?_⟩; go_big_quiet_on)
              | (apply Exists.intro
                 refine ⟨fun W hW => ?_, ?_⟩
                 · first
                   | fail
                 go_big_quiet_on)))
          refine wpQuiet_nil ?_
          intro W hW
          have HW := Hd.mk (hB.out W hW)
          clear hW
          go_wp2_with fail
          go_roundg (l.length - (i + 1))
          case measure => omega
          case rel => exact ⟨i + 1, by go_num, by omega, HW, HA2⟩
        · have hiN : decide (0 < i) = true := decide_eq_true (by omega)
          have hi0 : (1 : Int) ≤ (i : Int) := by omega
          generalize hu : l[i - 1]! = u
          have HU := Hd.mk hu
          clear hu
          obtain ⟨u0, u1, u2, u3⟩ := u
          have CV := Hd.mk (fun W => CM.out ⟨u0, u1, u2, u3⟩ ⟨y0, y1, y2, y3⟩ W)
          have HP := Hd.mk hp
          generalize hc : cmpT (⟨u0, u1, u2, u3⟩ : S99) ⟨y0, y1, y2, y3⟩ = c at CV
          have HCC := Hd.mk hc
          clear hc hp
          by_cases hc : 0 ≤ c
          · have NR := Hd.mk (show ¬ Rises cmpT l p from fun hr => by
              have := (hr i HLT.out).2 (by omega)
              rw [HU.out, HY.out, HCC.out] at this
              omega)
            go_wp2_with fail
            refine wp_region_any (by kernel_rfl) ?_
            change wpAny _ _ _ _ _ _ _ (World.drew _)
            refine wpAny_take (i := 0) (v := .func (.func 99) #[] #[.pointer (some ⟨kc, 0, none⟩)]) rfl (by kernel_rfl) (by kernel_rfl) (by kernel_rfl) (fun _ _ _ h => h) (Or.inl ⟨by rfl, ?_⟩) ?_
            · intro w
              go_simp
            refine wpAny_ready (rs := [1]) (by kernel_rfl) (by simp) ?_
            refine AllReady.cons rfl (fun K hK => ?_) AllReady.nil
            go_simp
            refine hK _ _ ?_
            clear hK K
            refine wpAny_ready (rs := [2]) (by kernel_rfl) (by simp) ?_
            refine AllReady.cons rfl (fun K hK => ?_) AllReady.nil
            go_simp
            refine CALL.out.mono ?_
            rintro e w2 ⟨rfl, hI2, hB2, hK2⟩
            have hB : Hd (∀ W, Below w2.heap.size w2 W → I (i + 1) W) := ⟨fun W hW => H.out.st _ _ _ (hI2 (by first | rfl | trivial)) hW⟩
            have XC := CB.out w2 hK2
            have FB : Hd (∀ W, Below w2.heap.size w2 W → W.heap[wr.heap.size]? = some (Obj.cells #[.int .i64 y0, .string y1, .int .i64 y2, .int .i64 y3] 99 (0, 0))) := ⟨fun W hW => (hW.block _ (Array.getElem?_eq_some_iff.1 XC).1).trans XC⟩
            have BJ : Hd (∀ W, Below w2.heap.size w2 W → J W) := ⟨fun W hW => H.out.js _ _ hB2 hW⟩
            have BI : Hd (∀ W, Below w2.heap.size w2 W → Below w0.heap.size w0 W) := ⟨fun W hW => H.out.jb _ (BJ.out W hW)⟩
            clear XC
            simp only
            refine hK _ _ ?_
            clear hK K hB2 hI2 hK2
            refine wpAny_rest 3 _ rfl (by kernel_rfl) rfl (by kernel_rfl) (C := fun W => Below w2.heap.size w2 W) (Below.refl _ _) ?_
            repeat (first
              | go_big_quiet_skip
              | (go_big_quiet_want; go_big_quiet_op; first
                | go_big_quiet_on
                | (refine ⟨_, fun _ _ => by with_reducible rfl, ?_⟩; go_big_quiet_on)
                | (apply Exists.intro
                   refine ⟨fun W hW => ?_, ?_⟩
                   · first
                     | (go_at_call 98; exact (CV.out W).mono (fun e w' h => ⟨h.1, hW.trans (h.2.mono hW.size)⟩))
                     | (have q0 := cell_of (FB.out W hW) 0 rfl; have q1 := cell_of (FB.out W hW) 1 rfl; have q2 := cell_of (FB.out W hW) 2 rfl; have q3 := cell_of (FB.out W hW) 3 rfl; obtain ⟨_, he, x0, x1, x2, x3⟩ := LOOK.out W (BI.out W hW) (i - 1) (by omega); obtain rfl := Option.some.inj he; rw [rdT, Int.toNat_natCast, HU.out] at x0 x1 x2 x3; simp only at q0 q1 q2 q3 x0 x1 x2 x3; go_simp; first | done | rfl)
                   go_big_quiet_on)))
            refine wpQuiet_nil ?_
            intro W hW
            have HW := Hd.mk (BJ.out W hW)
            clear hW
            go_wp2_with fail
            go_ret
            exact ⟨false, rfl, ⟨fun h => absurd h (by simp), fun h => absurd h NR.out⟩, fun h => absurd h (by simp), HW.out⟩
          · have HA2 := Hd.mk (show ∀ j, j < i + 1 → p j = true ∧ (0 < j → cmpT l[j - 1]! l[j]! < 0) from fun j hj => by
              by_cases e : j = i
              · subst e
                refine ⟨HP.out, fun _ => ?_⟩
                rw [HU.out, HY.out, HCC.out]
                omega
              · exact HA.out j (by omega))
            go_wp2_with fail
            refine wp_region_any (by kernel_rfl) ?_
            change wpAny _ _ _ _ _ _ _ (World.drew _)
            refine wpAny_take (i := 0) (v := .func (.func 99) #[] #[.pointer (some ⟨kc, 0, none⟩)]) rfl (by kernel_rfl) (by kernel_rfl) (by kernel_rfl) (fun _ _ _ h => h) (Or.inl ⟨by rfl, ?_⟩) ?_
            · intro w
              go_simp
            refine wpAny_ready (rs := [1]) (by kernel_rfl) (by simp) ?_
            refine AllReady.cons rfl (fun K hK => ?_) AllReady.nil
            go_simp
            refine hK _ _ ?_
            clear hK K
            refine wpAny_ready (rs := [2]) (by kernel_rfl) (by simp) ?_
            refine AllReady.cons rfl (fun K hK => ?_) AllReady.nil
            go_simp
            refine CALL.out.mono ?_
            rintro e w2 ⟨rfl, hI2, hB2, hK2⟩
            have hB : Hd (∀ W, Below w2.heap.size w2 W → I (i + 1) W) := ⟨fun W hW => H.out.st _ _ _ (hI2 (by first | rfl | trivial)) hW⟩
            have XC := CB.out w2 hK2
            have FB : Hd (∀ W, Below w2.heap.size w2 W → W.heap[wr.heap.size]? = some (Obj.cells #[.int .i64 y0, .string y1, .int .i64 y2, .int .i64 y3] 99 (0, 0))) := ⟨fun W hW => (hW.block _ (Array.getElem?_eq_some_iff.1 XC).1).trans XC⟩
            have BJ : Hd (∀ W, Below w2.heap.size w2 W → J W) := ⟨fun W hW => H.out.js _ _ hB2 hW⟩
            have BI : Hd (∀ W, Below w2.heap.size w2 W → Below w0.heap.size w0 W) := ⟨fun W hW => H.out.jb _ (BJ.out W hW)⟩
            clear XC
            simp only
            refine hK _ _ ?_
            clear hK K hB2 hI2 hK2
            refine wpAny_rest 3 _ rfl (by kernel_rfl) rfl (by kernel_rfl) (C := fun W => Below w2.heap.size w2 W) (Below.refl _ _) ?_
            repeat (first
              | go_big_quiet_skip
              | (go_big_quiet_want; go_big_quiet_op; first
                | go_big_quiet_on
                | (refine ⟨_, fun _ _ => by with_reducible rfl, ?_⟩; go_big_quiet_on)
                | (apply Exists.intro
                   refine ⟨fun W hW => ?_, ?_⟩
                   · first
                     | (go_at_call 98; exact (CV.out W).mono (fun e w' h => ⟨h.1, hW.trans (h.2.mono hW.size)⟩))
                     | (have q0 := cell_of (FB.out W hW) 0 rfl; have q1 := cell_of (FB.out W hW) 1 rfl; have q2 := cell_of (FB.out W hW) 2 rfl; have q3 := cell_of (FB.out W hW) 3 rfl; obtain ⟨_, he, x0, x1, x2, x3⟩ := LOOK.out W (BI.out W hW) (i - 1) (by omega); obtain rfl := Option.some.inj he; rw [rdT, Int.toNat_natCast, HU.out] at x0 x1 x2 x3; simp only at q0 q1 q2 q3 x0 x1 x2 x3; go_simp; first | done | rfl)
                   go_big_quiet_on)))
            refine wpQuiet_nil ?_
            intro W hW
            have HW := Hd.mk (hB.out W hW)
            clear hW
            go_wp2_with fail
            go_roundg (l.length - (i + 1))
            case measure => omega
            case rel => exact ⟨i + 1, by go_num, by omega, HW, HA2⟩
    · have hltz : ¬ (i : Int) < (l.length : Int) := by omega
      have e1 : i = l.length := by omega
      have R := Hd.mk (show Rises cmpT l p from fun j hj => HA.out j (by omega))
      have BB := Hd.mk (H.out.base i wr HI.out)
      have IL := Hd.mk (show I l.length wr by rw [← e1]; exact HI.out)
      clear e1
      go_wp2_with fail
      go_ret
      exact .inr ⟨rfl, ⟨fun _ => R.out, fun _ => rfl⟩, fun _ => IL.out, BB.out⟩
theorem rdN (zs : List S102) (j : Nat) : rd_T102 zs (j : Int) = zs[j]! := by
  unfold rd_T102
  rw [Int.toNat_natCast, List.getElem!_eq_getElem?_getD, List.getD_eq_getElem?_getD]
  rfl
theorem risingN_run (w w0 : World) (A : Option Addr) (cp kc : Nat) (l : List S102) (p : Nat → Bool) (I : Nat → World → Prop) (J : World → Prop) (hC : Kd.C k102 w0 A l.length l) (hbig : l.length < 9223372036854775807) (h : Rise cmpM vN 103 kc w0 l p I J) (hI : I 0 w) :
    Calls Tryz.prog 100 #[.slice A l.length cp, .func (.func 101) #[] #[], .func (.func 103) #[] #[.pointer (some ⟨kc, 0, none⟩)]] w fun e w' => ∃ b : Bool, e = .returned (.bool b) ∧ RiseRes cmpM l p I J b w' := by
  have HC := Hd.mk hC
  have H := Hd.mk h
  have HI := Hd.mk hI
  have CM := Hd.mk (fun x y w => stone3_run w x y)
  clear hC h hI
  go_enter Tryz.func100, Tryz.ntmps100
  go_wp2_with fail
  go_loopg [11] l.length (fun gg s11 wr => ∃ i : Nat, s11 = .int .i64 i ∧ i + gg = l.length ∧ Hd (I i wr) ∧ Hd (∀ j, j < i → p j = true ∧ (0 < j → cmpM l[j - 1]! l[j]! < 0)))
  case atStart => exact ⟨0, rfl, by omega, HI, ⟨fun j hj => absurd hj (Nat.not_lt_zero _)⟩⟩
  case round =>
    clear HI
    obtain ⟨i, rfl, hg, HI, HA⟩ := hrel
    by_cases hlt : i < l.length
    · have hltz : (i : Int) < (l.length : Int) := by omega
      have HLT := Hd.mk hlt
      have BB := Hd.mk (H.out.jb _ (H.out.base i wr HI.out))
      have LOOK := Hd.mk (fun (W : World) (hb : Below w0.heap.size w0 W) (j : Nat) (hj : j < l.length) => at_T102 (Kd.C_below HC.out hb) (j : Int) (by omega) (by omega))
      obtain ⟨ad, rfl, x0, x1, x2, x3⟩ := LOOK.out wr BB.out i hlt
      rw [rdN, Int.toNat_natCast] at x0 x1 x2 x3
      generalize hy : l[i]! = y at x0 x1 x2 x3
      have HY := Hd.mk hy
      clear hy
      obtain ⟨y0, y1, y2, y3⟩ := y
      simp only at x0 x1 x2 x3
      have BX : Below wr.heap.size wr (wr.alloc (.cells #[.int .i64 y0, .string y1, .int .i64 y2, .int .i64 y3] 102)) := below_alloc (Below.refl _ _) _
      have I2 := Hd.mk (H.out.st i _ _ HI.out BX)
      have XB := Hd.mk (alloc_at wr (.cells #[.int .i64 y0, .string y1, .int .i64 y2, .int .i64 y3] 102) _ rfl)
      clear BX
      have CALL := Hd.mk (H.out.call i _ HLT.out (H.out.st i _ _ I2.out (Below.drew (Below.refl _ _))))
      rw [HY.out] at CALL
      have CB : Hd (∀ w2 : World, (∀ (b : Nat) (cs : Array Value) (t : Nat) (z : Nat × Nat), (wr.alloc (.cells #[.int .i64 y0, .string y1, .int .i64 y2, .int .i64 y3] 102)).drew.heap[b]? = some (Obj.cells cs t z) → w2.heap[b]? = (wr.alloc (.cells #[.int .i64 y0, .string y1, .int .i64 y2, .int .i64 y3] 102)).drew.heap[b]?) → w2.heap[wr.heap.size]? = some (Obj.cells #[.int .i64 y0, .string y1, .int .i64 y2, .int .i64 y3] 102 (0, 0))) := ⟨fun w2 hk => (hk _ _ _ _ XB.out).trans XB.out⟩
      cases hp : p i with
      | false =>
        rw [hp] at CALL
        have NR := Hd.mk (show ¬ Rises cmpM l p from fun hr => by have := (hr i HLT.out).1; rw [hp] at this; exact absurd this (by simp))
        go_wp2_with fail
        refine wp_region_any (by kernel_rfl) ?_
        change wpAny _ _ _ _ _ _ _ (World.drew _)
        refine wpAny_take (i := 0) (v := .func (.func 103) #[] #[.pointer (some ⟨kc, 0, none⟩)]) rfl (by kernel_rfl) (by kernel_rfl) (by kernel_rfl) (fun _ _ _ h => h) (Or.inl ⟨by rfl, ?_⟩) ?_
        · intro w
          go_simp
        refine wpAny_ready (rs := [1]) (by kernel_rfl) (by simp) ?_
        refine AllReady.cons rfl (fun K hK => ?_) AllReady.nil
        go_simp
        refine hK _ _ ?_
        clear hK K
        refine wpAny_ready (rs := [2]) (by kernel_rfl) (by simp) ?_
        refine AllReady.cons rfl (fun K hK => ?_) AllReady.nil
        go_simp
        refine CALL.out.mono ?_
        rintro e w2 ⟨rfl, hI2, hB2, hK2⟩
        have hB : Hd (∀ W, Below w2.heap.size w2 W → J W) := ⟨fun W hW => H.out.js _ _ hB2 hW⟩
        simp only
        refine hK _ _ ?_
        clear hK K hB2 hI2 hK2
        refine wpAny_rest 3 _ rfl (by kernel_rfl) rfl (by kernel_rfl) (C := fun W => Below w2.heap.size w2 W) (Below.refl _ _) ?_
        repeat (first
          | go_big_quiet_skip
          | (go_big_quiet_want; go_big_quiet_op; first
            | go_big_quiet_on
            | (refine ⟨_, fun _ _ => by with_reducible rfl, ?_⟩; go_big_quiet_on)
            | (apply Exists.intro
               refine ⟨fun W hW => ?_, ?_⟩
               · first
                 | fail
               go_big_quiet_on)))
        refine wpQuiet_nil ?_
        intro W hW
        have HW := Hd.mk (hB.out W hW)
        clear hW
        go_wp2_with fail
        go_ret
        exact ⟨false, rfl, ⟨fun h => absurd h (by simp), fun h => absurd h NR.out⟩, fun h => absurd h (by simp), HW.out⟩
      | true =>
        rw [hp] at CALL
        by_cases h0 : i = 0
        · have hiN : decide (0 < i) = false := decide_eq_false (by omega)
          have HA2 := Hd.mk (show ∀ j, j < i + 1 → p j = true ∧ (0 < j → cmpM l[j - 1]! l[j]! < 0) from fun j hj => by
            obtain rfl : j = i := by omega
            exact ⟨hp, fun h => absurd h (by omega)⟩)
          have H0 := Hd.mk h0
          clear h0
          go_wp2_with fail
          refine wp_region_any (by kernel_rfl) ?_
          change wpAny _ _ _ _ _ _ _ (World.drew _)
          refine wpAny_take (i := 0) (v := .func (.func 103) #[] #[.pointer (some ⟨kc, 0, none⟩)]) rfl (by kernel_rfl) (by kernel_rfl) (by kernel_rfl) (fun _ _ _ h => h) (Or.inl ⟨by rfl, ?_⟩) ?_
          · intro w
            go_simp
          refine wpAny_ready (rs := [1]) (by kernel_rfl) (by simp) ?_
          refine AllReady.cons rfl (fun K hK => ?_) AllReady.nil
          go_simp
          refine hK _ _ ?_
          clear hK K
          refine wpAny_ready (rs := [2]) (by kernel_rfl) (by simp) ?_
          refine AllReady.cons rfl (fun K hK => ?_) AllReady.nil
          go_simp
          refine CALL.out.mono ?_
          rintro e w2 ⟨rfl, hI2, hB2, hK2⟩
          have hB : Hd (∀ W, Below w2.heap.size w2 W → I (i + 1) W) := ⟨fun W hW => H.out.st _ _ _ (hI2 (by first | rfl | trivial)) hW⟩
          simp only
          refine hK _ _ ?_
          clear hK K hB2 hI2 hK2
          refine wpAny_rest 3 _ rfl (by kernel_rfl) rfl (by kernel_rfl) (C := fun W => Below w2.heap.size w2 W) (Below.refl _ _) ?_
          repeat (first
            | go_big_quiet_skip
            | (go_big_quiet_want; go_big_quiet_op; first
              | go_big_quiet_on
              | (refine ⟨_, fun _ _ => by with_reducible rfl, ?_⟩; go_big_quiet_on)
              | (apply Exists.intro
                 refine ⟨fun W hW => ?_, ?_⟩
                 · first
                   | fail
                 go_big_quiet_on)))
          refine wpQuiet_nil ?_
          intro W hW
          have HW := Hd.mk (hB.out W hW)
          clear hW
          go_wp2_with fail
          go_roundg (l.length - (i + 1))
          case measure => omega
          case rel => exact ⟨i + 1, by go_num, by omega, HW, HA2⟩
        · have hiN : decide (0 < i) = true := decide_eq_true (by omega)
          have hi0 : (1 : Int) ≤ (i : Int) := by omega
          generalize hu : l[i - 1]! = u
          have HU := Hd.mk hu
          clear hu
          obtain ⟨u0, u1, u2, u3⟩ := u
          have CV := Hd.mk (fun W => CM.out ⟨u0, u1, u2, u3⟩ ⟨y0, y1, y2, y3⟩ W)
          have HP := Hd.mk hp
          generalize hc : cmpM (⟨u0, u1, u2, u3⟩ : S102) ⟨y0, y1, y2, y3⟩ = c at CV
          have HCC := Hd.mk hc
          clear hc hp
          by_cases hc : 0 ≤ c
          · have NR := Hd.mk (show ¬ Rises cmpM l p from fun hr => by
              have := (hr i HLT.out).2 (by omega)
              rw [HU.out, HY.out, HCC.out] at this
              omega)
            go_wp2_with fail
            refine wp_region_any (by kernel_rfl) ?_
            change wpAny _ _ _ _ _ _ _ (World.drew _)
            refine wpAny_take (i := 0) (v := .func (.func 103) #[] #[.pointer (some ⟨kc, 0, none⟩)]) rfl (by kernel_rfl) (by kernel_rfl) (by kernel_rfl) (fun _ _ _ h => h) (Or.inl ⟨by rfl, ?_⟩) ?_
            · intro w
              go_simp
            refine wpAny_ready (rs := [1]) (by kernel_rfl) (by simp) ?_
            refine AllReady.cons rfl (fun K hK => ?_) AllReady.nil
            go_simp
            refine hK _ _ ?_
            clear hK K
            refine wpAny_ready (rs := [2]) (by kernel_rfl) (by simp) ?_
            refine AllReady.cons rfl (fun K hK => ?_) AllReady.nil
            go_simp
            refine CALL.out.mono ?_
            rintro e w2 ⟨rfl, hI2, hB2, hK2⟩
            have hB : Hd (∀ W, Below w2.heap.size w2 W → I (i + 1) W) := ⟨fun W hW => H.out.st _ _ _ (hI2 (by first | rfl | trivial)) hW⟩
            have XC := CB.out w2 hK2
            have FB : Hd (∀ W, Below w2.heap.size w2 W → W.heap[wr.heap.size]? = some (Obj.cells #[.int .i64 y0, .string y1, .int .i64 y2, .int .i64 y3] 102 (0, 0))) := ⟨fun W hW => (hW.block _ (Array.getElem?_eq_some_iff.1 XC).1).trans XC⟩
            have BJ : Hd (∀ W, Below w2.heap.size w2 W → J W) := ⟨fun W hW => H.out.js _ _ hB2 hW⟩
            have BI : Hd (∀ W, Below w2.heap.size w2 W → Below w0.heap.size w0 W) := ⟨fun W hW => H.out.jb _ (BJ.out W hW)⟩
            clear XC
            simp only
            refine hK _ _ ?_
            clear hK K hB2 hI2 hK2
            refine wpAny_rest 3 _ rfl (by kernel_rfl) rfl (by kernel_rfl) (C := fun W => Below w2.heap.size w2 W) (Below.refl _ _) ?_
            repeat (first
              | go_big_quiet_skip
              | (go_big_quiet_want; go_big_quiet_op; first
                | go_big_quiet_on
                | (refine ⟨_, fun _ _ => by with_reducible rfl, ?_⟩; go_big_quiet_on)
                | (apply Exists.intro
                   refine ⟨fun W hW => ?_, ?_⟩
                   · first
                     | (go_at_call 101; exact (CV.out W).mono (fun e w' h => ⟨h.1, hW.trans (h.2.mono hW.size)⟩))
                     | (have q0 := cell_of (FB.out W hW) 0 rfl; have q1 := cell_of (FB.out W hW) 1 rfl; have q2 := cell_of (FB.out W hW) 2 rfl; have q3 := cell_of (FB.out W hW) 3 rfl; obtain ⟨_, he, x0, x1, x2, x3⟩ := LOOK.out W (BI.out W hW) (i - 1) (by omega); obtain rfl := Option.some.inj he; rw [rdN, Int.toNat_natCast, HU.out] at x0 x1 x2 x3; simp only at q0 q1 q2 q3 x0 x1 x2 x3; go_simp; first | done | rfl)
                   go_big_quiet_on)))
            refine wpQuiet_nil ?_
            intro W hW
            have HW := Hd.mk (BJ.out W hW)
            clear hW
            go_wp2_with fail
            go_ret
            exact ⟨false, rfl, ⟨fun h => absurd h (by simp), fun h => absurd h NR.out⟩, fun h => absurd h (by simp), HW.out⟩
          · have HA2 := Hd.mk (show ∀ j, j < i + 1 → p j = true ∧ (0 < j → cmpM l[j - 1]! l[j]! < 0) from fun j hj => by
              by_cases e : j = i
              · subst e
                refine ⟨HP.out, fun _ => ?_⟩
                rw [HU.out, HY.out, HCC.out]
                omega
              · exact HA.out j (by omega))
            go_wp2_with fail
            refine wp_region_any (by kernel_rfl) ?_
            change wpAny _ _ _ _ _ _ _ (World.drew _)
            refine wpAny_take (i := 0) (v := .func (.func 103) #[] #[.pointer (some ⟨kc, 0, none⟩)]) rfl (by kernel_rfl) (by kernel_rfl) (by kernel_rfl) (fun _ _ _ h => h) (Or.inl ⟨by rfl, ?_⟩) ?_
            · intro w
              go_simp
            refine wpAny_ready (rs := [1]) (by kernel_rfl) (by simp) ?_
            refine AllReady.cons rfl (fun K hK => ?_) AllReady.nil
            go_simp
            refine hK _ _ ?_
            clear hK K
            refine wpAny_ready (rs := [2]) (by kernel_rfl) (by simp) ?_
            refine AllReady.cons rfl (fun K hK => ?_) AllReady.nil
            go_simp
            refine CALL.out.mono ?_
            rintro e w2 ⟨rfl, hI2, hB2, hK2⟩
            have hB : Hd (∀ W, Below w2.heap.size w2 W → I (i + 1) W) := ⟨fun W hW => H.out.st _ _ _ (hI2 (by first | rfl | trivial)) hW⟩
            have XC := CB.out w2 hK2
            have FB : Hd (∀ W, Below w2.heap.size w2 W → W.heap[wr.heap.size]? = some (Obj.cells #[.int .i64 y0, .string y1, .int .i64 y2, .int .i64 y3] 102 (0, 0))) := ⟨fun W hW => (hW.block _ (Array.getElem?_eq_some_iff.1 XC).1).trans XC⟩
            have BJ : Hd (∀ W, Below w2.heap.size w2 W → J W) := ⟨fun W hW => H.out.js _ _ hB2 hW⟩
            have BI : Hd (∀ W, Below w2.heap.size w2 W → Below w0.heap.size w0 W) := ⟨fun W hW => H.out.jb _ (BJ.out W hW)⟩
            clear XC
            simp only
            refine hK _ _ ?_
            clear hK K hB2 hI2 hK2
            refine wpAny_rest 3 _ rfl (by kernel_rfl) rfl (by kernel_rfl) (C := fun W => Below w2.heap.size w2 W) (Below.refl _ _) ?_
            repeat (first
              | go_big_quiet_skip
              | (go_big_quiet_want; go_big_quiet_op; first
                | go_big_quiet_on
                | (refine ⟨_, fun _ _ => by with_reducible rfl, ?_⟩; go_big_quiet_on)
                | (apply Exists.intro
                   refine ⟨fun W hW => ?_, ?_⟩
                   · first
                     | (go_at_call 101; exact (CV.out W).mono (fun e w' h => ⟨h.1, hW.trans (h.2.mono hW.size)⟩))
                     | (have q0 := cell_of (FB.out W hW) 0 rfl; have q1 := cell_of (FB.out W hW) 1 rfl; have q2 := cell_of (FB.out W hW) 2 rfl; have q3 := cell_of (FB.out W hW) 3 rfl; obtain ⟨_, he, x0, x1, x2, x3⟩ := LOOK.out W (BI.out W hW) (i - 1) (by omega); obtain rfl := Option.some.inj he; rw [rdN, Int.toNat_natCast, HU.out] at x0 x1 x2 x3; simp only at q0 q1 q2 q3 x0 x1 x2 x3; go_simp; first | done | rfl)
                   go_big_quiet_on)))
            refine wpQuiet_nil ?_
            intro W hW
            have HW := Hd.mk (hB.out W hW)
            clear hW
            go_wp2_with fail
            go_roundg (l.length - (i + 1))
            case measure => omega
            case rel => exact ⟨i + 1, by go_num, by omega, HW, HA2⟩
    · have hltz : ¬ (i : Int) < (l.length : Int) := by omega
      have e1 : i = l.length := by omega
      have R := Hd.mk (show Rises cmpM l p from fun j hj => HA.out j (by omega))
      have BB := Hd.mk (H.out.base i wr HI.out)
      have IL := Hd.mk (show I l.length wr by rw [← e1]; exact HI.out)
      clear e1
      go_wp2_with fail
      go_ret
      exact .inr ⟨rfl, ⟨fun _ => R.out, fun _ => rfl⟩, fun _ => IL.out, BB.out⟩
theorem rdR (zs : List S108) (j : Nat) : rd_T108 zs (j : Int) = zs[j]! := by
  unfold rd_T108
  rw [Int.toNat_natCast, List.getElem!_eq_getElem?_getD, List.getD_eq_getElem?_getD]
  rfl
theorem risingR_run (w w0 : World) (A : Option Addr) (cp kc : Nat) (l : List S108) (p : Nat → Bool) (I : Nat → World → Prop) (J : World → Prop) (hC : Kd.C k108 w0 A l.length l) (hbig : l.length < 9223372036854775807) (h : Rise cmpR vR 108 kc w0 l p I J) (hI : I 0 w) :
    Calls Tryz.prog 106 #[.slice A l.length cp, .func (.func 107) #[] #[], .func (.func 108) #[] #[.pointer (some ⟨kc, 0, none⟩)]] w fun e w' => ∃ b : Bool, e = .returned (.bool b) ∧ RiseRes cmpR l p I J b w' := by
  have HC := Hd.mk hC
  have H := Hd.mk h
  have HI := Hd.mk hI
  have CM := Hd.mk compareRights_run
  clear hC h hI
  go_enter Tryz.func106, Tryz.ntmps106
  go_wp2_with fail
  go_loopg [11] l.length (fun gg s11 wr => ∃ i : Nat, s11 = .int .i64 i ∧ i + gg = l.length ∧ Hd (I i wr) ∧ Hd (∀ j, j < i → p j = true ∧ (0 < j → cmpR l[j - 1]! l[j]! < 0)))
  case atStart => exact ⟨0, rfl, by omega, HI, ⟨fun j hj => absurd hj (Nat.not_lt_zero _)⟩⟩
  case round =>
    clear HI
    obtain ⟨i, rfl, hg, HI, HA⟩ := hrel
    by_cases hlt : i < l.length
    · have hltz : (i : Int) < (l.length : Int) := by omega
      have HLT := Hd.mk hlt
      have BB := Hd.mk (H.out.jb _ (H.out.base i wr HI.out))
      have LOOK := Hd.mk (fun (W : World) (hb : Below w0.heap.size w0 W) (j : Nat) (hj : j < l.length) => at_T108 (Kd.C_below HC.out hb) (j : Int) (by omega) (by omega))
      obtain ⟨ad, rfl, x0, x1, x2, x3⟩ := LOOK.out wr BB.out i hlt
      rw [rdR, Int.toNat_natCast] at x0 x1 x2 x3
      generalize hy : l[i]! = y at x0 x1 x2 x3
      have HY := Hd.mk hy
      clear hy
      obtain ⟨y0, y1, y2, y3⟩ := y
      simp only at x0 x1 x2 x3
      have BX : Below wr.heap.size wr (wr.alloc (.cells #[.int .i64 y0, .int .i64 y1, .int .i64 y2, .int .i64 y3] 108)) := below_alloc (Below.refl _ _) _
      have I2 := Hd.mk (H.out.st i _ _ HI.out BX)
      have XB := Hd.mk (alloc_at wr (.cells #[.int .i64 y0, .int .i64 y1, .int .i64 y2, .int .i64 y3] 108) _ rfl)
      clear BX
      have CALL := Hd.mk (H.out.call i _ HLT.out (H.out.st i _ _ I2.out (Below.drew (Below.refl _ _))))
      rw [HY.out] at CALL
      have CB : Hd (∀ w2 : World, (∀ (b : Nat) (cs : Array Value) (t : Nat) (z : Nat × Nat), (wr.alloc (.cells #[.int .i64 y0, .int .i64 y1, .int .i64 y2, .int .i64 y3] 108)).drew.heap[b]? = some (Obj.cells cs t z) → w2.heap[b]? = (wr.alloc (.cells #[.int .i64 y0, .int .i64 y1, .int .i64 y2, .int .i64 y3] 108)).drew.heap[b]?) → w2.heap[wr.heap.size]? = some (Obj.cells #[.int .i64 y0, .int .i64 y1, .int .i64 y2, .int .i64 y3] 108 (0, 0))) := ⟨fun w2 hk => (hk _ _ _ _ XB.out).trans XB.out⟩
      cases hp : p i with
      | false =>
        rw [hp] at CALL
        have NR := Hd.mk (show ¬ Rises cmpR l p from fun hr => by have := (hr i HLT.out).1; rw [hp] at this; exact absurd this (by simp))
        go_wp2_with fail
        refine wp_region_any (by kernel_rfl) ?_
        change wpAny _ _ _ _ _ _ _ (World.drew _)
        refine wpAny_take (i := 0) (v := .func (.func 108) #[] #[.pointer (some ⟨kc, 0, none⟩)]) rfl (by kernel_rfl) (by kernel_rfl) (by kernel_rfl) (fun _ _ _ h => h) (Or.inl ⟨by rfl, ?_⟩) ?_
        · intro w
          go_simp
        refine wpAny_ready (rs := [1]) (by kernel_rfl) (by simp) ?_
        refine AllReady.cons rfl (fun K hK => ?_) AllReady.nil
        go_simp
        refine hK _ _ ?_
        clear hK K
        refine wpAny_ready (rs := [2]) (by kernel_rfl) (by simp) ?_
        refine AllReady.cons rfl (fun K hK => ?_) AllReady.nil
        go_simp
        refine CALL.out.mono ?_
        rintro e w2 ⟨rfl, hI2, hB2, hK2⟩
        have hB : Hd (∀ W, Below w2.heap.size w2 W → J W) := ⟨fun W hW => H.out.js _ _ hB2 hW⟩
        simp only
        refine hK _ _ ?_
        clear hK K hB2 hI2 hK2
        refine wpAny_rest 3 _ rfl (by kernel_rfl) rfl (by kernel_rfl) (C := fun W => Below w2.heap.size w2 W) (Below.refl _ _) ?_
        repeat (first
          | go_big_quiet_skip
          | (go_big_quiet_want; go_big_quiet_op; first
            | go_big_quiet_on
            | (refine ⟨_, fun _ _ => by with_reducible rfl, ?_⟩; go_big_quiet_on)
            | (apply Exists.intro
               refine ⟨fun W hW => ?_, ?_⟩
               · first
                 | fail
               go_big_quiet_on)))
        refine wpQuiet_nil ?_
        intro W hW
        have HW := Hd.mk (hB.out W hW)
        clear hW
        go_wp2_with fail
        go_ret
        exact ⟨false, rfl, ⟨fun h => absurd h (by simp), fun h => absurd h NR.out⟩, fun h => absurd h (by simp), HW.out⟩
      | true =>
        rw [hp] at CALL
        by_cases h0 : i = 0
        · have hiN : decide (0 < i) = false := decide_eq_false (by omega)
          have HA2 := Hd.mk (show ∀ j, j < i + 1 → p j = true ∧ (0 < j → cmpR l[j - 1]! l[j]! < 0) from fun j hj => by
            obtain rfl : j = i := by omega
            exact ⟨hp, fun h => absurd h (by omega)⟩)
          have H0 := Hd.mk h0
          clear h0
          go_wp2_with fail
          refine wp_region_any (by kernel_rfl) ?_
          change wpAny _ _ _ _ _ _ _ (World.drew _)
          refine wpAny_take (i := 0) (v := .func (.func 108) #[] #[.pointer (some ⟨kc, 0, none⟩)]) rfl (by kernel_rfl) (by kernel_rfl) (by kernel_rfl) (fun _ _ _ h => h) (Or.inl ⟨by rfl, ?_⟩) ?_
          · intro w
            go_simp
          refine wpAny_ready (rs := [1]) (by kernel_rfl) (by simp) ?_
          refine AllReady.cons rfl (fun K hK => ?_) AllReady.nil
          go_simp
          refine hK _ _ ?_
          clear hK K
          refine wpAny_ready (rs := [2]) (by kernel_rfl) (by simp) ?_
          refine AllReady.cons rfl (fun K hK => ?_) AllReady.nil
          go_simp
          refine CALL.out.mono ?_
          rintro e w2 ⟨rfl, hI2, hB2, hK2⟩
          have hB : Hd (∀ W, Below w2.heap.size w2 W → I (i + 1) W) := ⟨fun W hW => H.out.st _ _ _ (hI2 (by first | rfl | trivial)) hW⟩
          simp only
          refine hK _ _ ?_
          clear hK K hB2 hI2 hK2
          refine wpAny_rest 3 _ rfl (by kernel_rfl) rfl (by kernel_rfl) (C := fun W => Below w2.heap.size w2 W) (Below.refl _ _) ?_
          repeat (first
            | go_big_quiet_skip
            | (go_big_quiet_want; go_big_quiet_op; first
              | go_big_quiet_on
              | (refine ⟨_, fun _ _ => by with_reducible rfl, ?_⟩; go_big_quiet_on)
              | (apply Exists.intro
                 refine ⟨fun W hW => ?_, ?_⟩
                 · first
                   | fail
                 go_big_quiet_on)))
          refine wpQuiet_nil ?_
          intro W hW
          have HW := Hd.mk (hB.out W hW)
          clear hW
          go_wp2_with fail
          go_roundg (l.length - (i + 1))
          case measure => omega
          case rel => exact ⟨i + 1, by go_num, by omega, HW, HA2⟩
        · have hiN : decide (0 < i) = true := decide_eq_true (by omega)
          have hi0 : (1 : Int) ≤ (i : Int) := by omega
          generalize hu : l[i - 1]! = u
          have HU := Hd.mk hu
          clear hu
          obtain ⟨u0, u1, u2, u3⟩ := u
          have CV := Hd.mk (fun W => CM.out ⟨u0, u1, u2, u3⟩ ⟨y0, y1, y2, y3⟩ W)
          have HP := Hd.mk hp
          generalize hc : cmpR (⟨u0, u1, u2, u3⟩ : S108) ⟨y0, y1, y2, y3⟩ = c at CV
          have HCC := Hd.mk hc
          clear hc hp
          by_cases hc : 0 ≤ c
          · have NR := Hd.mk (show ¬ Rises cmpR l p from fun hr => by
              have := (hr i HLT.out).2 (by omega)
              rw [HU.out, HY.out, HCC.out] at this
              omega)
            go_wp2_with fail
            refine wp_region_any (by kernel_rfl) ?_
            change wpAny _ _ _ _ _ _ _ (World.drew _)
            refine wpAny_take (i := 0) (v := .func (.func 108) #[] #[.pointer (some ⟨kc, 0, none⟩)]) rfl (by kernel_rfl) (by kernel_rfl) (by kernel_rfl) (fun _ _ _ h => h) (Or.inl ⟨by rfl, ?_⟩) ?_
            · intro w
              go_simp
            refine wpAny_ready (rs := [1]) (by kernel_rfl) (by simp) ?_
            refine AllReady.cons rfl (fun K hK => ?_) AllReady.nil
            go_simp
            refine hK _ _ ?_
            clear hK K
            refine wpAny_ready (rs := [2]) (by kernel_rfl) (by simp) ?_
            refine AllReady.cons rfl (fun K hK => ?_) AllReady.nil
            go_simp
            refine CALL.out.mono ?_
            rintro e w2 ⟨rfl, hI2, hB2, hK2⟩
            have hB : Hd (∀ W, Below w2.heap.size w2 W → I (i + 1) W) := ⟨fun W hW => H.out.st _ _ _ (hI2 (by first | rfl | trivial)) hW⟩
            have XC := CB.out w2 hK2
            have FB : Hd (∀ W, Below w2.heap.size w2 W → W.heap[wr.heap.size]? = some (Obj.cells #[.int .i64 y0, .int .i64 y1, .int .i64 y2, .int .i64 y3] 108 (0, 0))) := ⟨fun W hW => (hW.block _ (Array.getElem?_eq_some_iff.1 XC).1).trans XC⟩
            have BJ : Hd (∀ W, Below w2.heap.size w2 W → J W) := ⟨fun W hW => H.out.js _ _ hB2 hW⟩
            have BI : Hd (∀ W, Below w2.heap.size w2 W → Below w0.heap.size w0 W) := ⟨fun W hW => H.out.jb _ (BJ.out W hW)⟩
            clear XC
            simp only
            refine hK _ _ ?_
            clear hK K hB2 hI2 hK2
            refine wpAny_rest 3 _ rfl (by kernel_rfl) rfl (by kernel_rfl) (C := fun W => Below w2.heap.size w2 W) (Below.refl _ _) ?_
            repeat (first
              | go_big_quiet_skip
              | (go_big_quiet_want; go_big_quiet_op; first
                | go_big_quiet_on
                | (refine ⟨_, fun _ _ => by with_reducible rfl, ?_⟩; go_big_quiet_on)
                | (apply Exists.intro
                   refine ⟨fun W hW => ?_, ?_⟩
                   · first
                     | (go_at_call 107; exact (CV.out W).mono (fun e w' h => ⟨h.1, hW.trans (h.2.mono hW.size)⟩))
                     | (have q0 := cell_of (FB.out W hW) 0 rfl; have q1 := cell_of (FB.out W hW) 1 rfl; have q2 := cell_of (FB.out W hW) 2 rfl; have q3 := cell_of (FB.out W hW) 3 rfl; obtain ⟨_, he, x0, x1, x2, x3⟩ := LOOK.out W (BI.out W hW) (i - 1) (by omega); obtain rfl := Option.some.inj he; rw [rdR, Int.toNat_natCast, HU.out] at x0 x1 x2 x3; simp only at q0 q1 q2 q3 x0 x1 x2 x3; go_simp; first | done | rfl)
                   go_big_quiet_on)))
            refine wpQuiet_nil ?_
            intro W hW
            have HW := Hd.mk (BJ.out W hW)
            clear hW
            go_wp2_with fail
            go_ret
            exact ⟨false, rfl, ⟨fun h => absurd h (by simp), fun h => absurd h NR.out⟩, fun h => absurd h (by simp), HW.out⟩
          · have HA2 := Hd.mk (show ∀ j, j < i + 1 → p j = true ∧ (0 < j → cmpR l[j - 1]! l[j]! < 0) from fun j hj => by
              by_cases e : j = i
              · subst e
                refine ⟨HP.out, fun _ => ?_⟩
                rw [HU.out, HY.out, HCC.out]
                omega
              · exact HA.out j (by omega))
            go_wp2_with fail
            refine wp_region_any (by kernel_rfl) ?_
            change wpAny _ _ _ _ _ _ _ (World.drew _)
            refine wpAny_take (i := 0) (v := .func (.func 108) #[] #[.pointer (some ⟨kc, 0, none⟩)]) rfl (by kernel_rfl) (by kernel_rfl) (by kernel_rfl) (fun _ _ _ h => h) (Or.inl ⟨by rfl, ?_⟩) ?_
            · intro w
              go_simp
            refine wpAny_ready (rs := [1]) (by kernel_rfl) (by simp) ?_
            refine AllReady.cons rfl (fun K hK => ?_) AllReady.nil
            go_simp
            refine hK _ _ ?_
            clear hK K
            refine wpAny_ready (rs := [2]) (by kernel_rfl) (by simp) ?_
            refine AllReady.cons rfl (fun K hK => ?_) AllReady.nil
            go_simp
            refine CALL.out.mono ?_
            rintro e w2 ⟨rfl, hI2, hB2, hK2⟩
            have hB : Hd (∀ W, Below w2.heap.size w2 W → I (i + 1) W) := ⟨fun W hW => H.out.st _ _ _ (hI2 (by first | rfl | trivial)) hW⟩
            have XC := CB.out w2 hK2
            have FB : Hd (∀ W, Below w2.heap.size w2 W → W.heap[wr.heap.size]? = some (Obj.cells #[.int .i64 y0, .int .i64 y1, .int .i64 y2, .int .i64 y3] 108 (0, 0))) := ⟨fun W hW => (hW.block _ (Array.getElem?_eq_some_iff.1 XC).1).trans XC⟩
            have BJ : Hd (∀ W, Below w2.heap.size w2 W → J W) := ⟨fun W hW => H.out.js _ _ hB2 hW⟩
            have BI : Hd (∀ W, Below w2.heap.size w2 W → Below w0.heap.size w0 W) := ⟨fun W hW => H.out.jb _ (BJ.out W hW)⟩
            clear XC
            simp only
            refine hK _ _ ?_
            clear hK K hB2 hI2 hK2
            refine wpAny_rest 3 _ rfl (by kernel_rfl) rfl (by kernel_rfl) (C := fun W => Below w2.heap.size w2 W) (Below.refl _ _) ?_
            repeat (first
              | go_big_quiet_skip
              | (go_big_quiet_want; go_big_quiet_op; first
                | go_big_quiet_on
                | (refine ⟨_, fun _ _ => by with_reducible rfl, ?_⟩; go_big_quiet_on)
                | (apply Exists.intro
                   refine ⟨fun W hW => ?_, ?_⟩
                   · first
                     | (go_at_call 107; exact (CV.out W).mono (fun e w' h => ⟨h.1, hW.trans (h.2.mono hW.size)⟩))
                     | (have q0 := cell_of (FB.out W hW) 0 rfl; have q1 := cell_of (FB.out W hW) 1 rfl; have q2 := cell_of (FB.out W hW) 2 rfl; have q3 := cell_of (FB.out W hW) 3 rfl; obtain ⟨_, he, x0, x1, x2, x3⟩ := LOOK.out W (BI.out W hW) (i - 1) (by omega); obtain rfl := Option.some.inj he; rw [rdR, Int.toNat_natCast, HU.out] at x0 x1 x2 x3; simp only at q0 q1 q2 q3 x0 x1 x2 x3; go_simp; first | done | rfl)
                   go_big_quiet_on)))
            refine wpQuiet_nil ?_
            intro W hW
            have HW := Hd.mk (hB.out W hW)
            clear hW
            go_wp2_with fail
            go_roundg (l.length - (i + 1))
            case measure => omega
            case rel => exact ⟨i + 1, by go_num, by omega, HW, HA2⟩
    · have hltz : ¬ (i : Int) < (l.length : Int) := by omega
      have e1 : i = l.length := by omega
      have R := Hd.mk (show Rises cmpR l p from fun j hj => HA.out j (by omega))
      have BB := Hd.mk (H.out.base i wr HI.out)
      have IL := Hd.mk (show I l.length wr by rw [← e1]; exact HI.out)
      clear e1
      go_wp2_with fail
      go_ret
      exact .inr ⟨rfl, ⟨fun _ => R.out, fun _ => rfl⟩, fun _ => IL.out, BB.out⟩
theorem rdU (zs : List S111) (j : Nat) : rd_T111 zs (j : Int) = zs[j]! := by
  unfold rd_T111
  rw [Int.toNat_natCast, List.getElem!_eq_getElem?_getD, List.getD_eq_getElem?_getD]
  rfl
theorem risingU_run (w w0 : World) (A : Option Addr) (cp kc : Nat) (l : List S111) (p : Nat → Bool) (I : Nat → World → Prop) (J : World → Prop) (hC : Kd.C k111 w0 A l.length l) (hbig : l.length < 9223372036854775807) (h : Rise cmpU vU 112 kc w0 l p I J) (hI : I 0 w) :
    Calls Tryz.prog 110 #[.slice A l.length cp, .func (.func 111) #[] #[], .func (.func 112) #[] #[.pointer (some ⟨kc, 0, none⟩)]] w fun e w' => ∃ b : Bool, e = .returned (.bool b) ∧ RiseRes cmpU l p I J b w' := by
  have HC := Hd.mk hC
  have H := Hd.mk h
  have HI := Hd.mk hI
  have CM := Hd.mk compareUsed_run
  clear hC h hI
  go_enter Tryz.func110, Tryz.ntmps110
  go_wp2_with fail
  go_loopg [11] l.length (fun gg s11 wr => ∃ i : Nat, s11 = .int .i64 i ∧ i + gg = l.length ∧ Hd (I i wr) ∧ Hd (∀ j, j < i → p j = true ∧ (0 < j → cmpU l[j - 1]! l[j]! < 0)))
  case atStart => exact ⟨0, rfl, by omega, HI, ⟨fun j hj => absurd hj (Nat.not_lt_zero _)⟩⟩
  case round =>
    clear HI
    obtain ⟨i, rfl, hg, HI, HA⟩ := hrel
    by_cases hlt : i < l.length
    · have hltz : (i : Int) < (l.length : Int) := by omega
      have HLT := Hd.mk hlt
      have BB := Hd.mk (H.out.jb _ (H.out.base i wr HI.out))
      have LOOK := Hd.mk (fun (W : World) (hb : Below w0.heap.size w0 W) (j : Nat) (hj : j < l.length) => at_T111 (Kd.C_below HC.out hb) (j : Int) (by omega) (by omega))
      obtain ⟨ad, rfl, x0, x1, x2⟩ := LOOK.out wr BB.out i hlt
      rw [rdU, Int.toNat_natCast] at x0 x1 x2
      generalize hy : l[i]! = y at x0 x1 x2
      have HY := Hd.mk hy
      clear hy
      obtain ⟨y0, y1, y2⟩ := y
      simp only at x0 x1 x2
      have BX : Below wr.heap.size wr (wr.alloc (.cells #[.int .i64 y0, .int .i64 y1, .int .i64 y2] 111)) := below_alloc (Below.refl _ _) _
      have I2 := Hd.mk (H.out.st i _ _ HI.out BX)
      have XB := Hd.mk (alloc_at wr (.cells #[.int .i64 y0, .int .i64 y1, .int .i64 y2] 111) _ rfl)
      clear BX
      have CALL := Hd.mk (H.out.call i _ HLT.out (H.out.st i _ _ I2.out (Below.drew (Below.refl _ _))))
      rw [HY.out] at CALL
      have CB : Hd (∀ w2 : World, (∀ (b : Nat) (cs : Array Value) (t : Nat) (z : Nat × Nat), (wr.alloc (.cells #[.int .i64 y0, .int .i64 y1, .int .i64 y2] 111)).drew.heap[b]? = some (Obj.cells cs t z) → w2.heap[b]? = (wr.alloc (.cells #[.int .i64 y0, .int .i64 y1, .int .i64 y2] 111)).drew.heap[b]?) → w2.heap[wr.heap.size]? = some (Obj.cells #[.int .i64 y0, .int .i64 y1, .int .i64 y2] 111 (0, 0))) := ⟨fun w2 hk => (hk _ _ _ _ XB.out).trans XB.out⟩
      cases hp : p i with
      | false =>
        rw [hp] at CALL
        have NR := Hd.mk (show ¬ Rises cmpU l p from fun hr => by have := (hr i HLT.out).1; rw [hp] at this; exact absurd this (by simp))
        go_wp2_with fail
        refine wp_region_any (by kernel_rfl) ?_
        change wpAny _ _ _ _ _ _ _ (World.drew _)
        refine wpAny_take (i := 0) (v := .func (.func 112) #[] #[.pointer (some ⟨kc, 0, none⟩)]) rfl (by kernel_rfl) (by kernel_rfl) (by kernel_rfl) (fun _ _ _ h => h) (Or.inl ⟨by rfl, ?_⟩) ?_
        · intro w
          go_simp
        refine wpAny_ready (rs := [1]) (by kernel_rfl) (by simp) ?_
        refine AllReady.cons rfl (fun K hK => ?_) AllReady.nil
        go_simp
        refine hK _ _ ?_
        clear hK K
        refine wpAny_ready (rs := [2]) (by kernel_rfl) (by simp) ?_
        refine AllReady.cons rfl (fun K hK => ?_) AllReady.nil
        go_simp
        refine CALL.out.mono ?_
        rintro e w2 ⟨rfl, hI2, hB2, hK2⟩
        have hB : Hd (∀ W, Below w2.heap.size w2 W → J W) := ⟨fun W hW => H.out.js _ _ hB2 hW⟩
        simp only
        refine hK _ _ ?_
        clear hK K hB2 hI2 hK2
        refine wpAny_rest 3 _ rfl (by kernel_rfl) rfl (by kernel_rfl) (C := fun W => Below w2.heap.size w2 W) (Below.refl _ _) ?_
        repeat (first
          | go_big_quiet_skip
          | (go_big_quiet_want; go_big_quiet_op; first
            | go_big_quiet_on
            | (refine ⟨_, fun _ _ => by with_reducible rfl, ?_⟩; go_big_quiet_on)
            | (apply Exists.intro
               refine ⟨fun W hW => ?_, ?_⟩
               · first
                 | fail
               go_big_quiet_on)))
        refine wpQuiet_nil ?_
        intro W hW
        have HW := Hd.mk (hB.out W hW)
        clear hW
        go_wp2_with fail
        go_ret
        exact ⟨false, rfl, ⟨fun h => absurd h (by simp), fun h => absurd h NR.out⟩, fun h => absurd h (by simp), HW.out⟩
      | true =>
        rw [hp] at CALL
        by_cases h0 : i = 0
        · have hiN : decide (0 < i) = false := decide_eq_false (by omega)
          have HA2 := Hd.mk (show ∀ j, j < i + 1 → p j = true ∧ (0 < j → cmpU l[j - 1]! l[j]! < 0) from fun j hj => by
            obtain rfl : j = i := by omega
            exact ⟨hp, fun h => absurd h (by omega)⟩)
          have H0 := Hd.mk h0
          clear h0
          go_wp2_with fail
          refine wp_region_any (by kernel_rfl) ?_
          change wpAny _ _ _ _ _ _ _ (World.drew _)
          refine wpAny_take (i := 0) (v := .func (.func 112) #[] #[.pointer (some ⟨kc, 0, none⟩)]) rfl (by kernel_rfl) (by kernel_rfl) (by kernel_rfl) (fun _ _ _ h => h) (Or.inl ⟨by rfl, ?_⟩) ?_
          · intro w
            go_simp
          refine wpAny_ready (rs := [1]) (by kernel_rfl) (by simp) ?_
          refine AllReady.cons rfl (fun K hK => ?_) AllReady.nil
          go_simp
          refine hK _ _ ?_
          clear hK K
          refine wpAny_ready (rs := [2]) (by kernel_rfl) (by simp) ?_
          refine AllReady.cons rfl (fun K hK => ?_) AllReady.nil
          go_simp
          refine CALL.out.mono ?_
          rintro e w2 ⟨rfl, hI2, hB2, hK2⟩
          have hB : Hd (∀ W, Below w2.heap.size w2 W → I (i + 1) W) := ⟨fun W hW => H.out.st _ _ _ (hI2 (by first | rfl | trivial)) hW⟩
          simp only
          refine hK _ _ ?_
          clear hK K hB2 hI2 hK2
          refine wpAny_rest 3 _ rfl (by kernel_rfl) rfl (by kernel_rfl) (C := fun W => Below w2.heap.size w2 W) (Below.refl _ _) ?_
          repeat (first
            | go_big_quiet_skip
            | (go_big_quiet_want; go_big_quiet_op; first
              | go_big_quiet_on
              | (refine ⟨_, fun _ _ => by with_reducible rfl, ?_⟩; go_big_quiet_on)
              | (apply Exists.intro
                 refine ⟨fun W hW => ?_, ?_⟩
                 · first
                   | fail
                 go_big_quiet_on)))
          refine wpQuiet_nil ?_
          intro W hW
          have HW := Hd.mk (hB.out W hW)
          clear hW
          go_wp2_with fail
          go_roundg (l.length - (i + 1))
          case measure => omega
          case rel => exact ⟨i + 1, by go_num, by omega, HW, HA2⟩
        · have hiN : decide (0 < i) = true := decide_eq_true (by omega)
          have hi0 : (1 : Int) ≤ (i : Int) := by omega
          generalize hu : l[i - 1]! = u
          have HU := Hd.mk hu
          clear hu
          obtain ⟨u0, u1, u2⟩ := u
          have CV := Hd.mk (fun W => CM.out ⟨u0, u1, u2⟩ ⟨y0, y1, y2⟩ W)
          have HP := Hd.mk hp
          generalize hc : cmpU (⟨u0, u1, u2⟩ : S111) ⟨y0, y1, y2⟩ = c at CV
          have HCC := Hd.mk hc
          clear hc hp
          by_cases hc : 0 ≤ c
          · have NR := Hd.mk (show ¬ Rises cmpU l p from fun hr => by
              have := (hr i HLT.out).2 (by omega)
              rw [HU.out, HY.out, HCC.out] at this
              omega)
            go_wp2_with fail
            refine wp_region_any (by kernel_rfl) ?_
            change wpAny _ _ _ _ _ _ _ (World.drew _)
            refine wpAny_take (i := 0) (v := .func (.func 112) #[] #[.pointer (some ⟨kc, 0, none⟩)]) rfl (by kernel_rfl) (by kernel_rfl) (by kernel_rfl) (fun _ _ _ h => h) (Or.inl ⟨by rfl, ?_⟩) ?_
            · intro w
              go_simp
            refine wpAny_ready (rs := [1]) (by kernel_rfl) (by simp) ?_
            refine AllReady.cons rfl (fun K hK => ?_) AllReady.nil
            go_simp
            refine hK _ _ ?_
            clear hK K
            refine wpAny_ready (rs := [2]) (by kernel_rfl) (by simp) ?_
            refine AllReady.cons rfl (fun K hK => ?_) AllReady.nil
            go_simp
            refine CALL.out.mono ?_
            rintro e w2 ⟨rfl, hI2, hB2, hK2⟩
            have hB : Hd (∀ W, Below w2.heap.size w2 W → I (i + 1) W) := ⟨fun W hW => H.out.st _ _ _ (hI2 (by first | rfl | trivial)) hW⟩
            have XC := CB.out w2 hK2
            have FB : Hd (∀ W, Below w2.heap.size w2 W → W.heap[wr.heap.size]? = some (Obj.cells #[.int .i64 y0, .int .i64 y1, .int .i64 y2] 111 (0, 0))) := ⟨fun W hW => (hW.block _ (Array.getElem?_eq_some_iff.1 XC).1).trans XC⟩
            have BJ : Hd (∀ W, Below w2.heap.size w2 W → J W) := ⟨fun W hW => H.out.js _ _ hB2 hW⟩
            have BI : Hd (∀ W, Below w2.heap.size w2 W → Below w0.heap.size w0 W) := ⟨fun W hW => H.out.jb _ (BJ.out W hW)⟩
            clear XC
            simp only
            refine hK _ _ ?_
            clear hK K hB2 hI2 hK2
            refine wpAny_rest 3 _ rfl (by kernel_rfl) rfl (by kernel_rfl) (C := fun W => Below w2.heap.size w2 W) (Below.refl _ _) ?_
            repeat (first
              | go_big_quiet_skip
              | (go_big_quiet_want; go_big_quiet_op; first
                | go_big_quiet_on
                | (refine ⟨_, fun _ _ => by with_reducible rfl, ?_⟩; go_big_quiet_on)
                | (apply Exists.intro
                   refine ⟨fun W hW => ?_, ?_⟩
                   · first
                     | (go_at_call 111; exact (CV.out W).mono (fun e w' h => ⟨h.1, hW.trans (h.2.mono hW.size)⟩))
                     | (have q0 := cell_of (FB.out W hW) 0 rfl; have q1 := cell_of (FB.out W hW) 1 rfl; have q2 := cell_of (FB.out W hW) 2 rfl; obtain ⟨_, he, x0, x1, x2⟩ := LOOK.out W (BI.out W hW) (i - 1) (by omega); obtain rfl := Option.some.inj he; rw [rdU, Int.toNat_natCast, HU.out] at x0 x1 x2; simp only at q0 q1 q2 x0 x1 x2; go_simp; first | done | rfl)
                   go_big_quiet_on)))
            refine wpQuiet_nil ?_
            intro W hW
            have HW := Hd.mk (BJ.out W hW)
            clear hW
            go_wp2_with fail
            go_ret
            exact ⟨false, rfl, ⟨fun h => absurd h (by simp), fun h => absurd h NR.out⟩, fun h => absurd h (by simp), HW.out⟩
          · have HA2 := Hd.mk (show ∀ j, j < i + 1 → p j = true ∧ (0 < j → cmpU l[j - 1]! l[j]! < 0) from fun j hj => by
              by_cases e : j = i
              · subst e
                refine ⟨HP.out, fun _ => ?_⟩
                rw [HU.out, HY.out, HCC.out]
                omega
              · exact HA.out j (by omega))
            go_wp2_with fail
            refine wp_region_any (by kernel_rfl) ?_
            change wpAny _ _ _ _ _ _ _ (World.drew _)
            refine wpAny_take (i := 0) (v := .func (.func 112) #[] #[.pointer (some ⟨kc, 0, none⟩)]) rfl (by kernel_rfl) (by kernel_rfl) (by kernel_rfl) (fun _ _ _ h => h) (Or.inl ⟨by rfl, ?_⟩) ?_
            · intro w
              go_simp
            refine wpAny_ready (rs := [1]) (by kernel_rfl) (by simp) ?_
            refine AllReady.cons rfl (fun K hK => ?_) AllReady.nil
            go_simp
            refine hK _ _ ?_
            clear hK K
            refine wpAny_ready (rs := [2]) (by kernel_rfl) (by simp) ?_
            refine AllReady.cons rfl (fun K hK => ?_) AllReady.nil
            go_simp
            refine CALL.out.mono ?_
            rintro e w2 ⟨rfl, hI2, hB2, hK2⟩
            have hB : Hd (∀ W, Below w2.heap.size w2 W → I (i + 1) W) := ⟨fun W hW => H.out.st _ _ _ (hI2 (by first | rfl | trivial)) hW⟩
            have XC := CB.out w2 hK2
            have FB : Hd (∀ W, Below w2.heap.size w2 W → W.heap[wr.heap.size]? = some (Obj.cells #[.int .i64 y0, .int .i64 y1, .int .i64 y2] 111 (0, 0))) := ⟨fun W hW => (hW.block _ (Array.getElem?_eq_some_iff.1 XC).1).trans XC⟩
            have BJ : Hd (∀ W, Below w2.heap.size w2 W → J W) := ⟨fun W hW => H.out.js _ _ hB2 hW⟩
            have BI : Hd (∀ W, Below w2.heap.size w2 W → Below w0.heap.size w0 W) := ⟨fun W hW => H.out.jb _ (BJ.out W hW)⟩
            clear XC
            simp only
            refine hK _ _ ?_
            clear hK K hB2 hI2 hK2
            refine wpAny_rest 3 _ rfl (by kernel_rfl) rfl (by kernel_rfl) (C := fun W => Below w2.heap.size w2 W) (Below.refl _ _) ?_
            repeat (first
              | go_big_quiet_skip
              | (go_big_quiet_want; go_big_quiet_op; first
                | go_big_quiet_on
                | (refine ⟨_, fun _ _ => by with_reducible rfl, ?_⟩; go_big_quiet_on)
                | (apply Exists.intro
                   refine ⟨fun W hW => ?_, ?_⟩
                   · first
                     | (go_at_call 111; exact (CV.out W).mono (fun e w' h => ⟨h.1, hW.trans (h.2.mono hW.size)⟩))
                     | (have q0 := cell_of (FB.out W hW) 0 rfl; have q1 := cell_of (FB.out W hW) 1 rfl; have q2 := cell_of (FB.out W hW) 2 rfl; obtain ⟨_, he, x0, x1, x2⟩ := LOOK.out W (BI.out W hW) (i - 1) (by omega); obtain rfl := Option.some.inj he; rw [rdU, Int.toNat_natCast, HU.out] at x0 x1 x2; simp only at q0 q1 q2 x0 x1 x2; go_simp; first | done | rfl)
                   go_big_quiet_on)))
            refine wpQuiet_nil ?_
            intro W hW
            have HW := Hd.mk (hB.out W hW)
            clear hW
            go_wp2_with fail
            go_roundg (l.length - (i + 1))
            case measure => omega
            case rel => exact ⟨i + 1, by go_num, by omega, HW, HA2⟩
    · have hltz : ¬ (i : Int) < (l.length : Int) := by omega
      have e1 : i = l.length := by omega
      have R := Hd.mk (show Rises cmpU l p from fun j hj => HA.out j (by omega))
      have BB := Hd.mk (H.out.base i wr HI.out)
      have IL := Hd.mk (show I l.length wr by rw [← e1]; exact HI.out)
      clear e1
      go_wp2_with fail
      go_ret
      exact .inr ⟨rfl, ⟨fun _ => R.out, fun _ => rfl⟩, fun _ => IL.out, BB.out⟩
end Go.Proofs.YtmeaeapopfcmbaaGreat

namespace Go.Proofs.YtmeaeapopfcmbaaGreat
open PP
set_option linter.unusedVariables false
set_option linter.unusedSimpArgs false
set_option linter.unusedSectionVars false
section
variable {α : Type} [Inhabited α] {c : α → α → Int}
theorem take_bang (l : List α) (i : Nat) (h : i < l.length) : l.take (i + 1) = l.take i ++ [l[i]!] := by
  rw [List.take_succ_eq_append_getElem h, getElem!_pos l i h]
theorem asc_take {l : List α} (h : Asc c l) (i : Nat) : Asc c (l.take i) := h.sublist (List.take_sublist i l)
theorem asc_of_adj (hc : GC c) (l : List α) (h : ∀ i, 0 < i → i < l.length → c l[i - 1]! l[i]! < 0) : ∀ i, i ≤ l.length → Asc c (l.take i)
  | 0, _ => by simp [Asc]
  | i + 1, hi => by
    rw [take_bang l i hi]
    have ih := asc_of_adj hc l h i (by omega)
    refine List.pairwise_append.2 ⟨ih, by simp, fun x hx y hy => ?_⟩
    rw [List.mem_singleton] at hy
    subst hy
    by_cases h0 : i = 0
    · subst h0; simp at hx
    · obtain ⟨j, rfl⟩ : ∃ j, i = j + 1 := ⟨i - 1, by omega⟩
      have hb := h (j + 1) (by omega) hi
      rw [Nat.add_sub_cancel] at hb
      rw [take_bang l j (by omega)] at hx ih
      rcases List.mem_append.1 hx with hx | hx
      · have := (List.pairwise_append.1 ih).2.2 x hx l[j]! (by simp)
        exact hc.lt_le this (by omega)
      · rw [List.mem_singleton] at hx
        subst hx
        exact hb
theorem adj_of_asc {l : List α} (h : Asc c l) (i : Nat) (h0 : 0 < i) (h1 : i < l.length) : c l[i - 1]! l[i]! < 0 := by
  rw [getElem!_pos l i h1, getElem!_pos l (i - 1) (by omega)]
  exact List.pairwise_iff_getElem.1 h (i - 1) i (by omega) h1 (by omega)
theorem rises_iff (hc : GC c) (l : List α) (p : Nat → Bool) : Rises c l p ↔ (∀ i, i < l.length → p i = true) ∧ Asc c l := by
  constructor
  · intro h
    refine ⟨fun i hi => (h i hi).1, ?_⟩
    have := asc_of_adj hc l (fun i h0 hi => (h i hi).2 h0) l.length (Nat.le_refl _)
    rwa [List.take_length] at this
  · rintro ⟨h1, h2⟩ i hi
    exact ⟨h1 i hi, fun h0 => adj_of_asc h2 i h0 hi⟩
theorem all_bang {l : List α} {q : α → Bool} : (∀ i, i < l.length → q l[i]! = true) ↔ ∀ x ∈ l, q x = true := by
  constructor
  · intro h x hx
    obtain ⟨i, hi, rfl⟩ := List.getElem_of_mem hx
    have := h i hi
    rwa [getElem!_pos l i hi] at this
  · intro h i hi
    rw [getElem!_pos l i hi]
    exact h _ (List.getElem_mem hi)
end
section
variable {α β : Type} [DecidableEq α]
theorem mdel_none {L : List (α × β)} {a : α} (h : mget L a = none) : mdel L a = L := by
  unfold mdel
  rw [List.filter_eq_self]
  intro p hp
  simpa using mget_none.1 h p hp
theorem mput_perm {L : List (α × β)} {a : α} {b : β} (h : mget L a = none) : (mput L a b).Perm (L ++ [(a, b)]) := by
  unfold mput
  rw [mdel_none h]
  exact (List.perm_append_singleton _ _).symm
theorem tput_perm {c : β → β → Int} {L : List (α × β)} {a : α} {b : β} (h : mget L a = none) : (tput c L a b).Perm (L ++ [(a, b)]) := by
  unfold tput
  rw [h]
  exact mput_perm h
end
/-- The numbers of a state as keys. -/
structure StOk (S : S28) : Prop where
  t : ∀ x ∈ S.f1, okD x.f2
  n : ∀ x ∈ S.f2, okI x.f0
  r : ∀ x ∈ S.f3, okW (wayR x).1
  u : ∀ x ∈ S.f4, okW (wayU x).1
theorem okI_small {x : Int} (h0 : -1 ≤ x) (h1 : x ≤ MC) : okI x := okI_of (by omega) (by unfold MC at h1; omega)
theorem Rt.ok {S : S28} (h : Rt S) : StOk S where
  t := fun x hx => by
    have h1 := h.tr x hx
    simp only [tagB, Bool.and_eq_true, inR_iff, decide_eq_true_eq] at h1
    refine ⟨okI_small (by omega) (by unfold MC; omega), okI_small (by omega) ?_⟩
    have h2 : ∀ y ∈ S.f0, y ≤ MC := fun y hy => (h.sr y hy).2
    have h3 : sget S.f0 x.f2.f0 ≤ MC := by
      unfold sget
      rw [List.getD_eq_getElem?_getD]
      cases hg : S.f0[x.f2.f0.toNat]? with
      | none => simp [MC]
      | some y => exact h2 y (List.mem_of_getElem? hg)
    omega
  n := fun x hx => by
    have h1 := h.nr x hx
    simp only [noteB, Bool.and_eq_true, inR_iff, decide_eq_true_eq] at h1
    exact okI_small (by omega) (by unfold MC; omega)
  r := fun x hx => by
    have h1 := h.rr x hx
    simp only [rightB, Bool.and_eq_true, inR_iff, decide_eq_true_eq] at h1
    exact ⟨okI_small (show -1 ≤ x.f0 by omega) (show x.f0 ≤ MC by unfold MC; omega), okI_small (show -1 ≤ x.f1 by omega) (show x.f1 ≤ MC by unfold MC; omega), okI_small (show -1 ≤ x.f2 by omega) (show x.f2 ≤ MC by unfold MC; omega)⟩
  u := fun x hx => by
    have h1 := h.ur x hx
    simp only [usedB, Bool.and_eq_true, inR_iff, decide_eq_true_eq] at h1
    exact ⟨okI_small (show -1 ≤ x.f0 by omega) (show x.f0 ≤ MC by unfold MC; omega), okI_small (show -1 ≤ x.f1 by omega) (show x.f1 ≤ MC by unfold MC; omega), okI_small (show (-1 : Int) ≤ -1 by omega) (show (-1 : Int) ≤ MC by decide)⟩
/-- May the i-th tag be there? -/
def pT (S : S28) (i : Nat) : Bool := (mget ((S.f1.take i).map fun t => (t.f2, t)) S.f1[i]!.f2).isNone && tagB S.f0 S.f1[i]!
def pN (S : S28) (i : Nat) : Bool := noteB S.f2[i]!
def pR' (S : S28) (i : Nat) : Bool := rightB S.f3[i]!
def pU' (S : S28) (i : Nat) : Bool := usedB S.f4[i]!
theorem mget_tags_none {l : List S99} {d : S97} : mget (l.map fun t => (t.f2, t)) d = none ↔ d ∉ l.map S99.f2 := by
  rw [mget_none]
  constructor
  · intro h hd
    obtain ⟨t, ht, rfl⟩ := List.mem_map.1 hd
    exact h (t.f2, t) (List.mem_map.2 ⟨t, ht, rfl⟩) rfl
  · intro h p hp e
    obtain ⟨t, ht, rfl⟩ := List.mem_map.1 hp
    exact h (List.mem_map.2 ⟨t, ht, e⟩)
theorem nodup_take {S : S28} (h : ∀ i, i < S.f1.length → pT S i = true) : ∀ i, i ≤ S.f1.length → ((S.f1.take i).map S99.f2).Nodup
  | 0, _ => by simp
  | i + 1, hi => by
    have h1 := h i hi
    simp only [pT, Bool.and_eq_true, Option.isNone_iff_eq_none] at h1
    rw [take_bang S.f1 i hi, List.map_append, List.nodup_append]
    refine ⟨nodup_take h i (by omega), by simp, ?_⟩
    intro a ha b hb e
    subst e
    simp only [List.map_cons, List.map_nil, List.mem_singleton] at hb
    subst hb
    exact mget_tags_none.1 h1.1 ha
theorem pT_all {S : S28} : (∀ i, i < S.f1.length → pT S i = true) ↔ (∀ t ∈ S.f1, tagB S.f0 t = true) ∧ (S.f1.map S99.f2).Nodup := by
  constructor
  · intro h
    refine ⟨all_bang.1 fun i hi => ?_, ?_⟩
    · have h1 := h i hi
      simp only [pT, Bool.and_eq_true] at h1
      exact h1.2
    · have := nodup_take h S.f1.length (Nat.le_refl _)
      rwa [List.take_length] at this
  · rintro ⟨h1, h2⟩ i hi
    simp only [pT, Bool.and_eq_true, Option.isNone_iff_eq_none]
    refine ⟨mget_tags_none.2 fun hm => ?_, all_bang.2 h1 i hi⟩
    have h3 : ((S.f1.take (i + 1)).map S99.f2).Nodup := h2.sublist ((List.take_sublist _ _).map _)
    rw [take_bang S.f1 i hi, List.map_append, List.nodup_append] at h3
    exact h3.2.2 _ hm _ (by simp) rfl
/-- Right, as read asks it. -/
theorem rt_iff (S : S28) : Rt S ↔ S.f0.length = 8 ∧ S.f1.length ≤ 128 ∧ S.f0.any (fun x => !inR 0 MC x) = false ∧ Rises cmpT S.f1 (pT S) ∧ Rises cmpM S.f2 (pN S) ∧ Rises cmpR S.f3 (pR' S) ∧ Rises cmpU S.f4 (pU' S) ∧ Fund (waysP S) := by
  rw [rises_iff gcT, rises_iff gcM, rises_iff gcR, rises_iff gcU, pT_all]
  have e : S.f0.any (fun x => !inR 0 MC x) = false ↔ ∀ x ∈ S.f0, 0 ≤ x ∧ x ≤ MC := by
    rw [List.any_eq_false]
    simp only [Bool.not_eq_true', Bool.not_eq_false, inR_iff]
  rw [e]
  unfold pN pR' pU'
  rw [all_bang, all_bang, all_bang]
  constructor
  · intro h
    exact ⟨h.sl, h.tl, h.sr, ⟨⟨h.tr, h.td⟩, h.ta⟩, ⟨h.nr, h.na⟩, ⟨h.rr, h.ra⟩, ⟨h.ur, h.ua⟩, h.fu⟩
  · rintro ⟨a, b, d, ⟨⟨f, g⟩, i⟩, ⟨j, k⟩, ⟨l, m⟩, ⟨n, o⟩, q⟩
    exact ⟨a, d, b, i, f, g, k, j, m, l, o, n, q⟩
end Go.Proofs.YtmeaeapopfcmbaaGreat

namespace Go.Proofs.YtmeaeapopfcmbaaGreat
open Go.RowKit Go.Proofs.YtmeaeapopfcmbaaGreatW.PrintWords Go.Proofs.YtmeaeapopfcmbaaGreatW.PrintLast Go.Proofs.YtmeaeapopfcmbaaGreatW.PrintMore PP
set_option linter.unusedVariables false
set_option linter.unusedSimpArgs false
/-- A know under construction, behind the world wB. -/
structure RI (wB : World) (kc k mt mn mw : Nat) (s : List Int) (T : List (S97 × S99)) (N : List (Int × S102)) (Y : List (S131 × Int)) (W : World) : Prop where
  base : Below wB.heap.size wB W
  hk : W.heap[kc]? = some (.cells #[.pointer (some ⟨k, 0, none⟩)] 84 (0, 0))
  kn : KnowAt W k mt mn mw s T N Y
  nt : wB.heap.size ≤ mt
  nn : wB.heap.size ≤ mn
  nw : wB.heap.size ≤ mw
section
variable {wB W W' : World} {kc k mt mn mw : Nat} {s : List Int} {T T' : List (S97 × S99)} {N N' : List (Int × S102)} {Y Y' : List (S131 × Int)}
theorem RI.st (h : RI wB kc k mt mn mw s T N Y W) (hb : Below W.heap.size W W') : RI wB kc k mt mn mw s T N Y W' :=
  ⟨h.base.trans (hb.mono h.base.size), (hb.block _ (Array.getElem?_eq_some_iff.1 h.hk).1).trans h.hk, h.kn.below hb, h.nt, h.nn, h.nw⟩
theorem RI.perm (h : RI wB kc k mt mn mw s T N Y W) (hT : T.Perm T') (hN : N.Perm N') (hY : Y.Perm Y') : RI wB kc k mt mn mw s T' N' Y' W :=
  ⟨h.base, h.hk, ⟨h.kn.len, h.kn.blk, h.kn.t.perm hT, h.kn.n.perm hN, h.kn.y.perm hY, h.kn.tn, h.kn.tw, h.kn.nw⟩, h.nt, h.nn, h.nw⟩
theorem chg_cells {α β : Type} {C : MK Tryz.prog α β} {m : Nat} {L : List (α × β)} (hm : MapIs C W m L) (hc : Chg W.heap.size (· = m) W W') (b : Nat) (cs : Array Value) (t : Nat) (z : Nat × Nat) (hb : W.heap[b]? = some (Obj.cells cs t z)) : W'.heap[b]? = W.heap[b]? :=
  hc.block b (Array.getElem?_eq_some_iff.1 hb).1 (hm.ne hb)
theorem RI.setT (h : RI wB kc k mt mn mw s T N Y W) (hm : MapIs CT W' mt T') (hc : Chg W.heap.size (· = mt) W W') : RI wB kc k mt mn mw s T' N Y W' :=
  ⟨h.base.trans (chg_below hc h.nt h.base.size), (chg_cells h.kn.t hc _ _ _ _ h.hk).trans h.hk, h.kn.chgT hm (fun i hi => hc.block i (by obtain ⟨a, b, c, d⟩ := h.kn.lt; rcases hi with rfl | rfl | rfl <;> assumption) (by rcases hi with rfl | rfl | rfl <;> first | exact h.kn.kt.1 | exact h.kn.tn.symm | exact h.kn.tw.symm)), h.nt, h.nn, h.nw⟩
theorem RI.setN (h : RI wB kc k mt mn mw s T N Y W) (hm : MapIs CN W' mn N') (hc : Chg W.heap.size (· = mn) W W') : RI wB kc k mt mn mw s T N' Y W' :=
  ⟨h.base.trans (chg_below hc h.nn h.base.size), (chg_cells h.kn.n hc _ _ _ _ h.hk).trans h.hk, h.kn.chgN hm (fun i hi => hc.block i (by obtain ⟨a, b, c, d⟩ := h.kn.lt; rcases hi with rfl | rfl | rfl <;> assumption) (by rcases hi with rfl | rfl | rfl <;> first | exact h.kn.kt.2.1 | exact h.kn.tn | exact h.kn.nw.symm)), h.nt, h.nn, h.nw⟩
theorem RI.setY (h : RI wB kc k mt mn mw s T N Y W) (hm : MapIs CW W' mw Y') (hc : Chg W.heap.size (· = mw) W W') : RI wB kc k mt mn mw s T N Y' W' :=
  ⟨h.base.trans (chg_below hc h.nw h.base.size), (chg_cells h.kn.y hc _ _ _ _ h.hk).trans h.hk, h.kn.chgY hm (fun i hi => hc.block i (by obtain ⟨a, b, c, d⟩ := h.kn.lt; rcases hi with rfl | rfl | rfl <;> assumption) (by rcases hi with rfl | rfl | rfl <;> first | exact h.kn.kt.2.2 | exact h.kn.tw | exact h.kn.nw)), h.nt, h.nn, h.nw⟩
end
theorem ok_bang {α : Type} [Inhabited α] {l : List α} {q : α → Prop} (h : ∀ x ∈ l, q x) (i : Nat) (hi : i < l.length) : q l[i]! := by
  rw [getElem!_pos l i hi]
  exact h _ (List.getElem_mem hi)
theorem small_len {α : Type} (l : List α) (i : Nat) (h : l.length < 9223372036854775807) : (l.take i).length < 9223372036854775807 := by
  rw [List.length_take]
  omega
/-- What stays, whatever is answered. -/
structure JI (wB : World) (kc k : Nat) (W : World) : Prop where
  base : Below wB.heap.size wB W
  hk : W.heap[kc]? = some (.cells #[.pointer (some ⟨k, 0, none⟩)] 84 (0, 0))
theorem JI.st {wB W W' : World} {kc k : Nat} (h : JI wB kc k W) (hb : Below W.heap.size W W') : JI wB kc k W' :=
  ⟨h.base.trans (hb.mono h.base.size), (hb.block _ (Array.getElem?_eq_some_iff.1 h.hk).1).trans h.hk⟩
theorem RI.j {wB W : World} {kc k mt mn mw : Nat} {s : List Int} {T : List (S97 × S99)} {N : List (Int × S102)} {Y : List (S131 × Int)} (h : RI wB kc k mt mn mw s T N Y W) : JI wB kc k W := ⟨h.base, h.hk⟩
section
variable (wB : World) (kc k mt mn mw : Nat) (S : S28)
def kvT (t : S99) : S97 × S99 := (t.f2, t)
def kvN (n : S102) : Int × S102 := (n.f0, n)
def IT (i : Nat) (W : World) : Prop := RI wB kc k mt mn mw S.f0 ((S.f1.take i).map kvT) [] [] W
theorem riseT (hS : StOk S) (hl : S.f1.length < 9223372036854775807) : Rise cmpT vT 99 kc wB S.f1 (pT S) (IT wB kc k mt mn mw S) (JI wB kc k) where
  base := fun i W h => RI.j h
  jb := fun W h => h.base
  js := fun W W' h hb => h.st hb
  st := fun i W W' h hb => RI.st h hb
  call := fun i W hi h => by
    refine (see2_run W kc k mt mn mw S.f0 _ [] [] S.f1[i]! h.hk h.kn (by rw [List.length_map]; exact small_len _ _ hl) (ok_bang hS.t i hi)).mono ?_
    rintro e w' ⟨rfl, hm, hc⟩
    refine ⟨rfl, fun hp => ?_, ⟨h.base.trans (chg_below hc h.nt h.base.size), (chg_cells h.kn.t hc _ _ _ _ h.hk).trans h.hk⟩, fun b cs t z hb => chg_cells h.kn.t hc b cs t z hb⟩
    have h1 : mget ((S.f1.take i).map kvT) S.f1[i]!.f2 = none := by
      simp only [pT, Bool.and_eq_true, Option.isNone_iff_eq_none] at hp
      exact hp.1
    unfold IT
    rw [take_bang S.f1 i hi, List.map_append]
    exact (h.setT hm hc).perm (mput_perm h1) (.refl _) (.refl _)
/-- The notes that are kept so far. -/
def IN' (i : Nat) (W : World) : Prop := ∃ N, N.length ≤ i ∧ RI wB kc k mt mn mw S.f0 (tagsP S) N [] W ∧ (Asc cmpM (S.f2.take i) → N.Perm ((S.f2.take i).map kvN))
theorem riseN (hS : StOk S) (hl : S.f2.length < 9223372036854775807) : Rise cmpM vN 103 kc wB S.f2 (pN S) (IN' wB kc k mt mn mw S) (JI wB kc k) where
  base := fun i W ⟨N, _, h, _⟩ => h.j
  jb := fun W h => h.base
  js := fun W W' h hb => h.st hb
  st := fun i W W' ⟨N, h0, h, h2⟩ hb => ⟨N, h0, RI.st h hb, h2⟩
  call := fun i W hi ⟨N, h0, h, h2⟩ => by
    refine (see3_run W kc k mt mn mw S.f0 _ N [] S.f2[i]! h.hk h.kn (by omega) (ok_bang hS.n i hi)).mono ?_
    rintro e w' ⟨rfl, hm, hc⟩
    refine ⟨rfl, fun hp => ?_, ⟨h.base.trans (chg_below hc h.nn h.base.size), (chg_cells h.kn.n hc _ _ _ _ h.hk).trans h.hk⟩, fun b cs t z hb => chg_cells h.kn.n hc b cs t z hb⟩
    refine ⟨_, Nat.le_trans (tput_len _ _ _) (by omega), h.setN hm hc, fun ha => ?_⟩
    have ha2 : Asc cmpM (S.f2.take i ++ [S.f2[i]!]) := by rw [← take_bang S.f2 i hi]; exact ha
    have ha3 := List.pairwise_append.1 ha2
    have hN := h2 ha3.1
    have h1 : mget N S.f2[i]!.f0 = none := by
      rw [mget_none]
      intro p hp' e
      obtain ⟨n, hn, rfl⟩ := List.mem_map.1 (hN.mem_iff.1 hp')
      have h5 := ha3.2.2 n hn S.f2[i]! (by simp)
      have h6 : cmpM n S.f2[i]! = 0 := cmpI_eq.2 e
      omega
    rw [take_bang S.f2 i hi, List.map_append]
    exact (tput_perm h1).trans (hN.append_right _)
/-- The rights that are kept so far. -/
def IR (i : Nat) (W : World) : Prop := ∃ Y, Y.length ≤ i ∧ RI wB kc k mt mn mw S.f0 (tagsP S) (notesP S) Y W ∧ (Asc cmpR (S.f3.take i) → Y.Perm ((S.f3.take i).map wayR))
theorem riseR (hS : StOk S) (hl : S.f3.length < 9223372036854775807) : Rise cmpR vR 108 kc wB S.f3 (pR' S) (IR wB kc k mt mn mw S) (JI wB kc k) where
  base := fun i W ⟨N, _, h, _⟩ => h.j
  jb := fun W h => h.base
  js := fun W W' h hb => h.st hb
  st := fun i W W' ⟨N, h0, h, h2⟩ hb => ⟨N, h0, RI.st h hb, h2⟩
  call := fun i W hi ⟨Y, h0, h, h2⟩ => by
    refine (see5_run W kc k mt mn mw S.f0 _ _ Y S.f3[i]! h.hk h.kn (by omega) (ok_bang hS.r i hi)).mono ?_
    rintro e w' ⟨rfl, hm, hc⟩
    refine ⟨rfl, fun hp => ?_, ⟨h.base.trans (chg_below hc h.nw h.base.size), (chg_cells h.kn.y hc _ _ _ _ h.hk).trans h.hk⟩, fun b cs t z hb => chg_cells h.kn.y hc b cs t z hb⟩
    refine ⟨_, Nat.le_trans (tput_len _ _ _) (by omega), h.setY hm hc, fun ha => ?_⟩
    have ha2 : Asc cmpR (S.f3.take i ++ [S.f3[i]!]) := by rw [← take_bang S.f3 i hi]; exact ha
    have ha3 := List.pairwise_append.1 ha2
    have hN := h2 ha3.1
    have h1 : mget Y (wayR S.f3[i]!).1 = none := by
      rw [mget_none]
      intro p hp' e
      obtain ⟨n, hn, rfl⟩ := List.mem_map.1 (hN.mem_iff.1 hp')
      have h5 := ha3.2.2 n hn S.f3[i]! (by simp)
      simp only [wayR, S131.mk.injEq] at e
      have h6 : cmpR n S.f3[i]! = 0 := cmpR_eq.2 e
      omega
    rw [take_bang S.f3 i hi, List.map_append]
    exact (tput_perm h1).trans (hN.append_right _)
/-- What is kept of what was used, behind the rights. -/
def IU (i : Nat) (W : World) : Prop := ∃ Y, Y.length ≤ S.f3.length + i ∧ RI wB kc k mt mn mw S.f0 (tagsP S) (notesP S) Y W ∧ (Asc cmpU (S.f4.take i) → Y.Perm (S.f3.map wayR ++ (S.f4.take i).map wayU))
theorem riseU (hS : StOk S) (hr : ∀ r ∈ S.f3, rightB r = true) (hl : S.f3.length + S.f4.length < 9223372036854775807) : Rise cmpU vU 112 kc wB S.f4 (pU' S) (IU wB kc k mt mn mw S) (JI wB kc k) where
  base := fun i W ⟨N, _, h, _⟩ => h.j
  jb := fun W h => h.base
  js := fun W W' h hb => h.st hb
  st := fun i W W' ⟨N, h0, h, h2⟩ hb => ⟨N, h0, RI.st h hb, h2⟩
  call := fun i W hi ⟨Y, h0, h, h2⟩ => by
    refine (see6_run W kc k mt mn mw S.f0 _ _ Y S.f4[i]! h.hk h.kn (by omega) (ok_bang hS.u i hi)).mono ?_
    rintro e w' ⟨rfl, hm, hc⟩
    refine ⟨rfl, fun hp => ?_, ⟨h.base.trans (chg_below hc h.nw h.base.size), (chg_cells h.kn.y hc _ _ _ _ h.hk).trans h.hk⟩, fun b cs t z hb => chg_cells h.kn.y hc b cs t z hb⟩
    refine ⟨_, Nat.le_trans (tput_len _ _ _) (by omega), h.setY hm hc, fun ha => ?_⟩
    have ha2 : Asc cmpU (S.f4.take i ++ [S.f4[i]!]) := by rw [← take_bang S.f4 i hi]; exact ha
    have ha3 := List.pairwise_append.1 ha2
    have hN := h2 ha3.1
    have h1 : mget Y (wayU S.f4[i]!).1 = none := by
      rw [mget_none]
      intro p hp' e
      rcases List.mem_append.1 (hN.mem_iff.1 hp') with hq | hq
      · obtain ⟨n, hn, rfl⟩ := List.mem_map.1 hq
        have h5 := hr n hn
        simp only [rightB, Bool.and_eq_true, inR_iff] at h5
        simp only [wayR, wayU, S131.mk.injEq] at e
        omega
      · obtain ⟨n, hn, rfl⟩ := List.mem_map.1 hq
        have h5 := ha3.2.2 n hn S.f4[i]! (by simp)
        simp only [wayU, S131.mk.injEq] at e
        have h6 : cmpU n S.f4[i]! = 0 := cmpU_eq.2 ⟨e.1, e.2.1⟩
        omega
    rw [take_bang S.f4 i hi, List.map_append, ← List.append_assoc]
    exact (tput_perm h1).trans (hN.append_right _)
theorem IT_end (W : World) (h : IT wB kc k mt mn mw S S.f1.length W) : RI wB kc k mt mn mw S.f0 (tagsP S) [] [] W := by
  unfold IT at h
  rw [List.take_length] at h
  exact h
theorem IN_end (W : World) (h : IN' wB kc k mt mn mw S S.f2.length W) (ha : Asc cmpM S.f2) : RI wB kc k mt mn mw S.f0 (tagsP S) (notesP S) [] W := by
  obtain ⟨N, _, h1, h2⟩ := h
  rw [List.take_length] at h2
  exact h1.perm (.refl _) (h2 ha) (.refl _)
theorem IR_end (W : World) (h : IR wB kc k mt mn mw S S.f3.length W) (ha : Asc cmpR S.f3) : RI wB kc k mt mn mw S.f0 (tagsP S) (notesP S) (S.f3.map wayR) W := by
  obtain ⟨N, _, h1, h2⟩ := h
  rw [List.take_length] at h2
  exact h1.perm (.refl _) (.refl _) (h2 ha)
theorem IU_end (W : World) (h : IU wB kc k mt mn mw S S.f4.length W) (ha : Asc cmpU S.f4) : RI wB kc k mt mn mw S.f0 (tagsP S) (notesP S) (waysP S) W := by
  obtain ⟨N, _, h1, h2⟩ := h
  rw [List.take_length] at h2
  exact h1.perm (.refl _) (.refl _) (h2 ha)
theorem IT_0 (W : World) (h : RI wB kc k mt mn mw S.f0 [] [] [] W) : IT wB kc k mt mn mw S 0 W := h
theorem IN_0 (W : World) (h : RI wB kc k mt mn mw S.f0 (tagsP S) [] [] W) : IN' wB kc k mt mn mw S 0 W := ⟨[], Nat.le_refl _, h, fun _ => .refl _⟩
theorem IR_0 (W : World) (h : RI wB kc k mt mn mw S.f0 (tagsP S) (notesP S) [] W) : IR wB kc k mt mn mw S 0 W := ⟨[], Nat.le_refl _, h, fun _ => .refl _⟩
theorem IU_0 (W : World) (h : RI wB kc k mt mn mw S.f0 (tagsP S) (notesP S) (S.f3.map wayR) W) : IU wB kc k mt mn mw S 0 W := ⟨_, by rw [List.length_map]; exact Nat.le_refl _, h, fun _ => by simp⟩
end
end Go.Proofs.YtmeaeapopfcmbaaGreat

namespace Go.Proofs.YtmeaeapopfcmbaaGreat
open Go.RowKit Go.Proofs.YtmeaeapopfcmbaaGreatW.PrintWords Go.Proofs.YtmeaeapopfcmbaaGreatW.PrintLast Go.Proofs.YtmeaeapopfcmbaaGreatW.PrintMore PP
set_option linter.unusedVariables false
set_option linter.unusedSimpArgs false
set_option maxHeartbeats 4000000
set_option maxRecDepth 100000
/-- A state's lists in memory. -/
structure StC (w : World) (A0 : Option Addr) (c0 : Nat) (A1 : Option Addr) (c1 : Nat) (A2 : Option Addr) (c2 : Nat) (A3 : Option Addr) (c3 : Nat) (A4 : Option Addr) (c4 : Nat) (S : S28) : Prop where
  h0 : Kd.C (Kd.int .i64) w A0 S.f0.length S.f0
  h1 : Kd.C k99 w A1 S.f1.length S.f1
  h2 : Kd.C k102 w A2 S.f2.length S.f2
  h3 : Kd.C k108 w A3 S.f3.length S.f3
  h4 : Kd.C k111 w A4 S.f4.length S.f4
  l0 : S.f0.length ≤ c0
  l1 : S.f1.length ≤ c1
  l2 : S.f2.length ≤ c2
  l3 : S.f3.length ≤ c3
  l4 : S.f4.length ≤ c4
  n0 : S.f0.length < 9223372036854775807
  n1 : S.f1.length < 9223372036854775807
  n2 : S.f2.length < 9223372036854775807
  n34 : S.f3.length + S.f4.length < 9223372036854775807
theorem StC.below {w w' : World} {A0 A1 A2 A3 A4 : Option Addr} {c0 c1 c2 c3 c4 : Nat} {S : S28} (h : StC w A0 c0 A1 c1 A2 c2 A3 c3 A4 c4 S) (hb : Below w.heap.size w w') : StC w' A0 c0 A1 c1 A2 c2 A3 c3 A4 c4 S :=
  ⟨Kd.C_below h.h0 hb, Kd.C_below h.h1 hb, Kd.C_below h.h2 hb, Kd.C_below h.h3 hb, Kd.C_below h.h4 hb, h.l0, h.l1, h.l2, h.l3, h.l4, h.n0, h.n1, h.n2, h.n34⟩
abbrev stV (S : S28) (A0 : Option Addr) (c0 : Nat) (A1 : Option Addr) (c1 : Nat) (A2 : Option Addr) (c2 : Nat) (A3 : Option Addr) (c3 : Nat) (A4 : Option Addr) (c4 : Nat) : Value := .agg #[.slice A0 S.f0.length c0, .slice A1 S.f1.length c1, .slice A2 S.f2.length c2, .slice A3 S.f3.length c3, .slice A4 S.f4.length c4]
/-- What read answers. -/
structure ReadRes (w : World) (S : S28) (p : Option Addr) (b : Bool) (w' : World) : Prop where
  ans : b = true ↔ Rt S
  kn : b = true → ∃ k mt mn mw, p = some ⟨k, 0, none⟩ ∧ KnowNew w.heap.size w' k mt mn mw S.f0 (tagsP S) (notesP S) (waysP S)
  base : Below w.heap.size w w'
theorem alloc_below {B : Nat} {w w' : World} (h : Below B w w') (hB : B ≤ w'.heap.size) (o : Obj) : Below B w (w'.alloc o) := h.alloc hB o
theorem know_set {w : World} {k mt mn mw : Nat} {s s' : List Int} {T : List (S97 × S99)} {N : List (Int × S102)} {Y : List (S131 × Int)} (h : KnowAt w k mt mn mw s T N Y) (hl : s'.length = 8) :
    KnowAt (w.setRow k ((knowCells s mt mn mw).toList.take 0 ++ (s'.map (Value.int .i64) ++ (knowCells s mt mn mw).toList.drop (0 + (s'.map (Value.int .i64)).length))).toArray) k mt mn mw s' T N Y := by
  have hb : ((knowCells s mt mn mw).toList.take 0 ++ (s'.map (Value.int .i64) ++ (knowCells s mt mn mw).toList.drop (0 + (s'.map (Value.int .i64)).length))).toArray = knowCells s' mt mn mw := by
    obtain ⟨a0, a1, a2, a3, a4, a5, a6, a7, rfl⟩ := h.s8
    match s', hl with
    | [b0, b1, b2, b3, b4, b5, b6, b7], _ => rfl
  rw [hb]
  refine ⟨hl, setRow_heap w k _ _ 129 _ h.blk, h.t.at ?_, h.n.at ?_, h.y.at ?_, h.tn, h.tw, h.nw⟩
  · exact setRow_other w k mt _ (fun e => h.kt.1 e.symm)
  · exact setRow_other w k mn _ (fun e => h.kt.2.1 e.symm)
  · exact setRow_other w k mw _ (fun e => h.kt.2.2 e.symm)
open Classical in
noncomputable def fundB (Y : List (S131 × Int)) : Bool := decide (Fund Y)
open Classical in
theorem fundB_iff {Y : List (S131 × Int)} : fundB Y = true ↔ Fund Y := by unfold fundB; exact decide_eq_true_iff
theorem fundedB_run (w : World) (k mt mn mw : Nat) (s : List Int) (T : List (S97 × S99)) (N : List (Int × S102)) (Y : List (S131 × Int)) (h : KnowAt w k mt mn mw s T N Y) (hY : ∀ p ∈ Y, wayB p = true) :
    Calls Tryz.prog 113 #[.pointer (some ⟨k, 0, none⟩)] w fun e w' => e = .returned (.bool (fundB Y)) ∧ Below w.heap.size w w' :=
  (funded_run w k mt mn mw s T N Y h hY).mono fun e w' ⟨b, h1, h2, h3⟩ => ⟨by rw [h1]; congr 2; rw [Bool.eq_iff_iff, h2, fundB_iff], h3⟩
theorem not_rt_len {S : S28} (h : S.f0.length ≠ 8) : ¬ Rt S := fun hr => h hr.sl
theorem read_run (w : World) (A0 A1 A2 A3 A4 : Option Addr) (c0 c1 c2 c3 c4 : Nat) (S : S28) (h : StC w A0 c0 A1 c1 A2 c2 A3 c3 A4 c4 S) (hS : StOk S) :
    Calls Tryz.prog 51 #[stV S A0 c0 A1 c1 A2 c2 A3 c3 A4 c4] w fun e w' => ∃ (p : Option Addr) (b : Bool), e = .returned (.tuple #[.pointer p, .bool b]) ∧ ReadRes w S p b w' := by
  obtain ⟨wB, hwB⟩ : ∃ wB, wB = w.alloc (.cells #[.slice A0 S.f0.length c0, .slice A1 S.f1.length c1, .slice A2 S.f2.length c2, .slice A3 S.f3.length c3, .slice A4 S.f4.length c4] 28) := ⟨_, rfl⟩
  have BB : Below w.heap.size w wB := by rw [hwB]; exact below_alloc (Below.refl _ _) _
  have hz : wB.heap.size = w.heap.size + 1 := by rw [hwB]; simp
  have hbx : wB.heap[w.heap.size]? = some (.cells #[.slice A0 S.f0.length c0, .slice A1 S.f1.length c1, .slice A2 S.f2.length c2, .slice A3 S.f3.length c3, .slice A4 S.f4.length c4] 28 (0, 0)) := by rw [hwB]; exact alloc_at _ _ _ rfl
  have HB := Hd.mk (h.below BB)
  have HS := Hd.mk hS
  have HZ := Hd.mk hz
  have BBh := Hd.mk BB
  have HX := Hd.mk hbx
  have y0 : wB.cell? _ = some (.slice A0 S.f0.length c0) := cell_of hbx 0 rfl
  have y1 : wB.cell? _ = some (.slice A1 S.f1.length c1) := cell_of hbx 1 rfl
  have HC := Hd.mk (containsI_run wB 96 (fun x => !inR 0 MC x) enters96 A0 c0 S.f0 (Nums.of HB.out.h0) HB.out.n0 (fun W x hb => (read1_run W x).mono fun e w' hh => ⟨hh.1, hb.trans (hh.2.mono hb.size)⟩))
  clear h hS hz BB hbx
  have LB : Hd (∀ W, Below wB.heap.size wB W → Below w.heap.size w W) := ⟨fun W hb => BBh.out.trans (hb.mono (by rw [HZ.out]; omega))⟩
  have LX : Hd (∀ W, Below wB.heap.size wB W → W.heap[w.heap.size]? = some (.cells #[.slice A0 S.f0.length c0, .slice A1 S.f1.length c1, .slice A2 S.f2.length c2, .slice A3 S.f3.length c3, .slice A4 S.f4.length c4] 28)) := ⟨fun W hb => (hb.block _ (by rw [HZ.out]; omega)).trans HX.out⟩
  have HWB := Hd.mk hwB
  clear hwB
  unfold stV
  go_enter Tryz.func51, Tryz.ntmps51
  by_cases e0 : (S.f0.length : Int) = 8
  · have e0' : ((S.f0.length : Int) != 8) = false := by simp [e0]
    have E0 := Hd.mk e0
    by_cases e1 : (S.f1.length : Int) ≤ 128
    · have e1' : decide ((128 : Int) < (S.f1.length : Int)) = false := decide_eq_false (by omega)
      have E1 := Hd.mk e1
      clear e0 e1
      go_wp2_with fail
      rw [← HWB.out]
      refine HC.out.mono ?_
      rintro e w1 ⟨rfl, hb1⟩
      have B1 := Hd.mk hb1
      clear hb1 y0 y1
      cases ha : S.f0.any (fun x => !inR 0 MC x) with
      | true =>
        have NR := Hd.mk (show ¬ Rt S from fun hr => by have := (rt_iff S).1 hr; rw [ha] at this; exact absurd this.2.2.1 (by simp))
        go_wp2_with fail
        go_ret2
        first
          | exact ⟨none, false, rfl, ⟨fun h => absurd h (by simp), fun h => absurd h NR.out⟩, fun h => absurd h (by simp), LB.out _ B1.out⟩
          | exact ⟨none, .inl ⟨rfl, ⟨fun h => absurd h (by simp), fun h => absurd h NR.out⟩, fun h => absurd h (by simp), LB.out _ B1.out⟩⟩
      | false =>
        have HA := Hd.mk ha
        clear ha
        go_wp2_with fail
        refine (empty_run _).mono ?_
        rintro e w2 ⟨k, mt, mn, mw, rfl, hk, hb2⟩
        have K2 := Hd.mk hk
        have B2 := Hd.mk (B1.out.trans (hb2.mono B1.out.size))
        clear hk hb2
        have B3 := Hd.mk (show Below wB.heap.size wB (w2.alloc (.cells #[.pointer (some ⟨k, 0, none⟩)] 84)) from B2.out.alloc B2.out.size _)
        have R3 := Hd.mk (show RI wB w2.heap.size k mt mn mw zeros8 [] [] [] (w2.alloc (.cells #[.pointer (some ⟨k, 0, none⟩)] 84)) from
          ⟨B3.out, alloc_at _ _ _ rfl, K2.out.at_.below (below_alloc (Below.refl _ _) _), Nat.le_trans B1.out.size K2.out.t_, Nat.le_trans B1.out.size K2.out.n_, Nat.le_trans B1.out.size K2.out.w_⟩)
        have KS := Hd.mk (Nat.le_trans B1.out.size K2.out.k_)
        have KC := Hd.mk B2.out.size
        obtain ⟨w3, hw3⟩ : ∃ w3, w3 = w2.alloc (.cells #[.pointer (some ⟨k, 0, none⟩)] 84) := ⟨_, rfl⟩
        go_wp2_with fail
        rw [← hw3]
        rw [← hw3] at B3 R3
        have X3 := LX.out w3 B3.out
        have z0 : w3.cell? _ = some (.slice A0 S.f0.length c0) := cell_of X3 0 rfl
        have z1 : w3.cell? _ = some (.pointer (some ⟨k, 0, none⟩)) := cell_of R3.out.hk 0 rfl
        have HW3 := Hd.mk hw3
        clear hw3 X3
        have U64 := Tryz.underlying64
        refine wp_region_still_tail 6 (by kernel_rfl) (by kernel_rfl) ?_
        change wpStill _ _ (World.drew _) _ _ _
        simp only [List.take_succ_cons, List.take_zero, List.drop_succ_cons, List.drop_zero]
        repeat still_step
        refine wpStill_nil ?_
        change wpList _ _ _ _ _ (World.drew w3)
        have N0 := Hd.mk (Nums.of (Kd.C_below HB.out.h0 (B3.out.trans (Below.drew (Below.refl _ w3)))))
        have L0 := Hd.mk (show S.f0.length = 8 by have := E0.out; omega)
        obtain ⟨ad, had, _⟩ := N0.out 0 (by rw [L0.out]; omega)
        subst had
        have RD := Hd.mk (R3.out.st (Below.drew (Below.refl _ w3)))
        refine wpList_copy_own rfl (.tmp 25) (.tmp 27) 22 22 rfl 3 Tryz.underlying22 (by kernel_rfl) k 0 8 8 ad S.f0.length c0 rfl rfl (knowCells zeros8 mt mn mw) 129 RD.out.kn.blk (S.f0.map (Value.int .i64)) (by rw [List.length_map, L0.out]; rfl) ?hs (by rw [List.length_map, L0.out]; show 0 + 8 ≤ 13; omega) ?ho ?_
        case hs =>
          intro j v hj
          rw [List.getElem?_map] at hj
          cases hq : S.f0[j]? with
          | none => rw [hq] at hj; exact absurd hj (by simp)
          | some x =>
            rw [hq] at hj
            simp at hj
            subst hj
            have hlt := (List.getElem?_eq_some_iff.1 hq).1
            obtain ⟨ad', he, hc, _⟩ := N0.out j hlt
            obtain rfl := Option.some.inj he
            rw [hc, getElem!_pos S.f0 j hlt, (List.getElem?_eq_some_iff.1 hq).2]
        case ho =>
          intro v hv
          obtain ⟨x, _, rfl⟩ := List.mem_map.1 hv
          rfl
        have R4 := Hd.mk (show RI wB w2.heap.size k mt mn mw S.f0 [] [] [] (w3.drew.setRow k ((knowCells zeros8 mt mn mw).toList.take 0 ++ (S.f0.map (Value.int .i64) ++ (knowCells zeros8 mt mn mw).toList.drop (0 + (S.f0.map (Value.int .i64)).length))).toArray) from
          ⟨below_setRow RD.out.base KS.out _, (setRow_other _ _ _ _ (fun e => by have := K2.out.at_.lt.1; omega)).trans RD.out.hk, know_set RD.out.kn L0.out, RD.out.nt, RD.out.nn, RD.out.nw⟩)
        generalize w3.drew.setRow k ((knowCells zeros8 mt mn mw).toList.take 0 ++ (S.f0.map (Value.int .i64) ++ (knowCells zeros8 mt mn mw).toList.drop (0 + (S.f0.map (Value.int .i64)).length))).toArray = w4 at R4 ⊢
        clear z0 z1
        clear RD N0 R3 B3 HW3
        have X4 := LX.out w4 R4.out.base
        have z1 : w4.cell? _ = some (.slice A1 S.f1.length c1) := cell_of X4 1 rfl
        clear X4
        have RT := Hd.mk (risingT_run w4 wB A1 c1 w2.heap.size S.f1 (pT S) _ _ HB.out.h1 HB.out.n1 (riseT wB w2.heap.size k mt mn mw S HS.out HB.out.n1) (IT_0 _ _ _ _ _ _ _ _ R4.out))
        go_wp2_with fail
        refine RT.out.mono ?_
        rintro e w5 ⟨b5, rfl, h5⟩
        have H5 := Hd.mk h5
        clear h5
        cases b5 with
        | false =>
          have NR := Hd.mk (show ¬ Rt S from fun hr => absurd (H5.out.ans.2 ((rt_iff S).1 hr).2.2.2.1) (by simp))
          have JJ := H5.out.base
          have q0 : w5.cell? _ = some (.pointer (some ⟨k, 0, none⟩)) := cell_of JJ.hk 0 rfl
          have JH := Hd.mk JJ
          clear JJ
          go_wp2_with fail
          go_quiet (fail)
          go_wp2_with fail
          go_ret2
          exact ⟨_, false, rfl, ⟨fun h => absurd h (by simp), fun h => absurd h NR.out⟩, fun h => absurd h (by simp), LB.out _ (JH.out.base.trans (below_drewN (Below.refl _ _) _))⟩
        | true =>
          have A5' := Hd.mk ((rises_iff gcT _ _).1 (H5.out.ans.1 rfl))
          have R5 := Hd.mk (IT_end wB w2.heap.size k mt mn mw S _ (H5.out.inv rfl))
          have X5 := LX.out w5 R5.out.base
          have z2 : w5.cell? _ = some (.slice A2 S.f2.length c2) := cell_of X5 2 rfl
          clear X5
          have RN := Hd.mk (risingN_run w5 wB A2 c2 w2.heap.size S.f2 (pN S) _ _ HB.out.h2 HB.out.n2 (riseN wB w2.heap.size k mt mn mw S HS.out HB.out.n2) (IN_0 _ _ _ _ _ _ _ _ R5.out))
          go_wp2_with fail
          refine RN.out.mono ?_
          rintro e w6 ⟨b6, rfl, h6⟩
          have H6 := Hd.mk h6
          clear h6
          cases b6 with
          | false =>
            have NR := Hd.mk (show ¬ Rt S from fun hr => absurd (H6.out.ans.2 ((rt_iff S).1 hr).2.2.2.2.1) (by simp))
            have JJ := H6.out.base
            have q0 : w6.cell? _ = some (.pointer (some ⟨k, 0, none⟩)) := cell_of JJ.hk 0 rfl
            have JH := Hd.mk JJ
            clear JJ
            go_wp2_with fail
            go_quiet (fail)
            go_wp2_with fail
            go_ret2
            exact ⟨_, false, rfl, ⟨fun h => absurd h (by simp), fun h => absurd h NR.out⟩, fun h => absurd h (by simp), LB.out _ (JH.out.base.trans (below_drewN (Below.refl _ _) _))⟩
          | true =>
            have A6' := Hd.mk ((rises_iff gcM _ _).1 (H6.out.ans.1 rfl))
            have R6 := Hd.mk (IN_end wB w2.heap.size k mt mn mw S _ (H6.out.inv rfl) A6'.out.2)
            have X6 := LX.out w6 R6.out.base
            have z3 : w6.cell? _ = some (.slice A3 S.f3.length c3) := cell_of X6 3 rfl
            clear X6
            have RR := Hd.mk (risingR_run w6 wB A3 c3 w2.heap.size S.f3 (pR' S) _ _ HB.out.h3 (by have := HB.out.n34; omega) (riseR wB w2.heap.size k mt mn mw S HS.out (by have := HB.out.n34; omega)) (IR_0 _ _ _ _ _ _ _ _ R6.out))
            go_wp2_with fail
            refine RR.out.mono ?_
            rintro e w7 ⟨b7, rfl, h7⟩
            have H7 := Hd.mk h7
            clear h7
            cases b7 with
            | false =>
              have NR := Hd.mk (show ¬ Rt S from fun hr => absurd (H7.out.ans.2 ((rt_iff S).1 hr).2.2.2.2.2.1) (by simp))
              have JJ := H7.out.base
              have q0 : w7.cell? _ = some (.pointer (some ⟨k, 0, none⟩)) := cell_of JJ.hk 0 rfl
              have JH := Hd.mk JJ
              clear JJ
              go_wp2_with fail
              go_quiet (fail)
              go_wp2_with fail
              go_ret2
              exact ⟨_, false, rfl, ⟨fun h => absurd h (by simp), fun h => absurd h NR.out⟩, fun h => absurd h (by simp), LB.out _ (JH.out.base.trans (below_drewN (Below.refl _ _) _))⟩
            | true =>
              have A7' := Hd.mk ((rises_iff gcR _ _).1 (H7.out.ans.1 rfl))
              have R7 := Hd.mk (IR_end wB w2.heap.size k mt mn mw S _ (H7.out.inv rfl) A7'.out.2)
              have HRR := Hd.mk (all_bang.1 A7'.out.1)
              have X7 := LX.out w7 R7.out.base
              have z4 : w7.cell? _ = some (.slice A4 S.f4.length c4) := cell_of X7 4 rfl
              clear X7
              have RU := Hd.mk (risingU_run w7 wB A4 c4 w2.heap.size S.f4 (pU' S) _ _ HB.out.h4 (by have := HB.out.n34; omega) (riseU wB w2.heap.size k mt mn mw S HS.out HRR.out HB.out.n34) (IU_0 _ _ _ _ _ _ _ _ R7.out))
              go_wp2_with fail
              refine RU.out.mono ?_
              rintro e w8 ⟨b8, rfl, h8⟩
              have H8 := Hd.mk h8
              clear h8
              cases b8 with
              | false =>
                have NR := Hd.mk (show ¬ Rt S from fun hr => absurd (H8.out.ans.2 ((rt_iff S).1 hr).2.2.2.2.2.2.1) (by simp))
                have JJ := H8.out.base
                have q0 : w8.cell? _ = some (.pointer (some ⟨k, 0, none⟩)) := cell_of JJ.hk 0 rfl
                have JH := Hd.mk JJ
                clear JJ
                go_wp2_with fail
                go_quiet (fail)
                go_wp2_with fail
                go_ret2
                exact ⟨_, false, rfl, ⟨fun h => absurd h (by simp), fun h => absurd h NR.out⟩, fun h => absurd h (by simp), LB.out _ (JH.out.base.trans (below_drewN (Below.refl _ _) _))⟩
              | true =>
                have A8' := Hd.mk ((rises_iff gcU _ _).1 (H8.out.ans.1 rfl))
                have R8 := Hd.mk (IU_end wB w2.heap.size k mt mn mw S _ (H8.out.inv rfl) A8'.out.2)
                have FY := Hd.mk (show ∀ p ∈ waysP S, wayB p = true from fun p hp => by
                  rcases List.mem_append.1 hp with hp | hp
                  · obtain ⟨r, hr, rfl⟩ := List.mem_map.1 hp
                    have := HRR.out r hr
                    simp only [wayB, wayR, rightB, Bool.and_eq_true, inR_iff] at *
                    omega
                  · obtain ⟨u, hu, rfl⟩ := List.mem_map.1 hp
                    have := all_bang.1 A8'.out.1 u hu
                    simp only [wayB, wayU, usedB, Bool.and_eq_true, inR_iff] at *
                    omega)
                have FU : Hd (∀ W, Below w8.heap.size w8 W → Calls Tryz.prog 113 #[.pointer (some ⟨k, 0, none⟩)] W fun e w' => e = .returned (.bool (fundB (waysP S))) ∧ Below w8.heap.size w8 w') := ⟨fun W hW => (fundedB_run W k mt mn mw _ _ _ _ (R8.out.st hW).kn FY.out).mono fun e w' hh => ⟨hh.1, hW.trans (hh.2.mono hW.size)⟩⟩
                have CC : Hd (∀ W, Below w8.heap.size w8 W → W.cell? ⟨w2.heap.size, 0, none⟩ = some (.pointer (some ⟨k, 0, none⟩))) := ⟨fun W hW => cell_of (R8.out.st hW).hk 0 rfl⟩
                have RS := Hd.mk (show fundB (waysP S) = true ↔ Rt S by
                  rw [fundB_iff, rt_iff]
                  exact ⟨fun h => ⟨by have := E0.out; omega, by have := E1.out; omega, HA.out, H5.out.ans.1 rfl, H6.out.ans.1 rfl, H7.out.ans.1 rfl, H8.out.ans.1 rfl, h⟩, fun h => h.2.2.2.2.2.2.2⟩)
                generalize fundB (waysP S) = fb at *
                go_wp2_with fail
                refine wp_region_class (C := fun W => Below w8.heap.size w8 W) (by kernel_rfl) (by kernel_rfl) (Below.drew (Below.refl _ w8)) ?_
                repeat (first
                  | go_big_quiet_skip
                  | (go_big_quiet_want; go_big_quiet_op; first
                    | go_big_quiet_on
                    | (refine ⟨_, fun _ _ => by with_reducible rfl, ?_⟩; go_big_quiet_on)
                    | (apply Exists.intro
                       refine ⟨fun W hW => ?_, ?_⟩
                       · first
                         | (go_at_call 113; exact FU.out W hW)
                         | (have z0 := CC.out W hW; go_simp; first | done | rfl)
                       go_big_quiet_on)))
                refine wpQuiet_nil ?_
                intro W hW
                have HW := Hd.mk hW
                clear hW
                go_wp2_with fail
                go_ret2
                exact ⟨_, fb, rfl, RS.out, fun _ => ⟨k, mt, mn, mw, rfl, (R8.out.st HW.out).kn, Nat.le_trans (by rw [HZ.out]; omega) KS.out, Nat.le_trans (by rw [HZ.out]; omega) R8.out.nt, Nat.le_trans (by rw [HZ.out]; omega) R8.out.nn, Nat.le_trans (by rw [HZ.out]; omega) R8.out.nw⟩, LB.out _ (R8.out.st HW.out).base⟩
    · have e1' : decide ((128 : Int) < (S.f1.length : Int)) = true := decide_eq_true (by omega)
      have NR := Hd.mk (show ¬ Rt S from fun hr => by have := hr.tl; omega)
      go_wp2_with fail
      go_ret2
      first
        | exact ⟨none, false, rfl, ⟨fun h => absurd h (by simp), fun h => absurd h NR.out⟩, fun h => absurd h (by simp), by rw [← HWB.out]; exact BBh.out⟩
        | exact ⟨none, .inl ⟨rfl, ⟨fun h => absurd h (by simp), fun h => absurd h NR.out⟩, fun h => absurd h (by simp), by rw [← HWB.out]; exact BBh.out⟩⟩
  · have e0' : ((S.f0.length : Int) != 8) = true := by simp [e0]
    have NR := Hd.mk (show ¬ Rt S from fun hr => by have := hr.sl; omega)
    go_wp2_with fail
    go_ret2
    first
      | exact ⟨none, false, rfl, ⟨fun h => absurd h (by simp), fun h => absurd h NR.out⟩, fun h => absurd h (by simp), by rw [← HWB.out]; exact BBh.out⟩
      | exact ⟨none, .inl ⟨rfl, ⟨fun h => absurd h (by simp), fun h => absurd h NR.out⟩, fun h => absurd h (by simp), by rw [← HWB.out]; exact BBh.out⟩⟩
end Go.Proofs.YtmeaeapopfcmbaaGreat

namespace Go.Proofs.YtmeaeapopfcmbaaGreat
open Go.RowKit Go.Proofs.YtmeaeapopfcmbaaGreatW.PrintWords Go.Proofs.YtmeaeapopfcmbaaGreatW.PrintLast Go.Proofs.YtmeaeapopfcmbaaGreatW.PrintMore PP
set_option linter.unusedVariables false
set_option linter.unusedSimpArgs false
set_option maxHeartbeats 4000000
set_option maxRecDepth 100000
open Classical in
noncomputable def rtB (S : S28) : Bool := decide (Rt S)
open Classical in
theorem rtB_iff {S : S28} : rtB S = true ↔ Rt S := by unfold rtB; exact decide_eq_true_iff
/-- A replica in memory. -/
structure Rep (w : World) (r k mt mn mw : Nat) (o : Int) (S : S28) : Prop where
  blk : RepBlk w r o (some ⟨k, 0, none⟩)
  kn : KnowAt w k mt mn mw S.f0 (tagsP S) (notesP S) (waysP S)
theorem Rep.ne {w : World} {r k mt mn mw : Nat} {o : Int} {S : S28} (h : Rep w r k mt mn mw o S) : r ≠ k ∧ r ≠ mt ∧ r ≠ mn ∧ r ≠ mw :=
  ⟨fun e => by have h1 := h.blk; have h2 := h.kn.blk; subst e; unfold RepBlk at h1; rw [h1] at h2; simp at h2, h.kn.t.ne h.blk, h.kn.n.ne h.blk, h.kn.y.ne h.blk⟩
theorem RepBlk.lt {w : World} {r : Nat} {o : Int} {kp : Option Addr} (h : RepBlk w r o kp) : r < w.heap.size := (Array.getElem?_eq_some_iff.1 h).1
theorem RepBlk.below {w w' : World} {r : Nat} {o : Int} {kp : Option Addr} (h : RepBlk w r o kp) (hb : Below w.heap.size w w') : RepBlk w' r o kp := (hb.block r h.lt).trans h
theorem Rep.below {w w' : World} {r k mt mn mw : Nat} {o : Int} {S : S28} (h : Rep w r k mt mn mw o S) (hb : Below w.heap.size w w') : Rep w' r k mt mn mw o S := ⟨h.blk.below hb, h.kn.below hb⟩
theorem read_rt (w : World) (A0 A1 A2 A3 A4 : Option Addr) (c0 c1 c2 c3 c4 : Nat) (S : S28) (h : StC w A0 c0 A1 c1 A2 c2 A3 c3 A4 c4 S) (hS : StOk S) :
    Calls Tryz.prog 51 #[stV S A0 c0 A1 c1 A2 c2 A3 c3 A4 c4] w fun e w' => ∃ p : Option Addr, e = .returned (.tuple #[.pointer p, .bool (rtB S)]) ∧ (rtB S = true → ∃ k mt mn mw, p = some ⟨k, 0, none⟩ ∧ KnowNew w.heap.size w' k mt mn mw S.f0 (tagsP S) (notesP S) (waysP S)) ∧ Below w.heap.size w w' :=
  (read_run w A0 A1 A2 A3 A4 c0 c1 c2 c3 c4 S h hS).mono fun e w' ⟨p, b, h1, h2⟩ => by
    have : b = rtB S := by rw [Bool.eq_iff_iff, h2.ans, rtB_iff]
    subst this
    exact ⟨p, h1, h2.kn, h2.base⟩
theorem right_run (w : World) (A0 A1 A2 A3 A4 : Option Addr) (c0 c1 c2 c3 c4 : Nat) (S : S28) (h : StC w A0 c0 A1 c1 A2 c2 A3 c3 A4 c4 S) (hS : StOk S) :
    Calls Tryz.prog 20 #[stV S A0 c0 A1 c1 A2 c2 A3 c3 A4 c4] w fun e w' => e = .returned (.bool (rtB S)) ∧ Below w.heap.size w w' := by
  have BB := Hd.mk (show Below w.heap.size w (w.alloc (.cells #[.slice A0 S.f0.length c0, .slice A1 S.f1.length c1, .slice A2 S.f2.length c2, .slice A3 S.f3.length c3, .slice A4 S.f4.length c4] 28)) from below_alloc (Below.refl _ _) _)
  have HR := Hd.mk (read_rt _ A0 A1 A2 A3 A4 c0 c1 c2 c3 c4 S (h.below BB.out) hS)
  clear h hS
  generalize rtB S = b at *
  unfold stV at *
  go_enter Tryz.func20, Tryz.ntmps20
  go_wp2_with fail
  refine HR.out.mono ?_
  rintro e w1 ⟨p, rfl, _, hb⟩
  have B1 := Hd.mk (BB.out.trans (hb.mono BB.out.size))
  clear hb
  go_wp2_with fail
  go_ret
  exact ⟨rfl, B1.out⟩
theorem load_run (w : World) (o : Int) (A0 A1 A2 A3 A4 : Option Addr) (c0 c1 c2 c3 c4 : Nat) (S : S28) (h : StC w A0 c0 A1 c1 A2 c2 A3 c3 A4 c4 S) (hS : StOk S) :
    Calls Tryz.prog 18 #[.int .i64 o, stV S A0 c0 A1 c1 A2 c2 A3 c3 A4 c4] w fun e w' => Below w.heap.size w w' ∧
      (((rtB S && inR 0 7 o) = false ∧ e = .returned (.tuple #[.pointer none, .int .i64 2])) ∨
       ((rtB S && inR 0 7 o) = true ∧ ∃ r k mt mn mw, e = .returned (.tuple #[.pointer (some ⟨r, 0, none⟩), .int .i64 0]) ∧ w.heap.size ≤ r ∧ RepBlk w' r o (some ⟨k, 0, none⟩) ∧ KnowNew w.heap.size w' k mt mn mw S.f0 (tagsP S) (notesP S) (waysP S))) := by
  have BB := Hd.mk (show Below w.heap.size w (w.alloc (.cells #[.slice A0 S.f0.length c0, .slice A1 S.f1.length c1, .slice A2 S.f2.length c2, .slice A3 S.f3.length c3, .slice A4 S.f4.length c4] 28)) from below_alloc (Below.refl _ _) _)
  have HR := Hd.mk (read_rt _ A0 A1 A2 A3 A4 c0 c1 c2 c3 c4 S (h.below BB.out) hS)
  have U := Hd.mk (fun W => ofs o 0 7 W)
  clear h hS
  unfold stV at *
  go_enter Tryz.func18, Tryz.ntmps18
  go_wp2_with fail
  refine HR.out.mono ?_
  rintro e w1 ⟨p, rfl, hk, hb⟩
  have K1 := Hd.mk hk
  have B1 := Hd.mk (BB.out.trans (hb.mono BB.out.size))
  clear hb hk
  cases hq : rtB S with
  | false =>
    have HQ := Hd.mk hq
    clear hq
    go_wp2_with fail
    go_ret2
    exact ⟨B1.out, .inl ⟨by rw [HQ.out]; rfl, rfl⟩⟩
  | true =>
    obtain ⟨k, mt, mn, mw, rfl, hn⟩ := K1.out hq
    have HQ := Hd.mk hq
    clear hq
    have KN := Hd.mk hn
    clear hn
    go_wp2_with fail
    refine (U.out _).mono ?_
    rintro e w2 ⟨rfl, hb2⟩
    have B2 := Hd.mk (B1.out.trans (hb2.mono B1.out.size))
    have K2 := Hd.mk (KN.out.at_.below hb2)
    clear hb2
    cases hc : inR 0 7 o with
    | false =>
      have HC := Hd.mk hc
      clear hc
      go_wp2_with fail
      go_ret2
      exact ⟨B2.out, .inl ⟨by rw [HQ.out, HC.out]; rfl, rfl⟩⟩
    | true =>
      have HC := Hd.mk hc
      clear hc
      go_wp2_with fail
      go_ret2
      refine ⟨below_alloc B2.out _, .inr ⟨by rw [HQ.out, HC.out]; rfl, _, k, mt, mn, mw, rfl, B2.out.size, alloc_at _ _ _ rfl, ⟨K2.out.below (below_alloc (Below.refl _ _) _), ?_, ?_, ?_, ?_⟩⟩⟩
      · exact Nat.le_trans BB.out.size KN.out.k_
      · exact Nat.le_trans BB.out.size KN.out.t_
      · exact Nat.le_trans BB.out.size KN.out.n_
      · exact Nat.le_trans BB.out.size KN.out.w_
end Go.Proofs.YtmeaeapopfcmbaaGreat

namespace Go.Proofs.YtmeaeapopfcmbaaGreat
open Go.RowKit Go.Proofs.YtmeaeapopfcmbaaGreatW.PrintWords Go.Proofs.YtmeaeapopfcmbaaGreatW.PrintLast Go.Proofs.YtmeaeapopfcmbaaGreatW.PrintMore PP
set_option linter.unusedVariables false
set_option linter.unusedSimpArgs false
set_option maxHeartbeats 4000000
set_option maxRecDepth 100000
/-- The error of an argument. -/
def errB (b : Bool) : Int := if b = true then 0 else 2
def freeV (S : S28) (st o : Int) : Int := if inR 0 7 st = true then freeY (waysP S) st o else 0
def noteV (S : S28) (n : Int) : ByteArray := if inR 0 63 n = true then ((mget (notesP S) n).getD z102).f1 else ⟨#[]⟩
def noteIs (S : S28) (n : Int) : Bool := inR 0 63 n && (mget (notesP S) n).isSome
theorem free_no (w : World) (p : Option Addr) (h : NoRep w p) (st : Int) : Calls Tryz.prog 32 #[.pointer p, .int .i64 st] w fun e w' => e = .returned (.tuple #[.int .i64 0, .int .i64 1]) ∧ Below w.heap.size w w' := by
  have U := Hd.mk (ofsD st 7 w)
  have K := Hd.mk (fun n b => checked_no (w.drewN n) p (by
    rcases h with rfl | ⟨r, o, rfl, h⟩
    · exact .inl rfl
    · exact .inr ⟨r, o, rfl, h.below (below_drewN (Below.refl _ _) n)⟩) b)
  clear h
  go_enter Tryz.func32, Tryz.ntmps32
  go_wp2_with fail
  refine U.out.mono ?_
  rintro e w1 ⟨rfl, n, rfl⟩
  go_wp2_with fail
  refine (K.out _ _).mono ?_
  rintro e w1 ⟨rfl, rfl⟩
  go_wp2_with fail
  go_ret2
  exact ⟨rfl, below_drewN (Below.refl _ _) _⟩
theorem left_no (w : World) (p : Option Addr) (h : NoRep w p) (st : Int) : Calls Tryz.prog 33 #[.pointer p, .int .i64 st] w fun e w' => e = .returned (.tuple #[.int .i64 0, .int .i64 1]) ∧ Below w.heap.size w w' := by
  have U := Hd.mk (ofsD st 7 w)
  have K := Hd.mk (fun n b => checked_no (w.drewN n) p (by
    rcases h with rfl | ⟨r, o, rfl, h⟩
    · exact .inl rfl
    · exact .inr ⟨r, o, rfl, h.below (below_drewN (Below.refl _ _) n)⟩) b)
  clear h
  go_enter Tryz.func33, Tryz.ntmps33
  go_wp2_with fail
  refine U.out.mono ?_
  rintro e w1 ⟨rfl, n, rfl⟩
  go_wp2_with fail
  refine (K.out _ _).mono ?_
  rintro e w1 ⟨rfl, rfl⟩
  go_wp2_with fail
  go_ret2
  exact ⟨rfl, below_drewN (Below.refl _ _) _⟩
theorem readn_no (w : World) (p : Option Addr) (h : NoRep w p) (st : Int) : Calls Tryz.prog 36 #[.pointer p, .int .i64 st] w fun e w' => e = .returned (.tuple #[.string ⟨#[]⟩, .bool false, .int .i64 1]) ∧ Below w.heap.size w w' := by
  have U := Hd.mk (ofsD st 63 w)
  have K := Hd.mk (fun n b => checked_no (w.drewN n) p (by
    rcases h with rfl | ⟨r, o, rfl, h⟩
    · exact .inl rfl
    · exact .inr ⟨r, o, rfl, h.below (below_drewN (Below.refl _ _) n)⟩) b)
  clear h
  go_enter Tryz.func36, Tryz.ntmps36
  go_wp2_with fail
  refine U.out.mono ?_
  rintro e w1 ⟨rfl, n, rfl⟩
  go_wp2_with fail
  refine (K.out _ _).mono ?_
  rintro e w1 ⟨rfl, rfl⟩
  go_wp2_with fail
  go_ret3
  exact ⟨rfl, below_drewN (Below.refl _ _) _⟩
theorem free_rep (w : World) (r k mt mn mw : Nat) (o : Int) (S : S28) (h : Rep w r k mt mn mw o S) (hS : Rt S) (st : Int) :
    Calls Tryz.prog 32 #[.pointer (some ⟨r, 0, none⟩), .int .i64 st] w fun e w' => e = .returned (.tuple #[.int .i64 (freeV S st o), .int .i64 (errB (inR 0 7 st))]) ∧ Below w.heap.size w w' := by
  have U := Hd.mk (ofsD st 7 w)
  have K := Hd.mk (fun n b => checked_yes (w.drewN n) r k o (h.blk.below (below_drewN (Below.refl _ _) n)) b)
  have H := Hd.mk h
  have FR : Hd (∀ W, Below w.heap.size w W → Calls Tryz.prog 67 #[.pointer (some ⟨k, 0, none⟩), .int .i64 st, .int .i64 o] W fun e w' => e = .returned (.int .i64 (freeY (waysP S) st o)) ∧ Below w.heap.size w w') := ⟨fun W hW => (free_run W k mt mn mw _ _ _ _ (h.kn.below hW) hS.kv.yk st o).mono fun e w' hh => ⟨hh.1, hW.trans (hh.2.mono hW.size)⟩⟩
  have C0 : Hd (∀ W, Below w.heap.size w W → W.cell? ⟨r, 0, none⟩ = some (.int .i64 o)) := ⟨fun W hW => (h.blk.below hW).o⟩
  have C1 : Hd (∀ W, Below w.heap.size w W → W.cell? ⟨r, 1, none⟩ = some (.pointer (some ⟨k, 0, none⟩))) := ⟨fun W hW => (h.blk.below hW).k⟩
  clear h hS
  have VV := Hd.mk (show freeV S st o = if inR 0 7 st = true then freeY (waysP S) st o else 0 from rfl)
  generalize freeY (waysP S) st o = v at FR VV
  generalize freeV S st o = fv at *
  go_enter Tryz.func32, Tryz.ntmps32
  go_wp2_with fail
  refine U.out.mono ?_
  rintro e w1 ⟨rfl, n, rfl⟩
  go_wp2_with fail
  refine (K.out _ _).mono ?_
  rintro e w1 ⟨rfl, rfl⟩
  cases hq : inR 0 7 st with
  | false =>
    go_wp2_with fail
    go_ret2
    have VV := VV.out
    rw [hq] at VV
    exact ⟨by rw [VV]; simp [errB, hq], below_drewN (Below.refl _ _) _⟩
  | true =>
    have HQ := Hd.mk hq
    clear hq
    go_wp2_with fail
    refine wp_region_class (C := fun W => Below w.heap.size w W) (by kernel_rfl) (by kernel_rfl) (Below.drew (below_drewN (Below.refl _ w) _)) ?_
    repeat (first
      | go_big_quiet_skip
      | (go_big_quiet_want; go_big_quiet_op; first
        | go_big_quiet_on
        | (refine ⟨_, fun _ _ => by with_reducible rfl, ?_⟩; go_big_quiet_on)
        | (apply Exists.intro
           refine ⟨fun W hW => ?_, ?_⟩
           · first
             | (go_at_call 67; exact FR.out W hW)
             | (have z0 := C0.out W hW; have z1 := C1.out W hW; go_simp; first | done | rfl)
           go_big_quiet_on)))
    refine wpQuiet_nil ?_
    intro W hW
    have HW := Hd.mk hW
    clear hW
    go_wp2_with fail
    go_ret2
    have VV := VV.out
    rw [HQ.out] at VV
    exact ⟨by rw [VV, HQ.out]; simp [errB], HW.out⟩
theorem readn_rep (w : World) (r k mt mn mw : Nat) (o : Int) (S : S28) (h : Rep w r k mt mn mw o S) (st : Int) :
    Calls Tryz.prog 36 #[.pointer (some ⟨r, 0, none⟩), .int .i64 st] w fun e w' => e = .returned (.tuple #[.string (noteV S st), .bool (noteIs S st), .int .i64 (errB (inR 0 63 st))]) ∧ Below w.heap.size w w' := by
  have U := Hd.mk (ofs st 0 63 w)
  have K := Hd.mk (fun W (hb : Below w.heap.size w W) b => checked_yes W r k o (h.blk.below hb) b)
  have HH := Hd.mk h
  clear h
  go_enter Tryz.func36, Tryz.ntmps36
  go_wp2_with fail
  refine U.out.mono ?_
  rintro e w1 ⟨rfl, hb1⟩
  have B1 := Hd.mk hb1
  clear hb1
  go_wp2_with fail
  refine (K.out _ B1.out _).mono ?_
  rintro e w2 ⟨rfl, rfl⟩
  have q1 := (HH.out.below B1.out).blk.k
  have q2 := (HH.out.below B1.out).kn.cn
  have HN := Hd.mk (HH.out.below B1.out).kn.n
  cases hq : inR 0 63 st with
  | false =>
    go_wp2_with fail
    go_ret3
    exact ⟨by unfold noteV noteIs; rw [hq]; rfl, B1.out⟩
  | true =>
    obtain ⟨i0, i1⟩ := inR_iff.1 hq
    have HQ := Hd.mk hq
    clear hq
    have lk := HN.out.look_ok (a := st) (okI_of (by omega) (by omega))
    have NO := Hd.mk (show noteV S st = ((mget (notesP S) st).getD CN.z).f1 ∧ noteIs S st = (mget (notesP S) st).isSome by unfold noteV noteIs; rw [HQ.out]; exact ⟨rfl, rfl⟩)
    generalize (mget (notesP S) st).isSome = b at lk NO
    generalize (mget (notesP S) st).getD CN.z = z at lk NO
    obtain ⟨z0, z1, z2, z3⟩ := z
    change (Instr.lookup 120 _ (.int .i64 st) true).run _ _ = .ok (.tuple #[.agg #[.int .i64 z0, .string z1, .int .i64 z2, .int .i64 z3], .bool b]) _ at lk
    go_wp2_with fail
    go_ret3
    exact ⟨by rw [NO.out.1, NO.out.2, HQ.out]; rfl, below_alloc B1.out _⟩
end Go.Proofs.YtmeaeapopfcmbaaGreat

namespace Go.Proofs.YtmeaeapopfcmbaaGreat
open Go.RowKit Go.Proofs.YtmeaeapopfcmbaaGreatW.PrintWords Go.Proofs.YtmeaeapopfcmbaaGreatW.PrintLast Go.Proofs.YtmeaeapopfcmbaaGreatW.PrintMore PP
set_option linter.unusedVariables false
set_option linter.unusedSimpArgs false
set_option maxHeartbeats 4000000
set_option maxRecDepth 100000
/-- What is there of a way. -/
def curW (S : S28) (x : S131) : Int := (mget (waysP S) x).getD 0
def addE (S : S28) (o : Int) (x : S131) (a : Int) (ok asks : Bool) : Int :=
  if (ok && inR 0 7 x.f0 && inR 1 MC a) = false then 2 else if (asks && decide (freeY (waysP S) x.f0 o < a)) = true then 14 else if MC < curW S x + a then 4 else 0
def addY (S : S28) (o : Int) (x : S131) (a : Int) (ok asks : Bool) : List (S131 × Int) := if addE S o x a ok asks = 0 then mput (waysP S) x (curW S x + a) else waysP S
/-- What add answers and leaves. -/
structure AddRes (w : World) (mw : Nat) (S : S28) (o : Int) (x : S131) (a : Int) (ok asks : Bool) (e : Ending) (w' : World) : Prop where
  ans : e = .returned (.int .i64 (addE S o x a ok asks))
  map : MapIs CW w' mw (addY S o x a ok asks)
  chg : Chg w.heap.size (· = mw) w w'
theorem AddRes.err {w w' : World} {mw : Nat} {S : S28} {o : Int} {x : S131} {a : Int} {ok asks : Bool} {v : Int} (hv : addE S o x a ok asks = v) (h0 : v ≠ 0) (hm : MapIs CW w mw (waysP S)) (hb : Below w.heap.size w w') : AddRes w mw S o x a ok asks (.returned (.int .i64 v)) w' :=
  ⟨by rw [hv], by unfold addY; rw [hv, if_neg h0]; exact hm.below hb hm.lt, .of hb⟩
theorem cur_bound {S : S28} (hS : Rt S) (x : S131) : 0 ≤ curW S x ∧ curW S x ≤ MC := by
  unfold curW
  cases h : mget (waysP S) x with
  | none => simp [MC]
  | some v =>
    have := hS.kv.yk _ (mget_some h)
    simp only [wayB, Bool.and_eq_true, inR_iff] at this
    simp
    omega
theorem add_rep (w : World) (r k mt mn mw : Nat) (o : Int) (S : S28) (h : Rep w r k mt mn mw o S) (hS : Rt S) (x : S131) (a : Int) (ok asks : Bool) (hx : ok = true → inR 0 7 x.f0 = true → okW x) :
    Calls Tryz.prog 93 #[.pointer (some ⟨r, 0, none⟩), vW x, .int .i64 a, .bool ok, .bool asks] w fun e w' => AddRes w mw S o x a ok asks e w' := by
  obtain ⟨x0, x1, x2⟩ := x
  have BX : Below w.heap.size w (w.alloc (.cells #[.int .i64 x0, .int .i64 x1, .int .i64 x2] 131)) := below_alloc (Below.refl _ _) _
  have XB := Hd.mk (alloc_at w (.cells #[.int .i64 x0, .int .i64 x1, .int .i64 x2] 131) _ rfl)
  obtain ⟨wB, hwB⟩ : ∃ wB, wB = w.alloc (.cells #[.int .i64 x0, .int .i64 x1, .int .i64 x2] 131) := ⟨_, rfl⟩
  rw [← hwB] at BX XB
  have HB := Hd.mk (h.below BX)
  have HM := Hd.mk h.kn.y
  have HW := Hd.mk hwB
  have BB := Hd.mk BX
  have CB := Hd.mk (cur_bound hS ⟨x0, x1, x2⟩)
  have K := Hd.mk (fun W (hb : Below wB.heap.size wB W) b => checked_yes W r k o (HB.out.blk.below hb) b)
  have U1 := Hd.mk (fun W (hb : Below wB.heap.size wB W) => (ofs x0 0 7 W).mono fun e w' hh => (⟨hh.1, hb.trans (hh.2.mono hb.size)⟩ : e = .returned (.bool (inR 0 7 x0)) ∧ Below wB.heap.size wB w'))
  have U2 := Hd.mk (fun W (hb : Below wB.heap.size wB W) => (count_run W a).mono fun e w' hh => (⟨hh.1, hb.trans (hh.2.mono hb.size)⟩ : e = .returned (.bool (inR 1 MC a)) ∧ Below wB.heap.size wB w'))
  have LB : Hd (∀ W, Below wB.heap.size wB W → Below w.heap.size w W) := ⟨fun W hb => BB.out.trans (hb.mono BB.out.size)⟩
  have FR : Hd (∀ W, Below wB.heap.size wB W → Calls Tryz.prog 67 #[.pointer (some ⟨k, 0, none⟩), .int .i64 x0, .int .i64 o] W fun e w' => e = .returned (.int .i64 (freeY (waysP S) x0 o)) ∧ Below wB.heap.size wB w') := ⟨fun W hW => (free_run W k mt mn mw _ _ _ _ (HB.out.kn.below hW) hS.kv.yk x0 o).mono fun e w' hh => ⟨hh.1, hW.trans (hh.2.mono hW.size)⟩⟩
  have HS := Hd.mk hS
  have HX := Hd.mk hx
  have XW : Hd (∀ W, Below wB.heap.size wB W → W.heap[w.heap.size]? = some (Obj.cells #[.int .i64 x0, .int .i64 x1, .int .i64 x2] 131 (0, 0))) := ⟨fun W hW => (hW.block _ (Array.getElem?_eq_some_iff.1 XB.out).1).trans XB.out⟩
  clear h hS hx BX hwB
  simp only [vW]
  go_enter Tryz.func93, Tryz.ntmps93
  cases ok with
  | false =>
    have ER := Hd.mk (show addE S o ⟨x0, x1, x2⟩ a false asks = 2 by unfold addE; simp)
    go_wp2_with fail
    rw [← HW.out]
    refine (K.out _ (Below.refl _ _) _).mono ?_
    rintro e w2 ⟨rfl, rfl⟩
    go_wp2_with fail
    go_ret
    exact AddRes.err ER.out (by decide) HM.out BB.out
  | true =>
    go_wp2_with fail
    rw [← HW.out]
    refine (U1.out _ (Below.refl _ _)).mono ?_
    rintro e w1 ⟨rfl, hb1⟩
    have B1 := Hd.mk hb1
    clear hb1
    cases g1 : inR 0 7 x0 with
    | false =>
      have ER := Hd.mk (show addE S o ⟨x0, x1, x2⟩ a true asks = 2 by unfold addE; simp [g1])
      clear g1
      go_wp2_with fail
      refine (K.out _ B1.out _).mono ?_
      rintro e w2 ⟨rfl, rfl⟩
      go_wp2_with fail
      go_ret
      exact AddRes.err ER.out (by decide) HM.out (LB.out _ B1.out)
    | true =>
      have G1 := Hd.mk g1
      have OK := Hd.mk (HX.out (by first | rfl | trivial) g1)
      clear g1
      go_wp2_with fail
      refine (U2.out _ B1.out).mono ?_
      rintro e w2 ⟨rfl, hb2⟩
      have B2 := Hd.mk hb2
      clear hb2
      cases g2 : inR 1 MC a with
      | false =>
        have ER := Hd.mk (show addE S o ⟨x0, x1, x2⟩ a true asks = 2 by unfold addE; simp [g2])
        clear g2
        go_wp2_with fail
        refine (K.out _ B2.out _).mono ?_
        rintro e w3 ⟨rfl, rfl⟩
        go_wp2_with fail
        go_ret
        exact AddRes.err ER.out (by decide) HM.out (LB.out _ B2.out)
      | true =>
        have G2 := Hd.mk g2
        have AB := Hd.mk (inR_iff.1 g2)
        clear g2
        go_wp2_with fail
        refine (K.out _ B2.out _).mono ?_
        rintro e w3 ⟨rfl, rfl⟩
        have q0 := (HB.out.below B2.out).blk.k
        have q1 := (HB.out.below B2.out).kn.cw
        go_wp2_with fail
        have FV := Hd.mk (show addE S o ⟨x0, x1, x2⟩ a true asks = if (asks && decide (freeY (waysP S) x0 o < a)) = true then 14 else if MC < curW S ⟨x0, x1, x2⟩ + a then 4 else 0 by unfold addE; simp [G1.out, G2.out])
        generalize freeY (waysP S) x0 o = fv at FR FV
        go_cut [36] from 36 to 52 (fun v36 wc => v36 = .bool (asks && decide (fv < a)) ∧ Hd (Below wB.heap.size wB wc))
        case first =>
          cases asks with
          | false =>
            go_quiet (fail)
            go_wp2_with fail
            go_meet
            exact ⟨by simp, ⟨B2.out.trans (below_drewN (Below.refl _ _) _)⟩⟩
          | true =>
            refine wp_region_class (C := fun W => Below wB.heap.size wB W) (by kernel_rfl) (by kernel_rfl) (B2.out.trans (Below.drew (Below.refl _ _))) ?_
            repeat (first
              | go_big_quiet_skip
              | (go_big_quiet_want; go_big_quiet_op; first
                | go_big_quiet_on
                | (refine ⟨_, fun _ _ => by with_reducible rfl, ?_⟩; go_big_quiet_on)
                | (apply Exists.intro
                   refine ⟨fun W hW => ?_, ?_⟩
                   · first
                     | (go_at_call 67; exact FR.out W hW)
                     | (have z0 := (HB.out.below hW).blk.o; have z1 := (HB.out.below hW).blk.k; have z2 := cell_of (XW.out W hW) 0 rfl; go_simp; first | done | rfl)
                   go_big_quiet_on)))
            refine wpQuiet_nil ?_
            intro W hW
            have HW2 := Hd.mk hW
            clear hW
            go_wp2_with fail
            go_meet
            exact ⟨by simp, HW2⟩
        case rest =>
        clear q0 q1 K U1 U2 FR
        obtain ⟨rfl, BC⟩ := hcut
        cases g3 : (asks && decide (fv < a)) with
        | true =>
          have ER := Hd.mk (show addE S o ⟨x0, x1, x2⟩ a true asks = 14 by rw [FV.out, g3]; rfl)
          clear g3
          go_wp2_with fail
          go_ret
          exact AddRes.err ER.out (by decide) HM.out (LB.out _ BC.out)
        | false =>
          have E3 := Hd.mk (show addE S o ⟨x0, x1, x2⟩ a true asks = if MC < curW S ⟨x0, x1, x2⟩ + a then 4 else 0 by rw [FV.out, g3]; rfl)
          clear g3
          have MC0 := Hd.mk (HB.out.below BC.out).kn.y
          have lk := MC0.out.look OK.out
          have hcw : (mget (waysP S) (⟨x0, x1, x2⟩ : S131)).getD CW.z = curW S ⟨x0, x1, x2⟩ := rfl
          rw [hcw] at lk
          generalize hcu0 : curW S ⟨x0, x1, x2⟩ = cu at *
          have HCU := Hd.mk hcu0
          clear hcu0
          change (Instr.lookup 124 _ (.agg #[.int .i64 x0, .int .i64 x1, .int .i64 x2]) false).run _ _ = .ok (.int .i64 cu) _ at lk
          have z0 := cell_of (XW.out _ BC.out) 0 rfl
          have z1 := cell_of (XW.out _ BC.out) 1 rfl
          have z2 := cell_of (XW.out _ BC.out) 2 rfl
          have hsum : wrap64 (cu + a) = cu + a := by
            have h1 := CB.out
            have h2 := AB.out
            unfold MC at h1 h2
            exact w64 (by omega) (by omega)
          by_cases g4 : (1073741824 : Int) < cu + a
          · have ER := Hd.mk (show addE S o ⟨x0, x1, x2⟩ a true asks = 4 by rw [E3.out, if_pos (show MC < cu + a from g4)])
            go_wp2_with fail
            go_ret
            exact AddRes.err ER.out (by decide) HM.out (LB.out _ BC.out)
          · have ER := Hd.mk (show addE S o ⟨x0, x1, x2⟩ a true asks = 0 by rw [E3.out, if_neg (show ¬ MC < cu + a from g4)])
            have MD := (HB.out.below BC.out).kn.y.below (Below.drew (Below.refl _ _)) (HB.out.below BC.out).kn.y.lt
            have hml : (waysP S).length < maxLen := by have := ways_len HS.out.kv.yk HS.out.kv.yn; unfold maxLen; omega
            obtain ⟨st, w6, me, hm6, ht6, hs6⟩ := MD.entry hml OK.out
            have hcu : (mget (waysP S) (⟨x0, x1, x2⟩ : S131)).getD 0 = cu := HCU.out
            rw [hcu] at me hm6
            obtain ⟨w7, es, hm7, ht7⟩ := hs6 w6 (cu + a) rfl
            have M7 := Hd.mk hm7
            have c6 : Chg w.heap.size (· = mw) w w6 := (Chg.of (LB.out _ BC.out).drew).turned ht6 (LB.out _ BC.out).size (fun _ => rfl)
            have T7 := Hd.mk (show Chg w.heap.size (· = mw) w w7 from c6.turned ht7 c6.size (fun _ => rfl))
            have lkd := MD.look OK.out
            have hgd : (mget (waysP S) (⟨x0, x1, x2⟩ : S131)).getD CW.z = cu := HCU.out
            rw [hgd] at lkd
            change (Instr.lookup 124 _ (.agg #[.int .i64 x0, .int .i64 x1, .int .i64 x2]) false).run _ _ = .ok (.int .i64 cu) _ at lkd
            have X6 := (turned_block ht6 (MD.ne (XW.out _ (BC.out.trans (Below.drew (Below.refl _ _)))))).trans (XW.out _ (BC.out.trans (Below.drew (Below.refl _ _))))
            have y0 := cell_of X6 0 rfl
            have y1 := cell_of X6 1 rfl
            have y2 := cell_of X6 2 rfl
            have lk1 := hm6.look OK.out
            have hg1 : (mget (mput (waysP S) (⟨x0, x1, x2⟩ : S131) cu) (⟨x0, x1, x2⟩ : S131)).getD CW.z = cu := by rw [mget_mput, if_pos rfl]; rfl
            rw [hg1] at lk1
            change (Instr.lookup 124 _ (.agg #[.int .i64 x0, .int .i64 x1, .int .i64 x2]) false).run _ _ = .ok (.int .i64 cu) _ at lk1
            change (Instr.mapEntry 124 _ (.agg #[.int .i64 x0, .int .i64 x1, .int .i64 x2])).run _ _ = .ok (.tuple #[.int .i64 cu, .int .i64 (st : Int)]) _ at me
            change (Instr.entryStore 124 _ (.int .i64 (st : Int)) (.int .i64 (cu + a))).run _ _ = _ at es
            clear hm6 ht6 hs6 hm7 ht7 X6 MD c6
            go_wp2_with fail
            go_region
            all_goals
              go_wp2_with fail
              go_ret
              exact ⟨by rw [ER.out]; rfl, by unfold addY; rw [ER.out, if_pos rfl, HCU.out]; exact M7.out, T7.out⟩
theorem AddRes.lift {w w1 w' : World} {mw : Nat} {S : S28} {o : Int} {x : S131} {a : Int} {ok asks : Bool} {e : Ending} (h : AddRes w1 mw S o x a ok asks e w') (hb : Below w.heap.size w w1) : AddRes w mw S o x a ok asks e w' :=
  ⟨h.ans, h.map, (Chg.of hb).step h.chg (Nat.le_refl _)⟩
theorem okW_of {x : S131} (h0 : inR 0 7 x.f0 = true) (h1 : inR 0 7 x.f1 = true) (h2 : inR (-1) 7 x.f2 = true) : okW x := by
  rw [inR_iff] at h0 h1 h2
  exact ⟨okI_of (by omega) (by omega), okI_of (by omega) (by omega), okI_of (by omega) (by omega)⟩
theorem make_rep (w : World) (r k mt mn mw : Nat) (o : Int) (S : S28) (h : Rep w r k mt mn mw o S) (hS : Rt S) (ho : inR 0 7 o = true) (st a : Int) :
    Calls Tryz.prog 47 #[.pointer (some ⟨r, 0, none⟩), .int .i64 st, .int .i64 a] w fun e w' => AddRes w mw S o ⟨st, o, o⟩ a true false e w' := by
  have O := Hd.mk (own_rep w r o _ h.blk)
  have A := Hd.mk (add_rep w r k mt mn mw o S h hS ⟨st, o, o⟩ a true false (fun _ h0 => okW_of h0 ho (by rw [inR_iff] at ho ⊢; simp only; omega)))
  clear h hS ho
  simp only [vW] at A
  go_enter Tryz.func47, Tryz.ntmps47
  go_wp2_with fail
  refine O.out.mono ?_
  rintro e w1 ⟨rfl, rfl⟩
  go_wp2_with fail
  refine O.out.mono ?_
  rintro e w2 ⟨rfl, rfl⟩
  go_wp2_with fail
  refine A.out.mono ?_
  rintro e w3 hr
  have HR := Hd.mk hr
  obtain rfl := hr.ans
  clear hr
  go_wp2_with fail
  go_ret
  exact HR.out
theorem take_rep (w : World) (r k mt mn mw : Nat) (o : Int) (S : S28) (h : Rep w r k mt mn mw o S) (hS : Rt S) (ho : inR 0 7 o = true) (st a : Int) :
    Calls Tryz.prog 49 #[.pointer (some ⟨r, 0, none⟩), .int .i64 st, .int .i64 a] w fun e w' => AddRes w mw S o ⟨st, o, -1⟩ a true true e w' := by
  have O := Hd.mk (own_rep w r o _ h.blk)
  have A := Hd.mk (add_rep w r k mt mn mw o S h hS ⟨st, o, -1⟩ a true true (fun _ h0 => okW_of h0 ho (by rw [inR_iff]; simp)))
  clear h hS ho
  simp only [vW] at A
  go_enter Tryz.func49, Tryz.ntmps49
  go_wp2_with fail
  refine O.out.mono ?_
  rintro e w1 ⟨rfl, rfl⟩
  go_wp2_with fail
  refine A.out.mono ?_
  rintro e w3 hr
  have HR := Hd.mk hr
  obtain rfl := hr.ans
  clear hr
  go_wp2_with fail
  go_ret
  exact HR.out
theorem give_rep (w : World) (r k mt mn mw : Nat) (o : Int) (S : S28) (h : Rep w r k mt mn mw o S) (hS : Rt S) (ho : inR 0 7 o = true) (st tg a : Int) :
    Calls Tryz.prog 48 #[.pointer (some ⟨r, 0, none⟩), .int .i64 st, .int .i64 tg, .int .i64 a] w fun e w' => AddRes w mw S o ⟨st, o, tg⟩ a (inR 0 7 tg && (tg != o)) true e w' := by
  have O := Hd.mk (own_rep w r o _ h.blk)
  have U := Hd.mk (ofs tg 0 7 w)
  have O2 := Hd.mk (fun W (hb : Below w.heap.size w W) => own_rep W r o _ (h.blk.below hb))
  have A := Hd.mk (fun W (hb : Below w.heap.size w W) (b : Bool) (hb2 : b = true → inR 0 7 tg = true) => (add_rep W r k mt mn mw o S (h.below hb) hS ⟨st, o, tg⟩ a b true (fun h1 h0 => okW_of h0 ho (by have := hb2 h1; rw [inR_iff] at this ⊢; simp only; omega))).mono fun e w' hr => hr.lift hb)
  clear h hS ho
  simp only [vW] at A
  go_enter Tryz.func48, Tryz.ntmps48
  go_wp2_with fail
  refine O.out.mono ?_
  rintro e w1 ⟨rfl, rfl⟩
  go_wp2_with fail
  refine U.out.mono ?_
  rintro e w1 ⟨rfl, hb1⟩
  have B1 := Hd.mk hb1
  clear hb1
  cases hq : inR 0 7 tg with
  | false =>
    have HE := Hd.mk (show (inR 0 7 tg && (tg != o)) = false by rw [hq]; rfl)
    have A0 := Hd.mk (A.out w1 B1.out false (fun h => absurd h (by simp)))
    clear hq
    go_wp2_with fail
    refine A0.out.mono ?_
    rintro e w3 hr
    have HR := Hd.mk hr
    obtain rfl := hr.ans
    clear hr
    go_wp2_with fail
    go_ret
    rw [HE.out]
    exact HR.out
  | true =>
    have HQ := Hd.mk hq
    clear hq
    go_wp2_with fail
    refine (O2.out _ B1.out).mono ?_
    rintro e w2 ⟨rfl, rfl⟩
    by_cases ht : tg = o
    · have hz : (tg != o) = false := by simp [ht]
      have HE := Hd.mk (show (inR 0 7 tg && (tg != o)) = false by rw [HQ.out, hz]; rfl)
      have A0 := Hd.mk (A.out _ B1.out false (fun h => absurd h (by simp)))
      clear ht
      go_wp2_with fail
      refine A0.out.mono ?_
      rintro e w3 hr
      have HR := Hd.mk hr
      obtain rfl := hr.ans
      clear hr
      go_wp2_with fail
      go_ret
      rw [HE.out]
      exact HR.out
    · have hz : (tg != o) = true := by simp [ht]
      have HE := Hd.mk (show (inR 0 7 tg && (tg != o)) = true by rw [HQ.out, hz]; rfl)
      have A0 := Hd.mk (A.out _ B1.out true (fun h => HQ.out))
      clear ht
      go_wp2_with fail
      refine A0.out.mono ?_
      rintro e w3 hr
      have HR := Hd.mk hr
      obtain rfl := hr.ans
      clear hr
      go_wp2_with fail
      go_ret
      rw [HE.out]
      exact HR.out
end Go.Proofs.YtmeaeapopfcmbaaGreat

namespace Go.Proofs.YtmeaeapopfcmbaaGreat
open Go.RowKit Go.Proofs.YtmeaeapopfcmbaaGreatW.PrintWords Go.Proofs.YtmeaeapopfcmbaaGreatW.PrintLast Go.Proofs.YtmeaeapopfcmbaaGreatW.PrintMore PP
set_option linter.unusedVariables false
set_option linter.unusedSimpArgs false
set_option maxHeartbeats 4000000
set_option maxRecDepth 100000
theorem info97 : (Tryz.prog.info? 97).map (fun i => (i.zero, i.size, i.bytes)) = some (some (.agg #[(.int .i64 0), (.int .i64 0)]), 2, 16) := by kernel_rfl
theorem R_grownX {α : Type} {kd : Kd α} {t : Nat} {w w1 : World} {base : Nat} {ok : Nat → Prop} {v : Value} {xs : List α} (h : Kd.R kd t w base ok v xs) {row : Option Nat} (hg : w.grownBy w1 row) (hok : ∀ k, ok k → some k ≠ row) : Kd.R kd t w1 base ok v xs :=
  Kd.R_step h fun k ho hk => hg.block k hk (hok k ho)
/-- A tag of this stone and name. -/
def isTag (st : Int) (nm : ByteArray) (p : S97 × S99) : Bool := decide (p.2.f0 = st) && decide (p.2.f1 = nm)
def dotsOf (st : Int) (nm : ByteArray) (T : List (S97 × S99)) : List S97 := (T.filter (isTag st nm)).map Prod.fst
theorem dotsOf_snoc (st : Int) (nm : ByteArray) (T : List (S97 × S99)) (p : S97 × S99) : dotsOf st nm (T ++ [p]) = dotsOf st nm T ++ (if isTag st nm p = true then [p.1] else []) := by
  unfold dotsOf
  rw [List.filter_append, List.map_append]
  congr 1
  rw [List.filter_cons]
  split <;> rfl
theorem dotsOf_perm (st : Int) (nm : ByteArray) {T T' : List (S97 × S99)} (h : T.Perm T') : (dotsOf st nm T).Perm (dotsOf st nm T') := (h.filter _).map _
theorem dotsOf_len (st : Int) (nm : ByteArray) (T : List (S97 × S99)) : (dotsOf st nm T).length ≤ T.length := by
  unfold dotsOf
  rw [List.length_map]
  exact List.length_filter_le _ _
theorem tagged_run (w : World) (r k mt mn mw : Nat) (o : Int) (S : S28) (h : Rep w r k mt mn mw o S) (hl : (tagsP S).length ≤ 1000000) (st : Int) (nm : ByteArray) :
    Calls Tryz.prog 66 #[.pointer (some ⟨r, 0, none⟩), .int .i64 st, .string nm] w fun e w' => ∃ v ds, e = .returned v ∧ ds.Perm (dotsOf st nm (tagsP S)) ∧ Kd.R k97 97 w' w.heap.size (fun _ => True) v ds ∧ Below w.heap.size w w' := by
  have q0 := h.blk.k
  have q1 := h.kn.ct
  have HT := Hd.mk h.kn.t
  have LT := Hd.mk h.kn.t.lt
  have HL := Hd.mk hl
  clear h hl
  generalize tagsP S = T at *
  go_enter Tryz.func66, Tryz.ntmps66
  go_wp2_with (at_range; refine wpL_range w CT rfl _ rfl mt T rfl HT.out ?_; intro w1 hr hg hs; have RG := Hd.mk hr; have BW := Hd.mk (show Below w.heap.size w w1 from (Below.refl _ _).grown hg (Nat.le_refl _) (by simp)); clear hr hg hs)
  go_frame
  go_loopg [7] T.length (fun gg v7 wq => ∃ (outs : List (S97 × S99)) (cn : Nat), cn ≤ gg ∧ Hd (Rng CT wq mt w.heap.size T outs cn) ∧ Hd (Below w.heap.size w wq) ∧ Hd (Kd.R k97 97 wq w.heap.size (fun k => k ≠ w.heap.size) v7 (dotsOf st nm outs)))
  case atStart => exact ⟨[], T.length, Nat.le_refl _, RG, BW, ⟨Kd.R_nil _ _ _ _ _⟩⟩
  case round =>
    clear RG BW
    obtain ⟨outs, cn, hg, RG, BQ, RO⟩ := hrel
    go_wp2_with (at_next; refine wpL_next _ CT rfl _ rfl mt w.heap.size T outs cn rfl RG.out ?gd ?gm)
    case gd =>
      intro hd
      have HD := Hd.mk hd
      clear hd
      go_wp2_with fail
      go_ret
      exact ⟨_, _, rfl, dotsOf_perm st nm HD.out, Kd.R_mono RO.out (fun _ _ => trivial), BQ.out⟩
    case gm =>
      intro x y w2 c5 hp hno hr2 hlt hg2 hs2 hen
      obtain ⟨d0, d1⟩ := x
      obtain ⟨t0, t1, e0, e1⟩ := y
      change (Instr.entry _).run _ _ = .ok (.tuple #[.agg #[.int .i64 d0, .int .i64 d1], .agg #[.int .i64 t0, .string t1, .int .i64 e0, .int .i64 e1]]) w2 at hen
      have BZ : Below w.heap.size w w2 := BQ.out.grown hg2 BQ.out.size (by simp)
      have BA := Hd.mk (show Below w.heap.size w ((w2.alloc (.cells #[.int .i64 d0, .int .i64 d1] 97)).alloc (.cells #[.int .i64 t0, .string t1, .int .i64 e0, .int .i64 e1] 99)) from below_alloc (below_alloc BZ _) _)
      have R3 := Hd.mk ((hr2.kept (World.grownBy_alloc w2 (.cells #[.int .i64 d0, .int .i64 d1] 97) none) (by simp) (by simp)).kept (World.grownBy_alloc _ (.cells #[.int .i64 t0, .string t1, .int .i64 e0, .int .i64 e1] 99) none) (by simp) (by simp))
      have O3 := Hd.mk (R_grownX (R_grownX (R_grownX RO.out hg2 (fun k hk e => by injection e with e; exact hk e)) (World.grownBy_alloc w2 (.cells #[.int .i64 d0, .int .i64 d1] 97) none) (by simp)) (World.grownBy_alloc _ (.cells #[.int .i64 t0, .string t1, .int .i64 e0, .int .i64 e1] 99) none) (by simp))
      have LB := Hd.mk (show (dotsOf st nm outs).length ≤ 1000000 from Nat.le_trans (dotsOf_len _ _ _) (Nat.le_trans (sub_len hr2.nodup hr2.sub |> fun h => by simp at h; omega) HL.out))
      have LM := Hd.mk (show w.heap.size < w2.heap.size + 1 by have := BZ.size; omega)
      have SN := Hd.mk (dotsOf_snoc st nm outs (⟨d0, d1⟩, ⟨t0, t1, e0, e1⟩))
      clear hr2 hg2 hs2 hp hno BZ
      by_cases g0 : t0 = st
      · by_cases g1 : t1 = nm
        · have f0 : (t0 == st) = true := by simp [g0]
          have f1 : (t1.toList == nm.toList) = true := by simp [g1]
          have SE := Hd.mk (show dotsOf st nm (outs ++ [((⟨d0, d1⟩ : S97), (⟨t0, t1, e0, e1⟩ : S99))]) = dotsOf st nm outs ++ [⟨d0, d1⟩] by rw [SN.out, if_pos (by unfold isTag; simp [g0, g1])])
          clear g0 g1 SN
          go_wp2_with (((with_reducible refine gate_builtin (b := .append) (xs := #[.tmp 33, .tmp 35]) rfl ?_); at_builtin; refine Kd.R_append k97 (w0 := w) (W := (w2.alloc (.cells #[.int .i64 d0, .int .i64 d1] 97)).alloc (.cells #[.int .i64 t0, .string t1, .int .i64 e0, .int .i64 e1] 99)) w.heap.size rfl (.tmp 33) (.tmp 35) 117 97 (.agg #[(.int .i64 0), (.int .i64 0)]) 16 rfl Tryz.underlying117 info97 rfl (by decide) (by omega) u7 _ (⟨d0, d1⟩ : S97) [.int .i64 d0, .int .i64 d1] (fun k => k ≠ w.heap.size) (fun _ => False) rfl (by simp; rfl) ?aP (fun _ hk => hk.elim) ?aF O3.out BA.out ?aS ?aL ?_; (case aP => exact k97_mkM _ _ _ (⟨d0, d1⟩ : S97)); (case aF => intro k hk; have := LM.out; simp at hk; omega); (case aS => exact BA.out.size); (case aL => have := LB.out; omega); intro v2 w6 ho hb hg2 hat; have HO6 := Hd.mk ho; have HB6 := Hd.mk hb; have R6 := Hd.mk (R3.out.at ((hb.block mt LT.out).trans (BA.out.block mt LT.out).symm) (hg2.block _ R3.out.lt (fun e => (O3.out.1 _ e.symm) rfl))); clear ho hb hg2 hat))
          go_roundg c5
          case measure => omega
          case rel => exact ⟨_, c5, Nat.le_refl _, R6, HB6, by rw [SE.out]; exact HO6⟩
        · have f0 : (t0 == st) = true := by simp [g0]
          have f1 : (t1.toList == nm.toList) = false := by simp [same_iff, g1]
          have SE := Hd.mk (show dotsOf st nm (outs ++ [((⟨d0, d1⟩ : S97), (⟨t0, t1, e0, e1⟩ : S99))]) = dotsOf st nm outs by rw [SN.out, if_neg (by unfold isTag; simp [g0, g1]), List.append_nil])
          clear g1
          clear g0 SN
          go_wp2_with fail
          go_roundg c5
          case measure => omega
          case rel => exact ⟨_, c5, Nat.le_refl _, R3, BA, by rw [SE.out]; exact O3⟩
      · have f0 : (t0 == st) = false := by simp [g0]
        have SE := Hd.mk (show dotsOf st nm (outs ++ [((⟨d0, d1⟩ : S97), (⟨t0, t1, e0, e1⟩ : S99))]) = dotsOf st nm outs by rw [SN.out, if_neg (by unfold isTag; simp [g0]), List.append_nil])
        clear g0 SN
        go_wp2_with fail
        go_roundg c5
        case measure => omega
        case rel => exact ⟨_, c5, Nat.le_refl _, R3, BA, by rw [SE.out]; exact O3⟩
end Go.Proofs.YtmeaeapopfcmbaaGreat

namespace Go.Proofs.YtmeaeapopfcmbaaGreat
open Go.RowKit Go.Proofs.YtmeaeapopfcmbaaGreatW.PrintWords Go.Proofs.YtmeaeapopfcmbaaGreatW.PrintLast Go.Proofs.YtmeaeapopfcmbaaGreatW.PrintMore PP
set_option linter.unusedVariables false
set_option linter.unusedSimpArgs false
set_option maxHeartbeats 4000000
set_option maxRecDepth 100000
instance : Inhabited S97 := ⟨z97⟩
theorem rdD (zs : List S97) (j : Nat) : rd_T97 zs (j : Int) = zs[j]! := by
  unfold rd_T97
  rw [Int.toNat_natCast, List.getElem!_eq_getElem?_getD, List.getD_eq_getElem?_getD]
  rfl
/-- Without these dots. -/
def delAll (T : List (S97 × S99)) (ds : List S97) : List (S97 × S99) := T.filter fun p => decide (p.1 ∉ ds)
theorem delAll_nil (T : List (S97 × S99)) : delAll T [] = T := by unfold delAll; simp
theorem delAll_snoc (T : List (S97 × S99)) (ds : List S97) (d : S97) : mdel (delAll T ds) d = delAll T (ds ++ [d]) := by
  unfold mdel delAll
  rw [List.filter_filter]
  refine List.filter_congr fun p _ => ?_
  simp only [List.mem_append, List.mem_singleton, not_or]
  rw [Bool.eq_iff_iff]
  simp only [Bool.and_eq_true, decide_eq_true_eq]
  exact ⟨fun h => ⟨h.2, h.1⟩, fun h => ⟨h.2, h.1⟩⟩
theorem delAll_dots {T : List (S97 × S99)} (hT : (T.map Prod.fst).Nodup) (st : Int) (nm : ByteArray) {ds : List S97} (h : ds.Perm (dotsOf st nm T)) : delAll T ds = T.filter fun p => !isTag st nm p := by
  unfold delAll
  refine List.filter_congr fun p hp => ?_
  rw [Bool.eq_iff_iff]
  simp only [decide_eq_true_eq, Bool.not_eq_true']
  rw [h.mem_iff]
  unfold dotsOf
  constructor
  · intro h1
    rw [Bool.eq_false_iff]
    exact fun h2 => h1 (List.mem_map.2 ⟨p, List.mem_filter.2 ⟨hp, h2⟩, rfl⟩)
  · intro h1 h2
    obtain ⟨q, hq, e⟩ := List.mem_map.1 h2
    obtain ⟨q1, q2⟩ := List.mem_filter.1 hq
    have a1 := mget_mem hT (show (q.1, q.2) ∈ T from q1)
    have a2 := mget_mem hT (show (p.1, p.2) ∈ T from hp)
    rw [e, a2] at a1
    have : q = p := Prod.ext e (Option.some.inj a1).symm
    rw [this, h1] at q2
    exact absurd q2 (by simp)
theorem delAll_len (T : List (S97 × S99)) (ds : List S97) : (delAll T ds).length ≤ T.length := List.length_filter_le _ _
/-- Fresh lists stay, whatever happens to one old block. -/
theorem R_chg {α : Type} {kd : Kd α} {t : Nat} {w w1 : World} {base m : Nat} {v : Value} {xs : List α} (h : Kd.R kd t w base (fun k => base ≤ k ∧ k < w.heap.size) v xs) (hm : m < base) (hg : ∀ k, k < w.heap.size → k ≠ m → w1.heap[k]? = w.heap[k]?) (hs : w.heap.size ≤ w1.heap.size) : Kd.R kd t w1 base (fun k => base ≤ k ∧ k < w1.heap.size) v xs :=
  Kd.R_mono (Kd.R_step h fun k ho hk => hg k ho.2 (by omega)) (fun k hk => ⟨hk.1, Nat.lt_of_lt_of_le hk.2 hs⟩)
/-- What Drop answers and leaves. -/
def argB (st : Int) (nm : ByteArray) : Bool := inR 0 63 st && nameB nm
def dropN (S : S28) (st : Int) (nm : ByteArray) : Int := if argB st nm = true then ((dotsOf st nm (tagsP S)).length : Int) else 0
def dropT (S : S28) (st : Int) (nm : ByteArray) : List (S97 × S99) := if argB st nm = true then (tagsP S).filter (fun p => !isTag st nm p) else tagsP S
theorem drop_rep (w : World) (r k mt mn mw : Nat) (o : Int) (S : S28) (h : Rep w r k mt mn mw o S) (hS : Rt S) (st : Int) (nm : ByteArray) :
    Calls Tryz.prog 27 #[.pointer (some ⟨r, 0, none⟩), .int .i64 st, .string nm] w fun e w' => e = .returned (.tuple #[.int .i64 (dropN S st nm), .int .i64 (errB (argB st nm))]) ∧ MapIs CT w' mt (dropT S st nm) ∧ Chg w.heap.size (· = mt) w w' := by
  have U := Hd.mk (ofs st 0 63 w)
  have NA := Hd.mk (fun W => name_run nm W)
  have K := Hd.mk (fun W (hb : Below w.heap.size w W) b => checked_yes W r k o (h.blk.below hb) b)
  have TL : (tagsP S).length ≤ 128 := by unfold tagsP; rw [List.length_map]; exact hS.tl
  have TG := Hd.mk (fun W (hb : Below w.heap.size w W) => tagged_run W r k mt mn mw o S (h.below hb) (by omega) st nm)
  have HH := Hd.mk h
  have TLh := Hd.mk TL
  have HSh := Hd.mk hS
  clear h hS TL
  go_enter Tryz.func27, Tryz.ntmps27
  go_wp2_with fail
  refine U.out.mono ?_
  rintro e w1 ⟨rfl, hb1⟩
  have B1 := Hd.mk hb1
  clear hb1
  cases g1 : inR 0 63 st with
  | false =>
    have GA := Hd.mk (show argB st nm = false by unfold argB; rw [g1]; rfl)
    clear g1
    go_wp2_with fail
    refine (K.out _ B1.out _).mono ?_
    rintro e w2 ⟨rfl, rfl⟩
    go_wp2_with fail
    go_ret2
    refine ⟨by unfold dropN; rw [GA.out]; rfl, ?_, .of B1.out⟩
    unfold dropT
    rw [GA.out]
    exact HH.out.kn.t.below B1.out HH.out.kn.t.lt
  | true =>
    have G1 := Hd.mk g1
    clear g1
    go_wp2_with fail
    refine (NA.out _).mono ?_
    rintro e w2 ⟨rfl, hb2⟩
    have B2 := Hd.mk (B1.out.trans (hb2.mono B1.out.size))
    clear hb2
    cases g2 : nameB nm with
    | false =>
      have GA := Hd.mk (show argB st nm = false by unfold argB; rw [g2, G1.out]; rfl)
      clear g2
      go_wp2_with fail
      refine (K.out _ B2.out _).mono ?_
      rintro e w3 ⟨rfl, rfl⟩
      go_wp2_with fail
      go_ret2
      refine ⟨by unfold dropN; rw [GA.out]; rfl, ?_, .of B2.out⟩
      unfold dropT
      rw [GA.out]
      exact HH.out.kn.t.below B2.out HH.out.kn.t.lt
    | true =>
      have GA := Hd.mk (show argB st nm = true by unfold argB; rw [g2, G1.out]; rfl)
      clear g2
      go_wp2_with fail
      refine (K.out _ B2.out _).mono ?_
      rintro e w3 ⟨rfl, rfl⟩
      go_wp2_with fail
      refine (TG.out _ B2.out).mono ?_
      rintro e w4 ⟨v, ds, rfl, hp, hR, hb4⟩
      have HP := Hd.mk hp
      have LD := Hd.mk (show ds.length ≤ 128 by rw [hp.length_eq]; exact Nat.le_trans (dotsOf_len _ _ _) TLh.out)
      obtain ⟨A3, c3, rfl, hl3, _⟩ := Kd.R_reads hR
      have B4 := Hd.mk (B2.out.trans (hb4.mono B2.out.size))
      have R4 := Hd.mk (show Kd.R k97 97 w4 w.heap.size (fun k => w.heap.size ≤ k ∧ k < w4.heap.size) (.slice A3 ds.length c3) ds from Kd.R_mono (Kd.R_lower (Kd.R_bound hR) B2.out.size) (fun k hk => ⟨Nat.le_trans B2.out.size hk.2.1, hk.2.2.1⟩))
      have M4 := Hd.mk (HH.out.kn.t.below B4.out HH.out.kn.t.lt)
      have RM := Hd.mk HH.out.ne
      have KM := Hd.mk HH.out.kn.kt
      have OK : Hd (∀ d ∈ ds, okD d) := ⟨fun d hd => by
        obtain ⟨p, hp1, rfl⟩ := List.mem_map.1 (HP.out.mem_iff.1 hd)
        have := (List.mem_filter.1 hp1).1
        obtain ⟨t, ht, rfl⟩ := List.mem_map.1 this
        exact HSh.out.ok.t t ht⟩
      clear hp hR hb4 TG NA K U
      go_wp2_with fail
      go_loopg [29] ds.length (fun gg v29 wq => ∃ i : Nat, v29 = .int .i64 i ∧ i + gg = ds.length ∧ Hd (MapIs CT wq mt (delAll (tagsP S) (ds.take i))) ∧ Hd (Chg w.heap.size (· = mt) w wq) ∧ Hd (Kd.R k97 97 wq w.heap.size (fun k => w.heap.size ≤ k ∧ k < wq.heap.size) (.slice A3 ds.length c3) ds))
      case atStart => exact ⟨0, rfl, by omega, ⟨by rw [List.take_zero, delAll_nil]; exact M4.out⟩, ⟨.of B4.out⟩, R4⟩
      case round =>
        clear R4 M4 B4
        obtain ⟨i, rfl, hi, MI, CI, RI'⟩ := hrel
        by_cases hlt : i < ds.length
        · have hltz : (i : Int) < (ds.length : Int) := by omega
          obtain ⟨ad, rfl, x0, x1⟩ := at_T97 (Kd.R_reads' RI'.out).2.2 (i : Int) (by omega) hltz
          rw [rdD, Int.toNat_natCast] at x0 x1
          have OD := Hd.mk (ok_bang OK.out i hlt)
          have TK := Hd.mk (show delAll (tagsP S) (ds.take (i + 1)) = mdel (delAll (tagsP S) (ds.take i)) ds[i]! by rw [delAll_snoc, ← take_bang ds i hlt])
          generalize ds[i]! = d at *
          obtain ⟨d0, d1⟩ := d
          simp only at x0 x1
          have C2 := Hd.mk (CI.out.alloc CI.out.size (.cells #[.int .i64 d0, .int .i64 d1] 97))
          have q0 := (show RepBlk (wr.alloc (.cells #[.int .i64 d0, .int .i64 d1] 97)) r o (some ⟨k, 0, none⟩) from (C2.out.block r HH.out.blk.lt RM.out.2.1).trans HH.out.blk).k
          have q1 := cell_of ((C2.out.block k HH.out.kn.lt.1 KM.out.1).trans HH.out.kn.blk) 8 (by obtain ⟨a0, a1, a2, a3, a4, a5, a6, a7, e⟩ := HH.out.kn.s8; rw [e]; rfl : _ = some (Value.map (some mt)))
          have M2 := Hd.mk (MI.out.al (.cells #[.int .i64 d0, .int .i64 d1] 97))
          have R2 := Hd.mk (show Kd.R k97 97 (wr.alloc (.cells #[.int .i64 d0, .int .i64 d1] 97)) w.heap.size (fun k => w.heap.size ≤ k ∧ k < (wr.alloc (.cells #[.int .i64 d0, .int .i64 d1] 97)).heap.size) (.slice (some ad) ds.length c3) ds from R_chg RI'.out HH.out.kn.t.lt (fun k hk _ => Below.heap_alloc _ _ _ hk) (by simp))
          go_wp2_with fail
          refine wp_region_still_tail 8 (by kernel_rfl) (by kernel_rfl) ?_
          change wpStill _ _ (World.drew _) _ _ _
          simp only [List.take_succ_cons, List.take_zero, List.drop_succ_cons, List.drop_zero]
          repeat still_step
          refine wpStill_nil ?_
          change wpList _ _ _ _ _ (World.drew _)
          refine wpL_mdel _ CT rfl _ _ rfl mt _ (⟨d0, d1⟩ : S97) OD.out rfl rfl (M2.out.below (Below.drew (Below.refl _ _)) M2.out.lt) ?_
          intro w5 hm5 ht5
          rw [← TK.out] at hm5
          have M5 := Hd.mk hm5
          have C5 := Hd.mk (show Chg w.heap.size (· = mt) w w5 from (C2.out.trans (.of (Below.drew (Below.refl _ _)))).turned ht5 C2.out.size (fun _ => rfl))
          have R5 := Hd.mk (show Kd.R k97 97 w5 w.heap.size (fun k => w.heap.size ≤ k ∧ k < w5.heap.size) (.slice (some ad) ds.length c3) ds from R_chg R2.out HH.out.kn.t.lt (fun k _ hk => turned_block ht5 hk) (ht5.grown.size))
          clear hm5 ht5 q0 q1 x0 x1
          simp only [Act.put]
          go_wp2_with fail
          go_roundg (ds.length - (i + 1))
          case measure => omega
          case rel =>
            have hld := LD.out
            exact ⟨i + 1, by rw [w64 (by omega) (by omega)]; rfl, by omega, M5, C5, R5⟩
        · have hltz : ¬ (i : Int) < (ds.length : Int) := by omega
          have TE := Hd.mk (show delAll (tagsP S) (ds.take i) = dropT S st nm by
            rw [List.take_of_length_le (show ds.length ≤ i by omega), delAll_dots HSh.out.kv.tn st nm HP.out]
            unfold dropT
            rw [if_pos GA.out])
          have NE := Hd.mk (show ((ds.length : Nat) : Int) = dropN S st nm by unfold dropN; rw [if_pos GA.out, HP.out.length_eq])
          go_wp2_with fail
          go_ret2
          refine ⟨by rw [← NE.out, GA.out]; rfl, ?_, CI.out⟩
          rw [← TE.out]
          exact MI.out
end Go.Proofs.YtmeaeapopfcmbaaGreat
