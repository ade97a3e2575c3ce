/- Outside's and Beyond's rules, edge. No conditions. -/
import Derived.Test.YtnbdfmdjedakcaaHC
import Derived.Test.YtnbdfmdjedakcaaU1
import Derived.Test.YtnbdfmdjedakcaaQ90
import Derived.Test.YtnbdfmdjedakcaaQ80
namespace Go.Proofs.Ytnbdfmdjedakcaa
open Go.RowKit Go.Proofs.YtnbdfmdjedakcaaW.PrintWords Go.Proofs.YtnbdfmdjedakcaaW.PrintLast Go.Proofs.YtnbdfmdjedakcaaW.PrintMore PP
attribute [local go_sem high] eqA36
set_option linter.unusedVariables false
set_option linter.unusedSimpArgs false
/-- What is asked of a rule for one grade. -/
def PredC (g : Nat) (lb : Array Value) (p : S36 → Bool) (w : World) : Prop :=
  ∀ (W : World) (x : S36), Below w.heap.size w W → Calls Try.prog g (#[gv x] ++ lb) W fun e w' => e = .returned (.bool (p x)) ∧ Below W.heap.size W w'
theorem pred82 (w : World) (cb : Nat) (A : Option Addr) (c : Nat) (l : List S36) (hcb : w.heap[cb]? = some (.cells #[.slice A l.length c] 41 (0, 0))) (hC : Kd.C k36 w A l.length l) :
    PredC 82 #[.pointer (some ⟨cb, 0, none⟩)] (fun g => !upS l g) w := fun W o hb => by
  have l1 : cb < w.heap.size := (Array.getElem?_eq_some_iff.1 hcb).1
  have hz := hb.size
  have g1 : W.heap[cb]? = _ := (hb.block cb l1).trans hcb
  have c0 : W.cell? ⟨cb, 0, none⟩ = some (.slice A l.length c) := (blk_cell g1 0).trans rfl
  have n1 : cb ≠ W.heap.size := by omega
  have n3 : cb < W.heap.size := by omega
  have hru := fun W1 (h : Below w.heap.size w W1) => in_any W1 A c l o (Kd.C_below hC h) _ rfl
  have HB := Hd.mk hb
  have HZ := Hd.mk hz
  clear g1 hcb hb hz l1 hC
  show Calls Try.prog 82 #[.agg #[.int .i64 o.f0, .int .i64 o.f1, .int .i64 o.f2], .pointer (some ⟨cb, 0, none⟩)] W fun e w' => e = .returned (.bool (!(l.any fun q => belowG q o))) ∧ Below W.heap.size W w'
  unfold gv at hru
  generalize (l.any fun q => belowG q o) = r at hru ⊢
  have HR := Hd.mk hru
  clear hru
  go_enter Try.func82, Try.ntmps82
  go_wp2_with (go_at_call 83; refine (HR.out _ (HB.out.alloc HZ.out _)).mono ?_; rintro e w' ⟨rfl, hb'⟩)
  go_ret
  exact ⟨rfl, ((Below.refl _ W).alloc (Nat.le_refl _) _).trans (hb'.mono (by simp))⟩
theorem pred86 (w : World) (gb : Nat) (x : S36) (hgb : w.heap[gb]? = some (.cells #[.int .i64 x.f0, .int .i64 x.f1, .int .i64 x.f2] 36 (0, 0))) :
    PredB 86 #[.pointer (some ⟨gb, 0, none⟩)] (fun o => belowG x o) w := fun W o hb => by
  have l1 : gb < w.heap.size := (Array.getElem?_eq_some_iff.1 hgb).1
  have hz := hb.size
  have g1 : W.heap[gb]? = _ := (hb.block gb l1).trans hgb
  have c0 : W.cell? ⟨gb, 0, none⟩ = some (.int .i64 x.f0) := (blk_cell g1 0).trans rfl
  have c1 : W.cell? ⟨gb, 1, none⟩ = some (.int .i64 x.f1) := (blk_cell g1 1).trans rfl
  have c2 : W.cell? ⟨gb, 2, none⟩ = some (.int .i64 x.f2) := (blk_cell g1 2).trans rfl
  have n1 : gb ≠ W.heap.size := by omega
  have n3 : gb < W.heap.size := by omega
  have hru := fun W => rule26 W x o
  have HB := Hd.mk hb
  have HZ := Hd.mk hz
  clear g1 hgb hb hz l1
  show Calls Try.prog 86 #[.agg #[.int .i64 o.f0, .int .i64 o.f1, .int .i64 o.f2], .pointer (some ⟨gb, 0, none⟩)] W fun e w' => e = .returned (.bool (belowG x o)) ∧ Below w.heap.size w w'
  unfold gv at hru
  generalize belowG x o = r at hru ⊢
  go_enter Try.func86, Try.ntmps86
  go_wp2_with (go_at_call 26; refine (hru _).mono ?_; rintro e w' ⟨rfl, hb'⟩)
  go_ret
  exact ⟨rfl, (HB.out.alloc HZ.out _).trans (hb'.mono (by simp; have := HZ.out; omega))⟩
theorem pred84 (w : World) (cb : Nat) (A : Option Addr) (c : Nat) (l : List S36) (hcb : w.heap[cb]? = some (.cells #[.slice A l.length c] 41 (0, 0))) (hC : Kd.C k36 w A l.length l) :
    PredC 84 #[.pointer (some ⟨cb, 0, none⟩)] (fun g => !l.any fun m => belowG g m) w := fun W o hb => by
  have eg : ∀ args w, (callFunc 86 args).run Try.prog w = .ok (.enter 86 args) w := enters_of Try.func86 (by kernel_rfl) rfl
  have l1 : cb < w.heap.size := (Array.getElem?_eq_some_iff.1 hcb).1
  have hz := hb.size
  have g1 : W.heap[cb]? = _ := (hb.block cb l1).trans hcb
  have c0 : W.cell? ⟨cb, 0, none⟩ = some (.slice A l.length c) := (blk_cell g1 0).trans rfl
  have n1 : cb ≠ W.heap.size := by omega
  have n3 : cb < W.heap.size := by omega
  have hru := containsF_any (W.alloc (.cells #[.int .i64 o.f0, .int .i64 o.f1, .int .i64 o.f2] 36)) 86 _ _ eg A c l (Kd.C_below hC (hb.alloc hz _)) (pred86 _ W.heap.size o (blk_new W _)) _ rfl
  clear g1 hcb hb hz l1 hC
  show Calls Try.prog 84 #[.agg #[.int .i64 o.f0, .int .i64 o.f1, .int .i64 o.f2], .pointer (some ⟨cb, 0, none⟩)] W fun e w' => e = .returned (.bool (!(l.any fun m => belowG o m))) ∧ Below W.heap.size W w'
  generalize (l.any fun m => belowG o m) = r at hru ⊢
  have HR := Hd.mk hru
  clear hru
  go_enter Try.func84, Try.ntmps84
  go_wp2_with (go_at_call 85; refine HR.out.mono ?_; rintro e w' ⟨rfl, hb'⟩)
  go_ret
  exact ⟨rfl, ((Below.refl _ W).alloc (Nat.le_refl _) _).trans (hb'.mono (by simp))⟩
set_option maxRecDepth 100000 in
set_option maxHeartbeats 8000000 in
theorem edge_any (w : World) (g : Nat) (lb : Array Value) (p : S36 → Bool) (eg : ∀ args w, (callFunc g args).run Try.prog w = .ok (.enter g args) w) (hp : PredC g lb p w) (s : Int) (h1 : -1 ≤ s) (h2 : s ≤ 1) :
    Calls Try.prog 81 #[.func (.func g) #[] lb, .int .i64 s] w fun e w' => ∃ v, e = .returned v ∧ Kd.R k36 36 w' w.heap.size (fun _ => True) v (edgeL p s) ∧ Below w.heap.size w w' := by
  have hu36 := Try.underlying36
  obtain ⟨k0, hk0⟩ := all_ev
  have hall := fun W => grade_all.calls k0 allL W (hk0 k0 (Nat.le_refl _))
  have HP := Hd.mk hp
  have hv : ∀ x ∈ allL, gok x = true := fun x hx => mem_all.1 hx
  have hE : edgeL p s = allL.filter fun g => p g && !hasNb p s g := rfl
  rw [hE]
  have hn : allL.length = 1728 := allL_len
  have HN0 := Hd.mk hn
  have HV := Hd.mk hv
  clear hE hp hk0 hv
  have hbig : allL.length ≤ 9223372036854775807 := by omega
  clear hn
  generalize allL = L at *
  have HALL := Hd.mk hall
  clear hall
  go_enter Try.func81, Try.ntmps81
  go_wp2_with fail
  go_step3
  go_wp2_with fail
  go_step3
  go_wp2_with (go_at_call 90; refine (HALL.out _).mono ?_; rintro e w1 ⟨v, rfl, hR, hb⟩; have HBW0 := Hd.mk hb; obtain ⟨A, c, rfl, hlc, hC⟩ := Kd.R_reads hR; have HC := Hd.mk hC; clear hR hb hC)
  go_loopg [5, 12] L.length (fun gg v5 v12 wr => ∃ (j : Nat) (xs : List S36), v12 = .int .i64 j ∧ j ≤ L.length ∧ L.length - j ≤ gg ∧ Hd (xs = (L.take j).filter fun g => p g && !hasNb p s g) ∧ Hd (Below w1.heap.size w1 wr) ∧ Hd (Kd.R k36 36 wr w1.heap.size (fun _ => True) v5 xs))
  case atStart => exact ⟨0, [], rfl, by omega, by omega, ⟨rfl⟩, ⟨Below.refl _ _⟩, ⟨Kd.R_nil _ _ _ _ _⟩⟩
  case round =>
    obtain ⟨j, xs, rfl, hj, hg, HXS, BW, HR⟩ := hrel
    by_cases hlt : j < L.length
    · have hltz : (j : Int) < (L.length : Int) := by omega
      obtain ⟨ad, rfl, x0, x1, x2⟩ := at_T36 (Kd.C_below HC.out BW.out) (j : Int) (by omega) hltz
      rw [getB, Int.toNat_natCast] at x0 x1 x2
      obtain ⟨x, hx⟩ : ∃ x, L[j]! = x := ⟨_, rfl⟩
      rw [hx] at x0 x1 x2
      have hok : gok x = true := HV.out x (by rw [← hx, getElem!_pos L j hlt]; exact List.getElem_mem hlt)
      rw [gok_iff] at hok
      obtain ⟨⟨b1, b2⟩, ⟨b3, b4⟩, b5, b6⟩ := hok
      have HX := Hd.mk hx
      clear hx
      have SN := Hd.mk (show ((L.take (j + 1)).filter fun g => p g && !hasNb p s g) = ((L.take j).filter fun g => p g && !hasNb p s g) ++ (if (p x && !hasNb p s x) = true then [x] else []) by
        rw [List.take_succ_eq_append_getElem hlt, List.filter_append, ← HX.out, getElem!_pos L j hlt]
        congr 1
        by_cases h : (p L[j] && !hasNb p s L[j]) = true
        · rw [if_pos h, List.filter_cons, if_pos h]; rfl
        · rw [if_neg h, List.filter_cons, if_neg h]; rfl)
      have HBW := Hd.mk HBW0.out
      go_wp2_with fail
      refine (HP.out _ x (HBW.out.trans ((BW.out.alloc BW.out.size _).mono HBW.out.size))).mono ?_
      rintro e w2 ⟨rfl, hb2⟩
      have BW2 := Hd.mk ((BW.out.alloc BW.out.size (.cells #[.int .i64 x.f0, .int .i64 x.f1, .int .i64 x.f2] 36)).trans (hb2.mono (by have := BW.out.size; simp; omega)))
      have R2 := Hd.mk (Kd.R_below (Kd.R_below HR.out ((Below.refl _ wr).alloc (Nat.le_refl _) (.cells #[.int .i64 x.f0, .int .i64 x.f1, .int .i64 x.f2] 36))) hb2)
      have gb2 := (hb2.block wr.heap.size (by simp)).trans (blk_new wr (.cells #[.int .i64 x.f0, .int .i64 x.f1, .int .i64 x.f2] 36))
      have GB2 := Hd.mk gb2
      have LT2 := Hd.mk (Array.getElem?_eq_some_iff.1 gb2).1
      clear hb2 gb2 x0 x1 x2
      have B2 := Hd.mk BW2.out
      cases hpx : p x with
      | false =>
        have HPX := Hd.mk hpx
        clear hpx
        go_wp2_with fail
        go_roundg (L.length - (j + 1))
        case measure => omega
        case rel => exact ⟨j + 1, xs, by go_num, by omega, by omega, ⟨by rw [HXS.out, SN.out, HPX.out]; simp⟩, BW2, R2⟩
      | true =>
        have HPX := Hd.mk hpx
        clear hpx
        go_wp2_with fail
        obtain ⟨wo, rfl⟩ : ∃ z : World, z = wr := ⟨_, rfl⟩
        go_loopg [20] 3 (fun gg v20 wq => ∃ i : Nat, v20 = .int .i64 i ∧ i ≤ 3 ∧ 3 - i ≤ gg ∧ Hd (∀ q, q < i → ¬ (gok (nb x s q) = true ∧ p (nb x s q) = true)) ∧ Hd (Below w2.heap.size w2 wq))
        case atStart => exact ⟨0, rfl, by omega, by omega, ⟨fun q hq => absurd hq (Nat.not_lt_zero _)⟩, ⟨Below.refl _ _⟩⟩
        case round =>
          obtain ⟨i, rfl, hi, hgi, HN, BQ⟩ := hrel
          obtain ⟨wq, rfl⟩ : ∃ z : World, z = wr := ⟨_, rfl⟩
          have gbq := (BQ.out.block _ LT2.out).trans GB2.out
          have x0 : wq.cell? ⟨wo.heap.size, 0, none⟩ = some (.int .i64 x.f0) := (blk_cell gbq 0).trans rfl
          have x1 : wq.cell? ⟨wo.heap.size, 1, none⟩ = some (.int .i64 x.f1) := (blk_cell gbq 1).trans rfl
          have x2 : wq.cell? ⟨wo.heap.size, 2, none⟩ = some (.int .i64 x.f2) := (blk_cell gbq 2).trans rfl
          clear gbq
          by_cases hi3 : i < 3
          · have hii : i = 0 ∨ i = 1 ∨ i = 2 := by omega
            rcases hii with rfl | rfl | rfl
            · cases hv : gokB (x.f0 + s) (x.f1) (x.f2) with
              | false =>
                have HN2 := Hd.mk (show ∀ q, q < 0 + 1 → ¬ (gok (nb x s q) = true ∧ p (nb x s q) = true) from fun q hq h => by
                  by_cases e : q = 0
                  · subst e; rw [show gok (nb x s 0) = gokB (x.f0 + s) (x.f1) (x.f2) from rfl, hv] at h; exact absurd h.1 (by decide)
                  · exact HN.out q (by omega) h)
                have hcall := fun W => valid_any W (x.f0 + s) (x.f1) (x.f2)
                rw [hv] at hcall
                clear hv
                go_wp2_with (go_at_call 88; refine (hcall _).mono ?_; rintro e w3 ⟨rfl, hb3⟩; have HB3 := Hd.mk hb3; clear hb3)
                go_roundg (3 - (0 + 1))
                case measure => omega
                case rel => exact ⟨0 + 1, by go_num, by omega, by omega, HN2, ⟨(BQ.out.alloc BQ.out.size _).trans (HB3.out.mono (by have := BQ.out.size; simp; omega))⟩⟩
              | true =>
                cases hp : p ⟨x.f0 + s, x.f1, x.f2⟩ with
                | false =>
                  have HN2 := Hd.mk (show ∀ q, q < 0 + 1 → ¬ (gok (nb x s q) = true ∧ p (nb x s q) = true) from fun q hq h => by
                    by_cases e : q = 0
                    · subst e; rw [show p (nb x s 0) = p ⟨x.f0 + s, x.f1, x.f2⟩ from rfl, hp] at h; exact absurd h.2 (by decide)
                    · exact HN.out q (by omega) h)
                  have hcall := fun W => valid_any W (x.f0 + s) (x.f1) (x.f2)
                  rw [hv] at hcall
                  have HPN := Hd.mk hp
                  clear hv hp
                  go_wp2_with fail
                  refine (hcall _).mono ?_
                  rintro e w3 ⟨rfl, hb3⟩
                  have HB3 := Hd.mk hb3
                  have hz3 := hb3.size
                  have gb3 := (hb3.block wq.heap.size (by simp)).trans (blk_new wq (.cells #[.int .i64 (x.f0 + s), .int .i64 (x.f1), .int .i64 (x.f2)] 36))
                  have y0 : w3.cell? ⟨wq.heap.size, 0, none⟩ = some (.int .i64 (x.f0 + s)) := (blk_cell gb3 0).trans rfl
                  have y1 : w3.cell? ⟨wq.heap.size, 1, none⟩ = some (.int .i64 (x.f1)) := (blk_cell gb3 1).trans rfl
                  have y2 : w3.cell? ⟨wq.heap.size, 2, none⟩ = some (.int .i64 (x.f2)) := (blk_cell gb3 2).trans rfl
                  have BQ3 := Hd.mk ((BQ.out.alloc BQ.out.size (.cells #[.int .i64 (x.f0 + s), .int .i64 (x.f1), .int .i64 (x.f2)] 36)).trans (HB3.out.mono (by have := BQ.out.size; simp; omega)))
                  clear hb3 gb3 hz3
                  go_wp2_with fail
                  refine (HP.out _ ⟨x.f0 + s, x.f1, x.f2⟩ (HBW.out.trans (B2.out.trans (BQ3.out.mono B2.out.size) |>.mono HBW.out.size))).mono ?_
                  rintro e w4 ⟨rfl, hb4⟩
                  have HB4 := Hd.mk hb4
                  rw [HPN.out]
                  clear hb4
                  go_wp2_with fail
                  go_roundg (3 - (0 + 1))
                  case measure => omega
                  case rel => exact ⟨0 + 1, by go_num, by omega, by omega, HN2, ⟨BQ3.out.trans (HB4.out.mono BQ3.out.size)⟩⟩
                | true =>
                  have HNB := Hd.mk (show hasNb p s x = true from hasNb_iff.2 ⟨0, by omega, hv, hp⟩)
                  have hcall := fun W => valid_any W (x.f0 + s) (x.f1) (x.f2)
                  rw [hv] at hcall
                  have HPN := Hd.mk hp
                  clear hv hp
                  go_wp2_with fail
                  refine (hcall _).mono ?_
                  rintro e w3 ⟨rfl, hb3⟩
                  have HB3 := Hd.mk hb3
                  have hz3 := hb3.size
                  have gb3 := (hb3.block wq.heap.size (by simp)).trans (blk_new wq (.cells #[.int .i64 (x.f0 + s), .int .i64 (x.f1), .int .i64 (x.f2)] 36))
                  have y0 : w3.cell? ⟨wq.heap.size, 0, none⟩ = some (.int .i64 (x.f0 + s)) := (blk_cell gb3 0).trans rfl
                  have y1 : w3.cell? ⟨wq.heap.size, 1, none⟩ = some (.int .i64 (x.f1)) := (blk_cell gb3 1).trans rfl
                  have y2 : w3.cell? ⟨wq.heap.size, 2, none⟩ = some (.int .i64 (x.f2)) := (blk_cell gb3 2).trans rfl
                  have BQ3 := Hd.mk ((BQ.out.alloc BQ.out.size (.cells #[.int .i64 (x.f0 + s), .int .i64 (x.f1), .int .i64 (x.f2)] 36)).trans (HB3.out.mono (by have := BQ.out.size; simp; omega)))
                  clear hb3 gb3 hz3
                  go_wp2_with fail
                  refine (HP.out _ ⟨x.f0 + s, x.f1, x.f2⟩ (HBW.out.trans (B2.out.trans (BQ3.out.mono B2.out.size) |>.mono HBW.out.size))).mono ?_
                  rintro e w4 ⟨rfl, hb4⟩
                  have BQ4 := Hd.mk (BQ3.out.trans (hb4.mono BQ3.out.size))
                  rw [HPN.out]
                  clear hb4
                  go_wp2_with fail
                  go_roundg (L.length - (j + 1))
                  case measure => omega
                  case rel => exact ⟨j + 1, xs, by go_num, by omega, by omega, ⟨by rw [HXS.out, SN.out, HPX.out, HNB.out]; simp⟩, ⟨BW2.out.trans (BQ4.out.mono BW2.out.size)⟩, ⟨Kd.R_below R2.out BQ4.out⟩⟩
            · cases hv : gokB (x.f0) (x.f1 + s) (x.f2) with
              | false =>
                have HN2 := Hd.mk (show ∀ q, q < 1 + 1 → ¬ (gok (nb x s q) = true ∧ p (nb x s q) = true) from fun q hq h => by
                  by_cases e : q = 1
                  · subst e; rw [show gok (nb x s 1) = gokB (x.f0) (x.f1 + s) (x.f2) from rfl, hv] at h; exact absurd h.1 (by decide)
                  · exact HN.out q (by omega) h)
                have hcall := fun W => valid_any W (x.f0) (x.f1 + s) (x.f2)
                rw [hv] at hcall
                clear hv
                go_wp2_with (go_at_call 88; refine (hcall _).mono ?_; rintro e w3 ⟨rfl, hb3⟩; have HB3 := Hd.mk hb3; clear hb3)
                go_roundg (3 - (1 + 1))
                case measure => omega
                case rel => exact ⟨1 + 1, by go_num, by omega, by omega, HN2, ⟨(BQ.out.alloc BQ.out.size _).trans (HB3.out.mono (by have := BQ.out.size; simp; omega))⟩⟩
              | true =>
                cases hp : p ⟨x.f0, x.f1 + s, x.f2⟩ with
                | false =>
                  have HN2 := Hd.mk (show ∀ q, q < 1 + 1 → ¬ (gok (nb x s q) = true ∧ p (nb x s q) = true) from fun q hq h => by
                    by_cases e : q = 1
                    · subst e; rw [show p (nb x s 1) = p ⟨x.f0, x.f1 + s, x.f2⟩ from rfl, hp] at h; exact absurd h.2 (by decide)
                    · exact HN.out q (by omega) h)
                  have hcall := fun W => valid_any W (x.f0) (x.f1 + s) (x.f2)
                  rw [hv] at hcall
                  have HPN := Hd.mk hp
                  clear hv hp
                  go_wp2_with fail
                  refine (hcall _).mono ?_
                  rintro e w3 ⟨rfl, hb3⟩
                  have HB3 := Hd.mk hb3
                  have hz3 := hb3.size
                  have gb3 := (hb3.block wq.heap.size (by simp)).trans (blk_new wq (.cells #[.int .i64 (x.f0), .int .i64 (x.f1 + s), .int .i64 (x.f2)] 36))
                  have y0 : w3.cell? ⟨wq.heap.size, 0, none⟩ = some (.int .i64 (x.f0)) := (blk_cell gb3 0).trans rfl
                  have y1 : w3.cell? ⟨wq.heap.size, 1, none⟩ = some (.int .i64 (x.f1 + s)) := (blk_cell gb3 1).trans rfl
                  have y2 : w3.cell? ⟨wq.heap.size, 2, none⟩ = some (.int .i64 (x.f2)) := (blk_cell gb3 2).trans rfl
                  have BQ3 := Hd.mk ((BQ.out.alloc BQ.out.size (.cells #[.int .i64 (x.f0), .int .i64 (x.f1 + s), .int .i64 (x.f2)] 36)).trans (HB3.out.mono (by have := BQ.out.size; simp; omega)))
                  clear hb3 gb3 hz3
                  go_wp2_with fail
                  refine (HP.out _ ⟨x.f0, x.f1 + s, x.f2⟩ (HBW.out.trans (B2.out.trans (BQ3.out.mono B2.out.size) |>.mono HBW.out.size))).mono ?_
                  rintro e w4 ⟨rfl, hb4⟩
                  have HB4 := Hd.mk hb4
                  rw [HPN.out]
                  clear hb4
                  go_wp2_with fail
                  go_roundg (3 - (1 + 1))
                  case measure => omega
                  case rel => exact ⟨1 + 1, by go_num, by omega, by omega, HN2, ⟨BQ3.out.trans (HB4.out.mono BQ3.out.size)⟩⟩
                | true =>
                  have HNB := Hd.mk (show hasNb p s x = true from hasNb_iff.2 ⟨1, by omega, hv, hp⟩)
                  have hcall := fun W => valid_any W (x.f0) (x.f1 + s) (x.f2)
                  rw [hv] at hcall
                  have HPN := Hd.mk hp
                  clear hv hp
                  go_wp2_with fail
                  refine (hcall _).mono ?_
                  rintro e w3 ⟨rfl, hb3⟩
                  have HB3 := Hd.mk hb3
                  have hz3 := hb3.size
                  have gb3 := (hb3.block wq.heap.size (by simp)).trans (blk_new wq (.cells #[.int .i64 (x.f0), .int .i64 (x.f1 + s), .int .i64 (x.f2)] 36))
                  have y0 : w3.cell? ⟨wq.heap.size, 0, none⟩ = some (.int .i64 (x.f0)) := (blk_cell gb3 0).trans rfl
                  have y1 : w3.cell? ⟨wq.heap.size, 1, none⟩ = some (.int .i64 (x.f1 + s)) := (blk_cell gb3 1).trans rfl
                  have y2 : w3.cell? ⟨wq.heap.size, 2, none⟩ = some (.int .i64 (x.f2)) := (blk_cell gb3 2).trans rfl
                  have BQ3 := Hd.mk ((BQ.out.alloc BQ.out.size (.cells #[.int .i64 (x.f0), .int .i64 (x.f1 + s), .int .i64 (x.f2)] 36)).trans (HB3.out.mono (by have := BQ.out.size; simp; omega)))
                  clear hb3 gb3 hz3
                  go_wp2_with fail
                  refine (HP.out _ ⟨x.f0, x.f1 + s, x.f2⟩ (HBW.out.trans (B2.out.trans (BQ3.out.mono B2.out.size) |>.mono HBW.out.size))).mono ?_
                  rintro e w4 ⟨rfl, hb4⟩
                  have BQ4 := Hd.mk (BQ3.out.trans (hb4.mono BQ3.out.size))
                  rw [HPN.out]
                  clear hb4
                  go_wp2_with fail
                  go_roundg (L.length - (j + 1))
                  case measure => omega
                  case rel => exact ⟨j + 1, xs, by go_num, by omega, by omega, ⟨by rw [HXS.out, SN.out, HPX.out, HNB.out]; simp⟩, ⟨BW2.out.trans (BQ4.out.mono BW2.out.size)⟩, ⟨Kd.R_below R2.out BQ4.out⟩⟩
            · cases hv : gokB (x.f0) (x.f1) (x.f2 + s) with
              | false =>
                have HN2 := Hd.mk (show ∀ q, q < 2 + 1 → ¬ (gok (nb x s q) = true ∧ p (nb x s q) = true) from fun q hq h => by
                  by_cases e : q = 2
                  · subst e; rw [show gok (nb x s 2) = gokB (x.f0) (x.f1) (x.f2 + s) from rfl, hv] at h; exact absurd h.1 (by decide)
                  · exact HN.out q (by omega) h)
                have hcall := fun W => valid_any W (x.f0) (x.f1) (x.f2 + s)
                rw [hv] at hcall
                clear hv
                go_wp2_with (go_at_call 88; refine (hcall _).mono ?_; rintro e w3 ⟨rfl, hb3⟩; have HB3 := Hd.mk hb3; clear hb3)
                go_roundg (3 - (2 + 1))
                case measure => omega
                case rel => exact ⟨2 + 1, by go_num, by omega, by omega, HN2, ⟨(BQ.out.alloc BQ.out.size _).trans (HB3.out.mono (by have := BQ.out.size; simp; omega))⟩⟩
              | true =>
                cases hp : p ⟨x.f0, x.f1, x.f2 + s⟩ with
                | false =>
                  have HN2 := Hd.mk (show ∀ q, q < 2 + 1 → ¬ (gok (nb x s q) = true ∧ p (nb x s q) = true) from fun q hq h => by
                    by_cases e : q = 2
                    · subst e; rw [show p (nb x s 2) = p ⟨x.f0, x.f1, x.f2 + s⟩ from rfl, hp] at h; exact absurd h.2 (by decide)
                    · exact HN.out q (by omega) h)
                  have hcall := fun W => valid_any W (x.f0) (x.f1) (x.f2 + s)
                  rw [hv] at hcall
                  have HPN := Hd.mk hp
                  clear hv hp
                  go_wp2_with fail
                  refine (hcall _).mono ?_
                  rintro e w3 ⟨rfl, hb3⟩
                  have HB3 := Hd.mk hb3
                  have hz3 := hb3.size
                  have gb3 := (hb3.block wq.heap.size (by simp)).trans (blk_new wq (.cells #[.int .i64 (x.f0), .int .i64 (x.f1), .int .i64 (x.f2 + s)] 36))
                  have y0 : w3.cell? ⟨wq.heap.size, 0, none⟩ = some (.int .i64 (x.f0)) := (blk_cell gb3 0).trans rfl
                  have y1 : w3.cell? ⟨wq.heap.size, 1, none⟩ = some (.int .i64 (x.f1)) := (blk_cell gb3 1).trans rfl
                  have y2 : w3.cell? ⟨wq.heap.size, 2, none⟩ = some (.int .i64 (x.f2 + s)) := (blk_cell gb3 2).trans rfl
                  have BQ3 := Hd.mk ((BQ.out.alloc BQ.out.size (.cells #[.int .i64 (x.f0), .int .i64 (x.f1), .int .i64 (x.f2 + s)] 36)).trans (HB3.out.mono (by have := BQ.out.size; simp; omega)))
                  clear hb3 gb3 hz3
                  go_wp2_with fail
                  refine (HP.out _ ⟨x.f0, x.f1, x.f2 + s⟩ (HBW.out.trans (B2.out.trans (BQ3.out.mono B2.out.size) |>.mono HBW.out.size))).mono ?_
                  rintro e w4 ⟨rfl, hb4⟩
                  have HB4 := Hd.mk hb4
                  rw [HPN.out]
                  clear hb4
                  go_wp2_with fail
                  go_roundg (3 - (2 + 1))
                  case measure => omega
                  case rel => exact ⟨2 + 1, by go_num, by omega, by omega, HN2, ⟨BQ3.out.trans (HB4.out.mono BQ3.out.size)⟩⟩
                | true =>
                  have HNB := Hd.mk (show hasNb p s x = true from hasNb_iff.2 ⟨2, by omega, hv, hp⟩)
                  have hcall := fun W => valid_any W (x.f0) (x.f1) (x.f2 + s)
                  rw [hv] at hcall
                  have HPN := Hd.mk hp
                  clear hv hp
                  go_wp2_with fail
                  refine (hcall _).mono ?_
                  rintro e w3 ⟨rfl, hb3⟩
                  have HB3 := Hd.mk hb3
                  have hz3 := hb3.size
                  have gb3 := (hb3.block wq.heap.size (by simp)).trans (blk_new wq (.cells #[.int .i64 (x.f0), .int .i64 (x.f1), .int .i64 (x.f2 + s)] 36))
                  have y0 : w3.cell? ⟨wq.heap.size, 0, none⟩ = some (.int .i64 (x.f0)) := (blk_cell gb3 0).trans rfl
                  have y1 : w3.cell? ⟨wq.heap.size, 1, none⟩ = some (.int .i64 (x.f1)) := (blk_cell gb3 1).trans rfl
                  have y2 : w3.cell? ⟨wq.heap.size, 2, none⟩ = some (.int .i64 (x.f2 + s)) := (blk_cell gb3 2).trans rfl
                  have BQ3 := Hd.mk ((BQ.out.alloc BQ.out.size (.cells #[.int .i64 (x.f0), .int .i64 (x.f1), .int .i64 (x.f2 + s)] 36)).trans (HB3.out.mono (by have := BQ.out.size; simp; omega)))
                  clear hb3 gb3 hz3
                  go_wp2_with fail
                  refine (HP.out _ ⟨x.f0, x.f1, x.f2 + s⟩ (HBW.out.trans (B2.out.trans (BQ3.out.mono B2.out.size) |>.mono HBW.out.size))).mono ?_
                  rintro e w4 ⟨rfl, hb4⟩
                  have BQ4 := Hd.mk (BQ3.out.trans (hb4.mono BQ3.out.size))
                  rw [HPN.out]
                  clear hb4
                  go_wp2_with fail
                  go_roundg (L.length - (j + 1))
                  case measure => omega
                  case rel => exact ⟨j + 1, xs, by go_num, by omega, by omega, ⟨by rw [HXS.out, SN.out, HPX.out, HNB.out]; simp⟩, ⟨BW2.out.trans (BQ4.out.mono BW2.out.size)⟩, ⟨Kd.R_below R2.out BQ4.out⟩⟩
          · obtain rfl : i = 3 := by omega
            have HNB := Hd.mk (show hasNb p s x = false by
              cases hq : hasNb p s x with
              | false => rfl
              | true => obtain ⟨q, hq3, h⟩ := hasNb_iff.1 hq; exact absurd h (HN.out q hq3))
            have HLN := Hd.mk (show xs.length ≤ 1728 by
              rw [HXS.out, ← HN0.out]
              exact Nat.le_trans (List.length_filter_le _ _) (by simp; omega))
            have RQ := Hd.mk (Kd.R_below R2.out BQ.out)
            have BWQ := Hd.mk (BW2.out.trans (BQ.out.mono BW2.out.size))
            go_wp2_with (((with_reducible refine gate_builtin (b := .append) (xs := #[.tmp 38, .tmp 40]) rfl ?_); at_builtin; refine Kd.R_append k36 (w0 := w1) w1.heap.size rfl (.tmp 38) (.tmp 40) 41 36 (.agg #[(.int .i64 0), (.int .i64 0), (.int .i64 0)]) 24 rfl Try.underlying41 info36 rfl (by decide) (by omega) u5 _ x [.int .i64 x.f0, .int .i64 x.f1, .int .i64 x.f2] (fun _ => True) (fun _ => False) rfl rfl ?aP (fun _ hk => hk.elim) (fun _ _ => trivial) RQ.out BWQ.out ?aS ?aL ?_; (case aP => exact k36_mkM _ _ _ x); (case aS => exact BWQ.out.size); (case aL => have := HLN.out; omega); intro v5 w5 ho hb hg2 hat; have HO5 := Hd.mk ho; have HB5 := Hd.mk hb; clear ho hb hg2 hat))
            go_roundg (L.length - (j + 1))
            case measure => omega
            case rel => exact ⟨j + 1, _, by go_num, by omega, by omega, ⟨by rw [HXS.out, SN.out, HPX.out, HNB.out]; simp⟩, HB5, HO5⟩
    · have hltz : ¬ (j : Int) < (L.length : Int) := by omega
      have HE := Hd.mk (show xs = L.filter fun g => p g && !hasNb p s g by rw [HXS.out, List.take_of_length_le (by omega)])
      go_wp2_with fail
      go_ret
      exact ⟨_, rfl, by rw [← HE.out]; exact Kd.R_lower HR.out HBW0.out.size, HBW0.out.trans (BW.out.mono HBW0.out.size)⟩
end Go.Proofs.Ytnbdfmdjedakcaa
