/- Several texts in one: G5. No conditions. -/
import Derived.Test.YtnbdfmdjedakcaaPrA
import Derived.Test.YtnbdfmdjedakcaaW
namespace Go.Proofs.Ytnbdfmdjedakcaa.Pr
open Go.RowKit Go.Proofs.YtnbdfmdjedakcaaW.PrintLast
set_option linter.unusedVariables false
set_option linter.unusedSimpArgs false

theorem QAt.pop {w : World} {B qb off len cap v : Nat} {q : List Nat} (h : QAt w B (.slice (some ⟨qb, off, none⟩) len cap) qb (v :: q)) :
    len = q.length + 1 ∧ len ≤ cap ∧ w.cell? ⟨qb, off, none⟩ = some (.int .i64 v) ∧ QAt w B (.slice (some ⟨qb, off, none⟩) q.length (cap - 1)) qb q = QAt w B (.slice (some ⟨qb, off, none⟩) q.length (cap - 1)) qb q ∧
    (cap = 1 → QAt w B (.slice (some ⟨qb, off, none⟩) q.length (cap - 1)) qb q) ∧ (cap ≠ 1 → QAt w B (.slice (some ⟨qb, off + 1, none⟩) q.length (cap - 1)) qb q) := by
  obtain ⟨o, c, C, h1, h2, h3, h4, h5, h6⟩ := h
  simp only [Value.slice.injEq, Option.some.injEq, Addr.mk.injEq, true_and, and_true, List.length_cons] at h1
  obtain ⟨rfl, rfl, rfl⟩ := h1
  simp only [List.length_cons] at h3 h6
  refine ⟨rfl, h3, ?_, rfl, fun hc => ?_, fun hc => ?_⟩
  · rw [cell_of w qb off C _ _ h4]
    have := h6 0 (by omega)
    simpa using this
  · exact ⟨off, cap - 1, C, rfl, h2, by omega, h4, by omega, fun j hj => absurd hj (by omega)⟩
  · refine ⟨off + 1, cap - 1, C, rfl, h2, by omega, h4, by omega, fun j hj => ?_⟩
    have := h6 (j + 1) (by omega)
    rw [show off + 1 + j = off + (j + 1) by omega, this]
    simp

/-- search's inner loop: a stone's neighbours. -/
def scanS (n : Nat) (M : Nat → Nat) (nx : Nat → Nat → Bool) (k root v : Nat) : Nat → Nat → FS → Option (FS × Option Nat)
  | 0, _, S => some (S, none)
  | d + 1, i, S =>
    if nx v i = false then scanS n M nx k root v d (i + 1) S
    else if S.ba v = S.ba i then scanS n M nx k root v d (i + 1) S
    else if M v = i then scanS n M nx k root v d (i + 1) S
    else if i = root then (shrinkS n M k S v i).bind fun S' => scanS n M nx k root v d (i + 1) S'
    else if M i ≠ n ∧ 0 ≤ S.pa (M i) then (shrinkS n M k S v i).bind fun S' => scanS n M nx k root v d (i + 1) S'
    else if S.pa i < 0 then
      if M i = n then some ({ S with pa := upd S.pa i v }, some i)
      else if S.q.length < 100000 then scanS n M nx k root v d (i + 1) { S with pa := upd S.pa i v, us := upd S.us (M i) true, q := S.q ++ [M i] }
      else none
    else scanS n M nx k root v d (i + 1) S
/-- Behind a stone's neighbours. -/
def nextS (rest : FS → Option (FS × Int)) (T : FS) : Option Nat → Option (FS × Int)
  | some t => some (T, (t : Int))
  | none => rest T
/-- search's outer loop. -/
def searchL (n : Nat) (M : Nat → Nat) (nx : Nat → Nat → Bool) (k root : Nat) : Nat → FS → Option (FS × Int)
  | 0, _ => none
  | f + 1, S =>
    match S.q with
    | [] => some (S, -1)
    | v :: q =>
      if v < n then
        (scanS n M nx k root v n 0 { S with q := q }).bind fun r => nextS (searchL n M nx k root f) r.1 r.2
      else none
def initS (root : Nat) : FS := { pa := fun _ => -1, ba := fun i => i, us := upd (fun _ => false) root true, q := [root] }
def searchS (n : Nat) (M : Nat → Nat) (nx : Nat → Nat → Bool) (k root : Nat) : Option (FS × Int) := if root < n then searchL n M nx k root k (initS root) else none

set_option maxRecDepth 100000 in
set_option maxHeartbeats 4000000 in
theorem search_any (w : World) (B bf gb mb n mcap root k : Nat) (nx : Nat → Nat → Bool) (M : Nat → Nat) (pa0 : Nat → Int) (ba0 : Nat → Nat) (us0 : Nat → Bool) (S' : FS) (r : Int)
   (hBf : B ≤ bf) (hMB : mb < B) (hGB : gb < B) (h : Fo w bf gb mb n mcap nx M pa0 ba0 us0 (.slice none 0 0)) (hr : searchS n M nx k root = some (S', r)) :
    Calls Try.prog 155 #[.pointer (some ⟨bf, 0, none⟩), .int .i64 root] w fun e w' => e = .returned (.int .i64 r) ∧ (FQ w' B bf gb mb n mcap nx M S' ∧ Below B w w') := by
  unfold searchS at hr
  split at hr
  case isFalse => exact absurd hr (by simp)
  rename_i hroot
  have HR := Hd.mk hr
  have HF := Hd.mk h
  have hgn := h.g.num
  have hfg := h.f.graph
  have hn := h.g.le
  clear hr h
  go_enter Try.func155, Try.ntmps155
  go_wp2_with fail
  go_loopg [15] n (fun kq v15 wr => ∃ (i : Nat) (p : Nat → Int) (b : Nat → Nat) (u : Nat → Bool), v15 = .int .i64 i ∧ Hd (i + kq = n) ∧ Hd (∀ j, j < i → p j = -1 ∧ b j = j ∧ u j = false) ∧ Hd (Fo wr bf gb mb n mcap nx M p b u (.slice none 0 0)) ∧ Hd (Below B w wr))
  case atStart => exact ⟨0, pa0, ba0, us0, rfl, ⟨by omega⟩, ⟨fun j hj => absurd hj (by omega)⟩, HF, ⟨Below.refl _ _⟩⟩
  case round =>
    obtain ⟨i, p, b, u, rfl, HK, HX, HF, HB⟩ := hrel
    clear hgn hfg
    cases gk with
    | zero =>
      have hi := HK.out
      have hlt : ¬ (i : Int) < n := by omega
      have hF2 : Fo wr bf gb mb n mcap nx M (fun _ => -1) (fun j => j) (fun _ => false) (.slice none 0 0) :=
        ⟨HF.out.f.congr (fun j hj => (HX.out j (by omega)).1) (fun j hj => (HX.out j (by omega)).2.1) (fun j hj => (HX.out j (by omega)).2.2), HF.out.g, HF.out.m, HF.out.mle⟩
      have cu := hF2.f.getUs root hroot
      have fu := hF2.f.frozen (50 + root)
      have hF3 := hF2.store (hF2.f.setUs root hroot true)
      have cq := hF3.f.queue
      have fq := hF3.f.frozen 74
      have HF3 := Hd.mk hF3
      have cqa := cell_alloc_ cq hF3.f.lt
      have fqa := frozen_alloc_ fq hF3.f.lt
      have hlt2 := hF3.f.lt
      have HB3 := Hd.mk (bel_set HB.out hBf (50 + root) (.bool true))
      clear hi hF2 hF3 cq fq
      go_upto_region 8 with (fail)
      have hF4 : Fo ((wr.setCell ⟨bf, 50 + root, none⟩ (.bool true)).alloc (.cells #[.int .i64 root] 3)) bf gb mb n mcap nx M (initS root).pa (initS root).ba (initS root).us (.slice none 0 0) :=
        HF3.out.of_heap (fun k hk => alloc_old _ _ k hk)
      have HF5 := Hd.mk (hF4.store (hF4.f.setQ (.slice (some ⟨wr.heap.size, 0, none⟩) 1 1)))
      have hqf : wr.heap.size ≠ bf := by
        have := HF.out.f.lt
        omega
      have hQ : QAt ((wr.setCell ⟨bf, 50 + root, none⟩ (.bool true)).alloc (.cells #[.int .i64 root] 3)) B (.slice (some ⟨wr.heap.size, 0, none⟩) 1 1) wr.heap.size (initS root).q := by
        refine ⟨0, 1, #[.int .i64 root], rfl, by have := HF.out.f.lt; omega, by simp [initS], ?_, by simp, ?_⟩
        · have := alloc_new (wr.setCell ⟨bf, 50 + root, none⟩ (.bool true)) (.cells #[.int .i64 root] 3)
          rw [size_set] at this
          exact this
        · intro j hj
          simp only [initS, List.length_cons, List.length_nil] at hj
          obtain rfl : j = 0 := by omega
          rfl
      have HQ5 := Hd.mk (hQ.of_heap (w' := ((wr.setCell ⟨bf, 50 + root, none⟩ (.bool true)).alloc (.cells #[.int .i64 root] 3)).setCell ⟨bf, 74, none⟩ (.slice (some ⟨wr.heap.size, 0, none⟩) 1 1)) (heap_set_ne _ _ _ _ _ hqf))
      have HB5 := Hd.mk (bel_set (HB3.out.alloc (by have := HF3.out.f.lt; omega) (.cells #[.int .i64 root] 3)) hBf 74 (.slice (some ⟨wr.heap.size, 0, none⟩) 1 1))
      clear hF4 hQ hqf HF3 HB3 cu fu cqa fqa hlt hlt2 HF HX HB HK
      go_loopg [6] k (fun kq v6 wq => ∃ (T : FS) (qv : Value) (qb : Nat), Hd (searchL n M nx k root kq T = some (S', r)) ∧ Hd (Fo wq bf gb mb n mcap nx M T.pa T.ba T.us qv) ∧ Hd (QAt wq B qv qb T.q) ∧ Hd (Below B w wq))
      case atStart => exact ⟨initS root, _, _, HR, HF5, HQ5, HB5⟩
      case round =>
        obtain ⟨T, qv, qb, HX, HF, HQ, HB⟩ := hrel
        clear HR HF5 HQ5 HB5
        cases gk with
        | zero => exact absurd HX.out (by simp [searchL])
        | succ k1 =>
          have hx := HX.out
          clear HX
          simp only [searchL] at hx
          have cq := HF.out.f.queue
          obtain ⟨off, len, cap, rfl⟩ := HQ.out.shape
          cases hqq : T.q with
          | nil =>
            rw [hqq] at hx
            simp only [Option.some.injEq, Prod.mk.injEq] at hx
            obtain ⟨rfl, rfl⟩ := hx
            have hl0 : len = 0 := by
              obtain ⟨_, _, _, h1, _⟩ := HQ.out
              simp only [Value.slice.injEq] at h1
              rw [h1.2.1, hqq]
              rfl
            subst hl0
            clear hqq
            go_wp2_with fail
            go_ret
            exact ⟨rfl, ⟨hBf, hMB, hGB, _, _, HF.out, HQ.out⟩, HB.out⟩
          | cons v q =>
            rw [hqq] at hx
            simp only at hx
            split at hx
            case isFalse => exact absurd hx (by simp)
            rename_i hvn
            obtain ⟨⟨T1, res⟩, hsc, hrest⟩ := Option.bind_eq_some_iff.1 hx
            have HSC := Hd.mk hsc
            have HRS := Hd.mk hrest
            have hQ := HQ.out
            rw [hqq] at hQ
            obtain ⟨hlen, hlc, cv, _, hp1, hp2⟩ := hQ.pop
            subst hlen
            obtain ⟨off2, hAD, hq2⟩ : ∃ off2, (if cap = 1 then some (⟨qb, off, none⟩ : Addr) else some ⟨qb, off + 1, none⟩) = some ⟨qb, off2, none⟩ ∧ QAt wr B (.slice (some ⟨qb, off2, none⟩) q.length (cap - 1)) qb q := by
              by_cases hc1 : cap = 1
              · exact ⟨off, by rw [if_pos hc1], hp1 hc1⟩
              · exact ⟨off + 1, by rw [if_neg hc1], hp2 hc1⟩
            have HQ2 := Hd.mk hq2
            have fq := HF.out.f.frozen 74
            have hgn := HF.out.g.num
            have hfg := HF.out.f.graph
            clear hx hsc hrest hQ hp1 hp2 hqq hq2
            go_upto_region 12 with (fail)
            have hqf : qb ≠ bf := by
              obtain ⟨_, C, hC, _⟩ := HF.out.f
              exact HQ.out.ne hC (by decide)
            have HF3 := Hd.mk (HF.out.store (HF.out.f.setQ (.slice (some ⟨qb, off2, none⟩) q.length (cap - 1))))
            have HQ3 := Hd.mk (HQ2.out.of_heap (w' := wr.setCell ⟨bf, 74, none⟩ (.slice (some ⟨qb, off2, none⟩) q.length (cap - 1))) (heap_set_ne _ _ _ _ _ hqf))
            have HB3 := Hd.mk (bel_set HB.out hBf 74 (.slice (some ⟨qb, off2, none⟩) q.length (cap - 1)))
            clear HF HQ HQ2 HB hqf cq cv hAD fq hgn hfg hlc
            go_loopg [72] n (fun kq v72 wq => ∃ (i : Nat) (U : FS) (qv : Value) (qb : Nat), v72 = .int .i64 i ∧ Hd (i + kq = n) ∧ Hd (scanS n M nx k root v kq i U = some (T1, res)) ∧ Hd (Fo wq bf gb mb n mcap nx M U.pa U.ba U.us qv) ∧ Hd (QAt wq B qv qb U.q) ∧ Hd (Below B w wq))
            case atStart => exact ⟨0, { T with q := q }, _, _, rfl, ⟨by omega⟩, HSC, HF3, HQ3, HB3⟩
            case round =>
              obtain ⟨i, U, qv, qb, rfl, HK, HX, HF, HQ, HB⟩ := hrel
              clear HSC HF3 HQ3 HB3
              cases gk with
              | zero =>
                have hi := HK.out
                have hlt : ¬ (i : Int) < n := by omega
                have hx := HX.out
                simp only [scanS, Option.some.injEq, Prod.mk.injEq] at hx
                obtain ⟨rfl, rfl⟩ := hx
                have HRS2 := Hd.mk (show searchL n M nx k root k1 U = some (S', r) from HRS.out)
                clear hi HRS
                go_wp2_with fail
                go_roundg k1
                case measure => omega
                case rel => exact ⟨U, qv, qb, HRS2, HF, HQ, HB⟩
              | succ k2 =>
                have hi := HK.out
                have hlt : (i : Int) < n := by omega
                have hlt' : i < n := by omega
                have hx := HX.out
                clear HX hi
                have hgn := HF.out.g.num
                have hfg := HF.out.f.graph
                have hfm := HF.out.f.mates
                have cn := HF.out.g.getNx v i hvn hlt'
                have cbv := HF.out.f.getBa v hvn
                have cbi := HF.out.f.getBa i hlt'
                have cm := HF.out.m.cell v hvn
                have i1 : (v : Int) < 24 := by omega
                have i2 : (i : Int) < 24 := by omega
                have i3 : (v : Int) < n := by omega
                have j1 : (0 : Int) ≤ v := by omega
                have j2 : (0 : Int) ≤ i := by omega
                simp only [scanS] at hx
                by_cases t1 : nx v i = false
                · rw [if_pos t1] at hx
                  rw [t1] at cn
                  have HX := Hd.mk hx
                  clear hx t1
                  go_wp2_with fail
                  go_quiet (fail)
                  go_wp2_with fail
                  go_roundg k2
                  case measure => omega
                  case rel => exact ⟨i + 1, U, qv, qb, by go_num, ⟨by have := HK.out; omega⟩, HX, ⟨HF.out.of_heap (fun k hk => rfl)⟩, ⟨HQ.out.of_heap rfl⟩, ⟨bel_drewN HB.out _⟩⟩
                · rw [if_neg t1] at hx
                  have t1' : nx v i = true := by simpa using t1
                  rw [t1'] at cn
                  clear t1 t1'
                  by_cases t2 : U.ba v = U.ba i
                  · rw [if_pos t2] at hx
                    have b2 : ((U.ba v : Int) == (U.ba i : Int)) = true := by simp [t2]
                    have HX := Hd.mk hx
                    clear hx t2
                    go_wp2_with fail
                    go_quiet (fail)
                    go_wp2_with fail
                    go_roundg k2
                    case measure => omega
                    case rel => exact ⟨i + 1, U, qv, qb, by go_num, ⟨by have := HK.out; omega⟩, HX, ⟨HF.out.of_heap (fun k hk => rfl)⟩, ⟨HQ.out.of_heap rfl⟩, ⟨bel_drewN HB.out _⟩⟩
                  · rw [if_neg t2] at hx
                    have b2 : ((U.ba v : Int) == (U.ba i : Int)) = false := by simp; omega
                    clear t2
                    by_cases t3 : M v = i
                    · rw [if_pos t3] at hx
                      have b3 : ((M v : Int) == (i : Int)) = true := by simp [t3]
                      have HX := Hd.mk hx
                      clear hx t3
                      go_wp2_with fail
                      go_quiet (fail)
                      go_wp2_with fail
                      go_roundg k2
                      case measure => omega
                      case rel => exact ⟨i + 1, U, qv, qb, by go_num, ⟨by have := HK.out; omega⟩, HX, ⟨HF.out.of_heap (fun k hk => rfl)⟩, ⟨HQ.out.of_heap rfl⟩, ⟨bel_drewN HB.out _⟩⟩
                    · rw [if_neg t3] at hx
                      have b3 : ((M v : Int) == (i : Int)) = false := by simp; omega
                      clear t3
                      have hmi := HF.out.mle i hlt'
                      by_cases t4 : i = root
                      · rw [if_pos t4] at hx
                        obtain ⟨S2, hsh, hrs⟩ := Option.bind_eq_some_iff.1 hx
                        have HSH := Hd.mk hsh
                        have HX := Hd.mk hrs
                        have b4 : ((i : Int) == (root : Int)) = true := by simp [t4]
                        clear hx hsh hrs t4
                        go_wp2_with fail
                        go_quiet (fail)
                        go_wp2_with fail
                        go_quiet (fail)
                        go_wp2_with fail
                        refine (shrink_any _ B bf gb mb n mcap v i k nx M U S2 ⟨hBf, hMB, hGB, _, _, (by exact HF.out.of_heap (fun k hk => rfl)), (by exact HQ.out.of_heap rfl)⟩ HSH.out).mono ?_
                        rintro e w5 ⟨rfl, ⟨_, _, _, qv2, qb2, g1, g2⟩, g3⟩
                        have HF5 := Hd.mk g1
                        have HQ5 := Hd.mk g2
                        have HB5 := Hd.mk ((bel_drewN HB.out _).trans g3)
                        clear g1 g2 g3
                        go_wp2_with fail
                        go_roundg k2
                        case measure => omega
                        case rel => exact ⟨i + 1, S2, qv2, qb2, by go_num, ⟨by have := HK.out; omega⟩, HX, HF5, HQ5, HB5⟩
                      · rw [if_neg t4] at hx
                        have b4 : ((i : Int) == (root : Int)) = false := by simp; omega
                        clear t4
                        by_cases t5 : M i = n
                        · rw [if_neg (by intro h; exact h.1 t5)] at hx
                          have HMi := Hd.mk (show mateS n M i = -1 by rw [mateS, if_pos t5])
                          have HT5 := Hd.mk t5
                          clear t5
                          have cpi := HF.out.f.getPa i hlt'
                          have fpi := HF.out.f.frozen (2 + i)
                          by_cases t6 : U.pa i < 0
                          · rw [if_pos t6, if_pos HT5.out] at hx
                            simp only [Option.some.injEq, Prod.mk.injEq] at hx
                            obtain ⟨hx1, hx2⟩ := hx
                            have HX1 := Hd.mk hx1
                            have HX2 := Hd.mk hx2
                            clear hx1 hx2
                            go_wp2_with fail
                            go_quiet (fail)
                            go_wp2_with fail
                            go_quiet ((go_at_call 156; go_must (exact mate_quiet2 _ bf gb mb n mcap i nx M U.pa U.ba U.us qv HF.out hlt' _ HMi.out _ _)))
                            go_wp2_with fail
                            refine (mate_fr _ bf gb mb n mcap i nx M (upd U.pa i v) U.ba U.us qv (by exact (HF.out.of_heap (w' := wr.drewN _) (fun k hk => rfl)).store (FBlk.setPa (HF.out.f.of_heap rfl) i hlt' v)) hlt' _ HMi.out).mono ?_
                            rintro e w5 ⟨rfl, hh1, hb1⟩
                            have HF5 := Hd.mk (((HF.out.of_heap (w' := wr.drewN _) (fun k hk => rfl)).store (FBlk.setPa (HF.out.f.of_heap rfl) i hlt' v)).of_heap (w' := w5) (fun k hk => by rw [hh1]))
                            have hqf : qb ≠ bf := by
                              obtain ⟨_, C, hC, _⟩ := HF.out.f
                              exact HQ.out.ne hC (by decide)
                            have HQ5 := Hd.mk (HQ.out.of_heap (w' := w5) (by rw [hh1]; exact heap_set_ne _ _ _ _ _ hqf))
                            have HB5 := Hd.mk ((bel_set (bel_drewN HB.out _) hBf (2 + i) (.int .i64 v)).trans (hb1.mono (by have := HF5.out.f.lt; rw [hh1] at this; omega)))
                            clear hh1 hb1 hqf
                            go_wp2_with fail
                            have HRS2 := HRS.out
                            rw [← HX2.out] at HRS2
                            obtain ⟨hr1, hr2⟩ := Prod.mk.inj (Option.some.inj (show some (T1, (i : Int)) = some (S', r) from HRS2))
                            subst hr2
                            go_ret
                            exact ⟨rfl, ⟨hBf, hMB, hGB, qv, qb, by rw [← hr1, ← HX1.out]; exact HF5.out, by rw [← hr1, ← HX1.out]; exact HQ5.out⟩, HB5.out⟩
                          · rw [if_neg t6] at hx
                            have HX := Hd.mk hx
                            clear hx
                            go_wp2_with fail
                            go_quiet (fail)
                            go_wp2_with fail
                            go_quiet ((go_at_call 156; go_must (exact mate_quiet2 _ bf gb mb n mcap i nx M U.pa U.ba U.us qv HF.out hlt' _ HMi.out _ _)))
                            go_wp2_with fail
                            go_roundg k2
                            case measure => omega
                            case rel => exact ⟨i + 1, U, qv, qb, by go_num, ⟨by have := HK.out; omega⟩, HX, ⟨HF.out.of_heap (fun k hk => rfl)⟩, ⟨HQ.out.of_heap rfl⟩, ⟨bel_drewN HB.out _⟩⟩
                        · have HMi := Hd.mk (show mateS n M i = (M i : Int) by rw [mateS, if_neg t5])
                          have hml : M i < n := by omega
                          have i4 : (M i : Int) < 24 := by omega
                          have j4 : (0 : Int) ≤ M i := by omega
                          have cpm := HF.out.f.getPa (M i) hml
                          have fum := HF.out.f.frozen (50 + M i)
                          by_cases t7 : 0 ≤ U.pa (M i)
                          · rw [if_pos ⟨t5, t7⟩] at hx
                            obtain ⟨S2, hsh, hrs⟩ := Option.bind_eq_some_iff.1 hx
                            have HSH := Hd.mk hsh
                            have HX := Hd.mk hrs
                            clear hx hsh hrs t5
                            go_wp2_with fail
                            go_quiet (fail)
                            go_wp2_with fail
                            go_quiet ((go_at_call 156; go_must (exact mate_quiet2 _ bf gb mb n mcap i nx M U.pa U.ba U.us qv HF.out hlt' _ HMi.out _ _)))
                            go_wp2_with fail
                            refine (shrink_any _ B bf gb mb n mcap v i k nx M U S2 ⟨hBf, hMB, hGB, _, _, (by exact HF.out.of_heap (fun k hk => rfl)), (by exact HQ.out.of_heap rfl)⟩ HSH.out).mono ?_
                            rintro e w5 ⟨rfl, ⟨_, _, _, qv2, qb2, g1, g2⟩, g3⟩
                            have HF5 := Hd.mk g1
                            have HQ5 := Hd.mk g2
                            have HB5 := Hd.mk ((bel_drewN HB.out _).trans g3)
                            clear g1 g2 g3
                            go_wp2_with fail
                            go_roundg k2
                            case measure => omega
                            case rel => exact ⟨i + 1, S2, qv2, qb2, by go_num, ⟨by have := HK.out; omega⟩, HX, HF5, HQ5, HB5⟩
                          · rw [if_neg (by intro h; exact t7 h.2)] at hx
                            have HT5 := Hd.mk t5
                            clear t5
                            have cpi := HF.out.f.getPa i hlt'
                            have fpi := HF.out.f.frozen (2 + i)
                            by_cases t6 : U.pa i < 0
                            · rw [if_pos t6, if_neg HT5.out] at hx
                              split at hx
                              case isFalse => exact absurd hx (by simp)
                              rename_i hql
                              have HQL := Hd.mk hql
                              have HX := Hd.mk hx
                              clear hx hql
                              go_wp2_with fail
                              go_quiet (fail)
                              go_wp2_with fail
                              go_quiet ((go_at_call 156; go_must (exact mate_quiet2 _ bf gb mb n mcap i nx M U.pa U.ba U.us qv HF.out hlt' _ HMi.out _ _)))
                              go_wp2_with fail
                              refine (mate_fr _ bf gb mb n mcap i nx M (upd U.pa i v) U.ba U.us qv (by exact (HF.out.of_heap (w' := wr.drewN _) (fun k hk => rfl)).store (FBlk.setPa (HF.out.f.of_heap rfl) i hlt' v)) hlt' _ HMi.out).mono ?_
                              rintro e w5 ⟨rfl, hh1, hb1⟩
                              have HF5 := Hd.mk (((HF.out.of_heap (w' := wr.drewN _) (fun k hk => rfl)).store (FBlk.setPa (HF.out.f.of_heap rfl) i hlt' v)).of_heap (w' := w5) (fun k hk => by rw [hh1]))
                              have hqf : qb ≠ bf := by
                                obtain ⟨_, C, hC, _⟩ := HF.out.f
                                exact HQ.out.ne hC (by decide)
                              have HQ5 := Hd.mk (HQ.out.of_heap (w' := w5) (by rw [hh1]; exact heap_set_ne _ _ _ _ _ hqf))
                              have HB5 := Hd.mk ((bel_set (bel_drewN HB.out _) hBf (2 + i) (.int .i64 v)).trans (hb1.mono (by have := HF5.out.f.lt; rw [hh1] at this; omega)))
                              have cum := HF5.out.f.getUs (M i) hml
                              have fum5 := HF5.out.f.frozen (50 + M i)
                              have HQF := Hd.mk hqf
                              clear hqf hh1 hb1 cpi fpi cpm fum cn cbv cbi cm b2 b3 b4
                              go_wp2_with fail
                              go_region_held3 (fun _ => True) (trivial) (first | (go_at_call 156; refine (mate_any _ bf gb mb n mcap i nx M (upd U.pa i v) U.ba U.us qv (by exact HF5.out.of_heap (fun k hk => rfl)) hlt' _ HMi.out).mono ?_; rintro e w6 ⟨rfl, m1, rfl⟩))
                              refine gen_world (fun wq => Fo wq bf gb mb n mcap nx M (upd U.pa i v) U.ba (upd U.us (M i) true) qv ∧ QAt wq B qv qb U.q ∧ Below B w wq) ?_ ?_
                              · exact ⟨(HF5.out.of_heap (w' := w5.drewN _) (fun k hk => rfl)).store (FBlk.setUs (HF5.out.f.of_heap rfl) (M i) hml true), HQ5.out.of_heap (heap_set_ne _ _ _ _ _ HQF.out), bel_set (bel_drewN HB5.out _) hBf _ _⟩
                              intro wq ⟨g1, g2, g3⟩
                              have HF6 := Hd.mk g1
                              have HQ6 := Hd.mk g2
                              have HB6 := Hd.mk g3
                              have cq6 := g1.f.queue
                              have fq6 := g1.f.frozen 74
                              obtain ⟨off, len, cap, rfl⟩ := g2.shape
                              clear g1 g2 g3 HF5 HQ5 HB5 cum fum5 HF HQ HB
                              go_wp2_with fail
                              have HSZ := Hd.mk (show B ≤ wq.heap.size by have := HF6.out.f.lt; omega)
                              refine start_ (n := 13) (S := fun w' => w'.cell? ⟨bf, 74, none⟩ = some (.slice (some ⟨qb, off, none⟩) len cap)) (ds := [12]) #[false, false, false, false, false, false, false, false, false, false, false, false, false] (by kernel_rfl) rfl rfl (by exact cq6) (fun hHeld => ?_)
                              have HF7 := Hd.mk (HF6.out.of_heap (w' := wq.drew) (fun k hk => rfl))
                              have HQ7 := Hd.mk (HQ6.out.of_heap (w' := wq.drew) rfl)
                              have HB7 := Hd.mk (show Below B w wq.drew from HB6.out.drew)
                              have HSZ7 := Hd.mk (show B ≤ wq.drew.heap.size from HSZ.out)
                              generalize wq.drew = w21 at HF7 HQ7 HB7 HSZ7 hHeld ⊢
                              clear HF6 HQ6 HB6 HSZ cq6 fq6
                              refine pure_ (i := 0) (N := some 165) (v := ?_) (a' := ?_) #[true, false, false, false, false, false, false, false, false, false, false, false, false] rfl rfl (by kernel_rfl) (fun _ _ _ h => h) (Or.inl ⟨by rfl, ?_⟩) ?_ ?_
                              rotate_left
                              · intro w'
                                go_simp
                                with_reducible rfl
                              rotate_left
                              · simp only [Act.put, List.setIfInBounds_toArray, List.set_cons_zero, List.set_cons_succ]
                                rfl
                              refine pure_ (i := 1) (N := some 166) (v := ?_) (a' := ?_) #[true, true, false, false, false, false, false, false, false, false, false, false, false] rfl rfl (by kernel_rfl) (fun _ _ _ h => h) (Or.inl ⟨by rfl, ?_⟩) ?_ ?_
                              rotate_left
                              · intro w'
                                go_simp
                                with_reducible rfl
                              rotate_left
                              · simp only [Act.put, List.setIfInBounds_toArray, List.set_cons_zero, List.set_cons_succ]
                                rfl
                              refine pure_ (i := 2) (N := some 167) (v := ?_) (a' := ?_) #[true, true, true, false, false, false, false, false, false, false, false, false, false] rfl rfl (by kernel_rfl) (fun _ _ _ h => h) (Or.inl ⟨by rfl, ?_⟩) ?_ ?_
                              rotate_left
                              · intro w'
                                go_simp
                                with_reducible rfl
                              rotate_left
                              · simp only [Act.put, List.setIfInBounds_toArray, List.set_cons_zero, List.set_cons_succ]
                                rfl
                              refine pure_ (i := 3) (N := some 168) (v := ?_) (a' := ?_) #[true, true, true, true, false, false, false, false, false, false, false, false, false] rfl rfl (by kernel_rfl) (fun _ _ _ h => h) (Or.inl ⟨by rfl, ?_⟩) ?_ ?_
                              rotate_left
                              · intro w'
                                go_simp
                                with_reducible rfl
                              rotate_left
                              · simp only [Act.put, List.setIfInBounds_toArray, List.set_cons_zero, List.set_cons_succ]
                                rfl
                              refine take_ (i := 4) (N := some 169) (v := ?_) (a' := ?_) #[true, true, true, true, true, false, false, false, false, false, false, false, false] rfl rfl (by kernel_rfl) (fun _ _ _ h => h) (Or.inl ⟨by rfl, ?_⟩) hHeld ?_ ?_
                              rotate_left
                              · intro w' hS'
                                go_simp
                                with_reducible rfl
                              rotate_left
                              · simp only [Act.put, List.setIfInBounds_toArray, List.set_cons_zero, List.set_cons_succ]
                                rfl
                              refine pure_ (i := 5) (N := some 170) (v := ?_) (a' := ?_) #[true, true, true, true, true, true, false, false, false, false, false, false, false] rfl rfl (by kernel_rfl) (fun _ _ _ h => h) (Or.inl ⟨by rfl, ?_⟩) ?_ ?_
                              rotate_left
                              · intro w'
                                go_simp
                                with_reducible rfl
                              rotate_left
                              · simp only [Act.put, List.setIfInBounds_toArray, List.set_cons_zero, List.set_cons_succ]
                                rfl
                              refine pure_ (i := 6) (N := some 171) (v := ?_) (a' := ?_) #[true, true, true, true, true, true, true, false, false, false, false, false, false] rfl rfl (by kernel_rfl) (fun _ _ _ h => h) (Or.inl ⟨by rfl, ?_⟩) ?_ ?_
                              rotate_left
                              · intro w'
                                go_simp
                                with_reducible rfl
                              rotate_left
                              · simp only [Act.put, List.setIfInBounds_toArray, List.set_cons_zero, List.set_cons_succ]
                                rfl
                              refine one_ (i := 7) (N := some 172) #[true, true, true, true, true, true, true, true, false, false, false, false, false] rfl rfl (by kernel_rfl) (by decide) (fun K hK => ?_)
                              refine goes_ Try.func156 (by kernel_rfl) rfl #[.pointer (some ⟨bf, 0, none⟩), .int .i64 i] (by rfl) rfl rfl (by simp [Act.eval]) ?_
                              refine (mate_fr _ bf gb mb n mcap i nx M (upd U.pa i v) U.ba (upd U.us (M i) true) _ HF7.out hlt' _ HMi.out).mono ?_
                              rintro e w6 ⟨rfl, hh6, hb6⟩
                              refine ⟨_, rfl, ?_⟩
                              have HF8 := Hd.mk (HF7.out.of_heap (w' := w6) (fun k hk => by rw [hh6]))
                              have HQ8 := Hd.mk (HQ7.out.of_heap (w' := w6) (by rw [hh6]))
                              have HB8 := Hd.mk (HB7.out.trans (hb6.mono HSZ7.out))
                              have HSZ8 := Hd.mk (show B ≤ w6.heap.size by rw [hh6]; exact HSZ7.out)
                              have hc8 := HF8.out.f.queue
                              clear hh6 hb6 HF7 HQ7 HB7 HSZ7 hHeld
                              refine hK.out _ _ hc8 (fun hHeld => ?_)
                              clear hK K
                              refine norm_ (a' := ?_) ?_ ?_
                              rotate_left
                              · show Act.put _ (some 172) _ = _
                                simp only [Act.put, List.setIfInBounds_toArray, List.set_cons_zero, List.set_cons_succ]
                                rfl
                              refine one_ (i := 8) (N := some 173) #[true, true, true, true, true, true, true, true, true, false, false, false, false] rfl rfl (by kernel_rfl) (by decide) (fun K hK => ?_)
                              rw [if_pos (by rfl)]
                              have hc9 := cell_alloc_ hc8 HF8.out.f.lt (.cells #[.int .i64 (M i : Int)] 3)
                              unfold Oper.wp
                              go_simp
                              refine hK.out _ _ hc9 (fun hHeld => ?_)
                              clear hK K
                              refine one_ (i := 9) (N := some 174) #[true, true, true, true, true, true, true, true, true, true, false, false, false] rfl rfl (by kernel_rfl) (by decide) (fun K hK => ?_)
                              refine step_app_q B qb _ U.q (M i) rfl (.tmp 169) (.tmp 173) rfl w6.heap.size rfl rfl rfl HQ8.out HSZ8.out HQL.out ?_
                              intro v1 w7 qb1 r1 r2 r3
                              obtain ⟨off1, len1, cap1, rfl⟩ := r1.shape
                              have hbq : some bf ≠ some qb := by intro e; injection e with e; exact HQF.out e.symm
                              have hqB : B ≤ qb := by obtain ⟨_, _, _, _, h2, _⟩ := HQ8.out; exact h2
                              have hmq : some mb ≠ some qb := by intro e; injection e with e; omega
                              have hgq : some gb ≠ some qb := by intro e; injection e with e; omega
                              have hF9 : Fo w7 bf gb mb n mcap nx M (upd U.pa i v) U.ba (upd U.us (M i) true) (.slice (some ⟨qb, off, none⟩) len cap) := ⟨HF8.out.f.of_heap (r2.block _ HF8.out.f.lt hbq), HF8.out.g.of_heap (r2.block _ HF8.out.g.lt hgq), HF8.out.m.of_heap (r2.block _ HF8.out.m.lt hmq), HF8.out.mle⟩
                              have hqf1 : qb1 ≠ bf := by
                                rcases r3 with r3 | r3
                                · rw [r3]; exact HQF.out
                                · have h9 := HF8.out.f.lt
                                  omega
                              have HF9 := Hd.mk hF9
                              have HQ9 := Hd.mk r1
                              have HB9 := Hd.mk (HB8.out.grown r2 HSZ8.out (fun k hk => by injection hk with hk; subst hk; exact hqB))
                              have HQF1 := Hd.mk hqf1
                              have hc10 := hF9.f.queue
                              have hf10 := hF9.f.frozen 74
                              clear hbq hmq hgq hF9 hqf1 r1 r2 r3 HF8 HQ8 HB8 HSZ8 hc8 hc9
                              refine hK.out _ _ hc10 (fun hHeld => ?_)
                              clear hK K
                              refine norm_ (a' := ?_) ?_ ?_
                              rotate_left
                              · show Act.put _ (some 174) _ = _
                                simp only [Act.put, List.setIfInBounds_toArray, List.set_cons_zero, List.set_cons_succ]
                                rfl
                              refine pure_ (i := 10) (N := some 175) (v := ?_) (a' := ?_) #[true, true, true, true, true, true, true, true, true, true, true, false, false] rfl rfl (by kernel_rfl) (fun _ _ _ h => h) (Or.inl ⟨by rfl, ?_⟩) ?_ ?_
                              rotate_left
                              · intro w'
                                go_simp
                                with_reducible rfl
                              rotate_left
                              · simp only [Act.put, List.setIfInBounds_toArray, List.set_cons_zero, List.set_cons_succ]
                                rfl
                              refine pure_ (i := 11) (N := some 176) (v := ?_) (a' := ?_) #[true, true, true, true, true, true, true, true, true, true, true, true, false] rfl rfl (by kernel_rfl) (fun _ _ _ h => h) (Or.inl ⟨by rfl, ?_⟩) ?_ ?_
                              rotate_left
                              · intro w'
                                go_simp
                                with_reducible rfl
                              rotate_left
                              · simp only [Act.put, List.setIfInBounds_toArray, List.set_cons_zero, List.set_cons_succ]
                                rfl
                              refine last_ (i := 12) (N := none) #[true, true, true, true, true, true, true, true, true, true, true, true, true] rfl rfl (by kernel_rfl) (by decide) (fun K hK => ?_)
                              rw [if_pos (by rfl)]
                              unfold Oper.wp
                              go_simp
                              refine hK.out _ _ ?_
                              clear hK K
                              refine done_ (by kernel_rfl) ?_
                              have HF10 := Hd.mk (HF9.out.store (HF9.out.f.setQ (.slice (some ⟨qb1, off1, none⟩) len1 cap1)))
                              have HQ10 := Hd.mk (HQ9.out.of_heap (w' := w7.setCell ⟨bf, 74, none⟩ (.slice (some ⟨qb1, off1, none⟩) len1 cap1)) (heap_set_ne _ _ _ _ _ HQF1.out))
                              have HB10 := Hd.mk (bel_set HB9.out hBf 74 (.slice (some ⟨qb1, off1, none⟩) len1 cap1))
                              clear HF9 HQ9 HB9 HQF1 hc10 hf10 hHeld
                              go_wp2_with fail
                              go_roundg k2
                              case measure => omega
                              case rel => exact ⟨i + 1, _, _, qb1, by go_num, ⟨by have := HK.out; omega⟩, HX, HF10, HQ10, HB10⟩
                            · rw [if_neg t6] at hx
                              have HX := Hd.mk hx
                              clear hx
                              go_wp2_with fail
                              go_quiet (fail)
                              go_wp2_with fail
                              go_quiet ((go_at_call 156; go_must (exact mate_quiet2 _ bf gb mb n mcap i nx M U.pa U.ba U.us qv HF.out hlt' _ HMi.out _ _)))
                              go_wp2_with fail
                              go_roundg k2
                              case measure => omega
                              case rel => exact ⟨i + 1, U, qv, qb, by go_num, ⟨by have := HK.out; omega⟩, HX, ⟨HF.out.of_heap (fun k hk => rfl)⟩, ⟨HQ.out.of_heap rfl⟩, ⟨bel_drewN HB.out _⟩⟩
    | succ k1 =>
      have hi := HK.out
      have hlt : (i : Int) < n := by omega
      have hlt' : i < n := by omega
      have i1 : (i : Int) < 24 := by omega
      have i2 : (0 : Int) ≤ i := by omega
      have c1 := HF.out.f.getPa i hlt'
      have c2 := HF.out.f.getBa i hlt'
      have c3 := HF.out.f.getUs i hlt'
      have f1 := HF.out.f.frozen (2 + i)
      have f2 := HF.out.f.frozen (26 + i)
      have f3 := HF.out.f.frozen (50 + i)
      clear hi
      go_wp2_with fail
      go_region_held3 (fun _ => True) (trivial) (fail)
      refine gen_world (fun wq => Fo wq bf gb mb n mcap nx M (upd p i (-1)) (upd b i i) (upd u i false) (.slice none 0 0) ∧ Below B w wq) ?_ ?_
      · have g1 := (HF.out.of_heap (w' := wr.drewN 1) (fun k hk => rfl))
        have g2 := g1.store (g1.f.setPa i hlt' (-1))
        have g3 := g2.store (g2.f.setBa i hlt' i)
        exact ⟨g3.store (g3.f.setUs i hlt' false), bel_set (bel_set (bel_set (bel_drewN HB.out 1) hBf _ _) hBf _ _) hBf _ _⟩
      intro wq ⟨g1, g2⟩
      have HF2 := Hd.mk g1
      have HB2 := Hd.mk g2
      clear g1 g2 c1 c2 c3 f1 f2 f3 HF HB
      go_wp2_with fail
      go_roundg k1
      case measure => omega
      case rel => exact ⟨i + 1, _, _, _, by go_num, ⟨by have := HK.out; omega⟩, ⟨fun j hj => by
          by_cases e : j = i
          · subst e; simp [upd]
          · have := HX.out j (by omega)
            simp only [upd, if_neg e]
            exact this⟩, HF2, HB2⟩
end Go.Proofs.Ytnbdfmdjedakcaa.Pr
