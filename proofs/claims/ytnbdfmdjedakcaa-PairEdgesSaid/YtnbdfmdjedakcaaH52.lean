/- The reference's Edges: the walk. No conditions. -/
import Derived.Test.YtnbdfmdjedakcaaH51
import Derived.BigRegion
namespace Go.Proofs.Ytnbdfmdjedakcaa
open Go.RowKit Go.Proofs.YtnbdfmdjedakcaaW.PrintWords Go.Proofs.YtnbdfmdjedakcaaW.PrintLast Go.Proofs.YtnbdfmdjedakcaaW.PrintMore PP
set_option linter.unusedVariables false
set_option linter.unusedSimpArgs false
theorem goodS_any (W : World) (x : S36) : Calls Try.prog 52 #[gv x] W fun e w' => e = .returned (.bool (gok x)) ∧ Below W.heap.size W w' := kimberliteref02_Good.calls x.f0 x.f1 x.f2 _ W rfl
theorem cell_al {w : World} {a : Addr} {v : Value} (o : Obj) (h : w.cell? a = some v) : (w.alloc o).cell? a = some v :=
  (((Below.refl _ w).alloc (Nat.le_refl _) o).cell (World.block_lt_of_cell? w _ h)).trans h
theorem cell_st {w : World} {a : Addr} {v : Value} {b k : Nat} (u : Value) (h : w.cell? a = some v) (hne : a.block ≠ b) : (w.setCell ⟨b, k, none⟩ u).cell? a = some v :=
  ((bel_set (B := a.block + 1) (Below.refl _ w) (b := a.block + 1 + b) (by omega) 0 u).cell (by omega)).trans h |> fun _ => by
    have e := heap_set_ne w b k a.block u hne
    have : (w.setCell ⟨b, k, none⟩ u).cell? a = w.cell? a := by
      simp only [World.cell?, e]
    rw [this]; exact h
theorem two_stones {w0 wr : World} {gb : Nat} {ap : S36} {v : Value} {acc : List S101} (h : EdB w0 gb ap v acc wr) (p q : S106) :
    EdB w0 gb ap v acc (((wr.alloc (.cells #[.int .i64 p.f0, .int .i64 p.f1.f0, .int .i64 p.f1.f1, .int .i64 p.f1.f2] 106)).alloc (.cells #[.int .i64 q.f0, .int .i64 q.f1.f0, .int .i64 q.f1.f1, .int .i64 q.f1.f2] 106)).drew) ∧
    SBlk (((wr.alloc (.cells #[.int .i64 p.f0, .int .i64 p.f1.f0, .int .i64 p.f1.f1, .int .i64 p.f1.f2] 106)).alloc (.cells #[.int .i64 q.f0, .int .i64 q.f1.f0, .int .i64 q.f1.f1, .int .i64 q.f1.f2] 106)).drew) wr.heap.size p ∧
    SBlk (((wr.alloc (.cells #[.int .i64 p.f0, .int .i64 p.f1.f0, .int .i64 p.f1.f1, .int .i64 p.f1.f2] 106)).alloc (.cells #[.int .i64 q.f0, .int .i64 q.f1.f0, .int .i64 q.f1.f1, .int .i64 q.f1.f2] 106)).drew) (wr.heap.size + 1) q := by
  have b1 := (Below.refl wr.heap.size wr).alloc (Nat.le_refl _) (.cells #[.int .i64 p.f0, .int .i64 p.f1.f0, .int .i64 p.f1.f1, .int .i64 p.f1.f2] 106)
  have h1 := blk_new wr (.cells #[.int .i64 p.f0, .int .i64 p.f1.f0, .int .i64 p.f1.f1, .int .i64 p.f1.f2] 106)
  have s1 := World.size_alloc wr (.cells #[.int .i64 p.f0, .int .i64 p.f1.f0, .int .i64 p.f1.f1, .int .i64 p.f1.f2] 106)
  generalize wr.alloc (.cells #[.int .i64 p.f0, .int .i64 p.f1.f0, .int .i64 p.f1.f1, .int .i64 p.f1.f2] 106) = w1 at b1 h1 s1 ⊢
  have b2 := (Below.refl w1.heap.size w1).alloc (Nat.le_refl _) (.cells #[.int .i64 q.f0, .int .i64 q.f1.f0, .int .i64 q.f1.f1, .int .i64 q.f1.f2] 106)
  have h2 := blk_new w1 (.cells #[.int .i64 q.f0, .int .i64 q.f1.f0, .int .i64 q.f1.f1, .int .i64 q.f1.f2] 106)
  rw [s1] at h2
  exact ⟨((h.below b1).below b2).drewN 1, (b2.block _ (by omega)).trans h1, h2⟩
theorem max_near {a b m : Int} (ha : 0 ≤ a ∧ a ≤ 1073741824) (hb : 0 ≤ b ∧ b ≤ 1073741824) : decide (max (wrap64 (a - b)) (wrap64 (b - a)) ≤ m) = nearB a b m := by
  have w1 : wrap64 (a - b) = a - b := by unfold wrap64; omega
  have w2 : wrap64 (b - a) = b - a := by unfold wrap64; omega
  rw [w1, w2]
  unfold nearB
  rw [← Bool.decide_and, decide_eq_decide]
  omega
set_option maxRecDepth 100000 in
set_option maxHeartbeats 8000000 in
theorem refEdges_ok (w : World) (A : Option Addr) (c : Nat) (l : List S106) (hC : Kd.C k106 w A l.length l) (hn : l.length ≤ 24) (m : Int) (hm0 : 0 ≤ m) (hm1 : m ≤ 1073741824) (ap : S36) (hap : gok ap = true) (hall : ∀ i, i < l.length → stB (sAt l i) = true) :
    Calls Try.prog 66 #[.slice A l.length c, .int .i64 m, gv ap] w fun e w' => ∃ v, e = .returned (.tuple #[v, .int .i64 (if 128 < (eOut l m ap l.length).length then 8 else 0)]) ∧ Kd.R k101 101 w' w.heap.size (fun _ => True) v (if 128 < (eOut l m ap l.length).length then [] else eOut l m ap l.length) ∧ Below w.heap.size w w' := by
  have HC := Hd.mk (fun W (hb : Below w.heap.size w W) => Kd.C_below hC hb)
  have HI := Hd.mk (fun W => goodS_any W ap)
  rw [hap] at HI
  have HALL := Hd.mk hall
  have hu106 := Try.underlying106
  have hu36 := Try.underlying36
  have hu101 := Try.underlying101
  have dn : decide ((l.length : Int) > 24) = false := decide_eq_false (by omega)
  have dm0 : decide (m < 0) = false := decide_eq_false (by omega)
  have dm1 : decide (m > 1073741824) = false := decide_eq_false (by omega)
  have HE0 := Hd.mk (show EdB w w.heap.size ap (.slice none 0 0) [] (w.alloc (.cells #[.int .i64 ap.f0, .int .i64 ap.f1, .int .i64 ap.f2] 36)) from ⟨(Below.refl _ _).alloc (Nat.le_refl _) _, blk_new w _, Kd.R_nil _ _ _ _ _⟩)
  clear hC hap hall
  go_enter Try.func66, Try.ntmps66
  go_wp2_with (go_at_call 52; refine (HI.out _).mono ?_; rintro e w1 ⟨rfl, hb1⟩; have HE1 := Hd.mk (HE0.out.below hb1); clear hb1 HE0 HI)
  obtain ⟨gb, hgb⟩ : ∃ gb, w.heap.size = gb := ⟨_, rfl⟩
  have HE3 := Hd.mk (show EdB w gb ap (.slice none 0 0) [] w1 from by rw [← hgb]; exact HE1.out)
  rw [hgb]
  clear HE1
  go_loopg [8] l.length (fun gg v8 wr => ∃ (a : Nat), v8 = .int .i64 a ∧ a ≤ l.length ∧ l.length - a ≤ gg ∧ Hd (EdB w gb ap (.slice none 0 0) [] wr))
  case atStart => exact ⟨0, rfl, Nat.zero_le _, by omega, HE3⟩
  case round =>
    clear HE3
    obtain ⟨a, rfl, ha, hga, HE⟩ := hrel
    by_cases hlt : a < l.length
    · have hltz : (a : Int) < (l.length : Int) := by omega
      obtain ⟨ad, rfl, c0, c1, c2, c3⟩ := at_T106 (HC.out _ HE.out.B) (a : Int) (by omega) (by omega)
      rw [Int.toNat_natCast] at c0 c1 c2 c3
      rw [show rd_T106 l (a : Int) = sAt l a from rfl] at c0 c1 c2 c3
      have hsx := HALL.out a hlt
      generalize sAt l a = x at c0 c1 c2 c3 hsx
      have HG := Hd.mk (fun W => goodS_any W x.f1)
      have rx := stB_range hsx
      have hg : gok x.f1 = true := by unfold stB at hsx; simp only [Bool.and_eq_true] at hsx; exact hsx.2.2
      rw [hg] at HG
      have d1 : decide (x.f0 < 0) = false := decide_eq_false (by omega)
      have d2 : decide (x.f0 > 1073741824) = false := decide_eq_false (by omega)
      clear hsx rx hg
      go_wp2_with (go_at_call 52; refine (HG.out _).mono ?_; rintro e w2 ⟨rfl, hb2⟩; have HE2 := Hd.mk (HE.out.below hb2); clear hb2 HE HG)
      go_roundg (l.length - (a + 1))
      case measure => omega
      case rel => exact ⟨a + 1, by go_num, by omega, by omega, HE2⟩
    · have hltz : ¬ (a : Int) < (l.length : Int) := by omega
      obtain rfl : a = l.length := by omega
      have HE4 := HE
      clear HE
      go_wp2_with fail
      go_loopg [9, 10] l.length (fun gg v9 v10 wr => ∃ (a : Nat), v10 = .int .i64 a ∧ a ≤ l.length ∧ l.length - a ≤ gg ∧ Hd (EdB w gb ap v9 (eOut l m ap a) wr))
      case atStart => exact ⟨0, rfl, Nat.zero_le _, by omega, HE4⟩
      case round =>
        clear HE4
        obtain ⟨a, rfl, ha, hga, HE⟩ := hrel
        by_cases hlt : a < l.length
        · have hltz : (a : Int) < (l.length : Int) := by omega
          go_wp2_with fail
          go_loopg [9, 11] l.length (fun gg v9 v11 wr => ∃ (k : Nat), v11 = .int .i64 ((a + 1 + k : Nat) : Int) ∧ a + 1 + k ≤ l.length ∧ l.length - (a + 1 + k) ≤ gg ∧ Hd (EdB w gb ap v9 (eIn l m ap a (eOut l m ap a) k) wr))
          case atStart => exact ⟨0, by go_num, by omega, by omega, HE⟩
          case round =>
            clear HE
            obtain ⟨k, rfl, hk, hgk, HE⟩ := hrel
            by_cases hlk : a + 1 + k < l.length
            · have hlkz : ((a + 1 + k : Nat) : Int) < (l.length : Int) := by omega
              obtain ⟨ad, had, c0, c1, c2, c3⟩ := at_T106 (HC.out _ HE.out.B) (a : Int) (by omega) (by omega)
              subst had
              obtain ⟨ad2, had, e0, e1, e2, e3⟩ := at_T106 (HC.out _ HE.out.B) ((a + 1 + k : Nat) : Int) (by omega) (by omega)
              injection had with had
              subst had
              rw [Int.toNat_natCast] at c0 c1 c2 c3 e0 e1 e2 e3
              rw [show rd_T106 l (a : Int) = sAt l a from rfl] at c0 c1 c2 c3
              rw [show rd_T106 l ((a + 1 + k : Nat) : Int) = sAt l (a + 1 + k) from rfl] at e0 e1 e2 e3
              have HSa := Hd.mk (HALL.out a hlt)
              have HSb := Hd.mk (HALL.out (a + 1 + k) hlk)
              have hst : eIn l m ap a (eOut l m ap a) (k + 1) = if fitK (sAt l a) (sAt l (a + 1 + k)) m ap 3 = true then eIn l m ap a (eOut l m ap a) k ++ [⟨(a : Int), ((a + 1 + k : Nat) : Int)⟩] else eIn l m ap a (eOut l m ap a) k := rfl
              have HST := Hd.mk hst
              clear hst
              generalize sAt l (a + 1 + k) = y at e0 e1 e2 e3 HSb HST
              generalize sAt l a = x at c0 c1 c2 c3 HSa HST
              generalize ha1 : a + 1 + k = b at hlk hlkz e0 e1 e2 e3 HST ⊢
              have rx := stB_range HSa.out
              have ry := stB_range HSb.out
              have HM0 := Hd.mk (max_near (m := m) (a := x.f0) (b := y.f0) ⟨rx.1, rx.2.1⟩ ⟨ry.1, ry.2.1⟩)
              have HRx := Hd.mk rx.2.2
              have HRy := Hd.mk ry.2.2
              clear rx ry
              have hA : (ad.add (a * 4)).block ≠ wr.heap.size := Nat.ne_of_lt (World.block_lt_of_cell? wr _ c0)
              have hB : (ad.add (b * 4)).block ≠ wr.heap.size := Nat.ne_of_lt (World.block_lt_of_cell? wr _ e0)
              have hA1 : (ad.add (a * 4)).block ≠ wr.heap.size + 1 := Nat.ne_of_lt (Nat.lt_succ_of_lt (World.block_lt_of_cell? wr _ c0))
              have hB1 : (ad.add (b * 4)).block ≠ wr.heap.size + 1 := Nat.ne_of_lt (Nat.lt_succ_of_lt (World.block_lt_of_cell? wr _ e0))
              go_wp2_with fail
              go_region_held3 (fun w' => w'.cell? (ad.add (a * 4)) = some (.int .i64 x.f0) ∧ w'.cell? ⟨(ad.add (a * 4)).block, (ad.add (a * 4)).off + 1, none⟩ = some (.int .i64 x.f1.f0) ∧ w'.cell? ⟨(ad.add (a * 4)).block, (ad.add (a * 4)).off + 2, none⟩ = some (.int .i64 x.f1.f1) ∧ w'.cell? ⟨(ad.add (a * 4)).block, (ad.add (a * 4)).off + 3, none⟩ = some (.int .i64 x.f1.f2) ∧ w'.cell? (ad.add (b * 4)) = some (.int .i64 y.f0) ∧ w'.cell? ⟨(ad.add (b * 4)).block, (ad.add (b * 4)).off + 1, none⟩ = some (.int .i64 y.f1.f0) ∧ w'.cell? ⟨(ad.add (b * 4)).block, (ad.add (b * 4)).off + 2, none⟩ = some (.int .i64 y.f1.f1) ∧ w'.cell? ⟨(ad.add (b * 4)).block, (ad.add (b * 4)).off + 3, none⟩ = some (.int .i64 y.f1.f2)) (first | exact ⟨c0, c1, c2, c3, e0, e1, e2, e3⟩ | (refine ⟨?_, ?_, ?_, ?_, ?_, ?_, ?_, ?_⟩ <;> (repeat (first | assumption | refine cell_al _ ?_ | (refine cell_st _ ?_ (by first | exact hA | exact hB | exact hA1 | exact hB1)))))) (fail)
              · have h2s := two_stones HE.out x y
                have HD0 := Hd.mk (show EeB w gb ap u9 (eIn l m ap a (eOut l m ap a) k) wr.heap.size x (wr.heap.size + 1) y (((wr.alloc (.cells #[.int .i64 x.f0, .int .i64 x.f1.f0, .int .i64 x.f1.f1, .int .i64 x.f1.f2] 106)).alloc (.cells #[.int .i64 y.f0, .int .i64 y.f1.f0, .int .i64 y.f1.f1, .int .i64 y.f1.f2] 106)).drew) from ⟨h2s.1, h2s.2.1, h2s.2.2⟩)
                clear h2s HE hA hB hA1 hB1 c0 c1 c2 c3 e0 e1 e2 e3
                generalize ((wr.alloc (.cells #[.int .i64 x.f0, .int .i64 x.f1.f0, .int .i64 x.f1.f1, .int .i64 x.f1.f2] 106)).alloc (.cells #[.int .i64 y.f0, .int .i64 y.f1.f0, .int .i64 y.f1.f1, .int .i64 y.f1.f2] 106)).drew = w5 at HD0 ⊢
                generalize wr.heap.size + 1 = ob at HD0 ⊢
                generalize wr.heap.size = pb at HD0 ⊢
                obtain ⟨c0, c1, c2, c3⟩ := HD0.out.Y.cells
                obtain ⟨e0, e1, e2, e3⟩ := HD0.out.X.cells
                go_wp2_with fail
                clear c0 c1 c2 c3 e0 e1 e2 e3
                go_loopg [14, 15] 3 (fun gg v14 v15 wr => ∃ (i : Nat), v15 = .int .i64 i ∧ v14 = .bool (fitK x y m ap i) ∧ i ≤ 3 ∧ 3 - i ≤ gg ∧ Hd (EeB w gb ap u9 (eIn l m ap a (eOut l m ap a) k) pb x ob y wr))
                case atStart => exact ⟨0, rfl, by rw [HM0.out]; rfl, by omega, by omega, HD0⟩
                case round =>
                  clear HD0 HM0
                  obtain ⟨i, rfl, rfl, hi, hgi, ED⟩ := hrel
                  by_cases hi3 : i < 3
                  · rcases (by omega : i = 0 ∨ i = 1 ∨ i = 2) with rfl | rfl | rfl
                    · cases hfi : fitK x y m ap 0 with
                      | false =>
                        have HS9 := Hd.mk (show fitK x y m ap (0 + 1) = false from by rw [fitK, hfi]; rfl)
                        clear hfi
                        go_wp2_with fail
                        go_region
                        have z2 := Hd.mk (ED.out.drewN 1)
                        go_wp2_with fail
                        go_roundg (3 - (0 + 1))
                        case measure => omega
                        case rel => exact ⟨0 + 1, by go_num, by rw [HS9.out], by omega, by omega, z2⟩
                      | true =>
                        have HS9 := Hd.mk (show fitK x y m ap (0 + 1) = nearB (cmp x.f1 0) (cmp y.f1 0) (cmp ap 0) from by rw [fitK, hfi]; rfl)
                        have HMx := Hd.mk (max_near (m := cmp ap 0) (HRx.out 0 (by omega)) (HRy.out 0 (by omega)))
                        clear hfi
                        obtain ⟨c0, c1, c2, c3⟩ := ED.out.Y.cells
                        obtain ⟨e0, e1, e2, e3⟩ := ED.out.X.cells
                        obtain ⟨g0, g1, g2⟩ := ED.out.E.cells
                        go_wp2_with fail
                        go_region
                        have z2 := Hd.mk (ED.out.drewN 1)
                        clear ED c0 c1 c2 c3 e0 e1 e2 e3 g0 g1 g2
                        go_wp2_with fail
                        go_roundg (3 - (0 + 1))
                        case measure => omega
                        case rel => exact ⟨0 + 1, by go_num, by rw [HS9.out, ← HMx.out]; rfl, by omega, by omega, z2⟩
                    · cases hfi : fitK x y m ap 1 with
                      | false =>
                        have HS9 := Hd.mk (show fitK x y m ap (1 + 1) = false from by rw [fitK, hfi]; rfl)
                        clear hfi
                        go_wp2_with fail
                        go_region
                        have z2 := Hd.mk (ED.out.drewN 1)
                        go_wp2_with fail
                        go_roundg (3 - (1 + 1))
                        case measure => omega
                        case rel => exact ⟨1 + 1, by go_num, by rw [HS9.out], by omega, by omega, z2⟩
                      | true =>
                        have HS9 := Hd.mk (show fitK x y m ap (1 + 1) = nearB (cmp x.f1 1) (cmp y.f1 1) (cmp ap 1) from by rw [fitK, hfi]; rfl)
                        have HMx := Hd.mk (max_near (m := cmp ap 1) (HRx.out 1 (by omega)) (HRy.out 1 (by omega)))
                        clear hfi
                        obtain ⟨c0, c1, c2, c3⟩ := ED.out.Y.cells
                        obtain ⟨e0, e1, e2, e3⟩ := ED.out.X.cells
                        obtain ⟨g0, g1, g2⟩ := ED.out.E.cells
                        go_wp2_with fail
                        go_region
                        have z2 := Hd.mk (ED.out.drewN 1)
                        clear ED c0 c1 c2 c3 e0 e1 e2 e3 g0 g1 g2
                        go_wp2_with fail
                        go_roundg (3 - (1 + 1))
                        case measure => omega
                        case rel => exact ⟨1 + 1, by go_num, by rw [HS9.out, ← HMx.out]; rfl, by omega, by omega, z2⟩
                    · cases hfi : fitK x y m ap 2 with
                      | false =>
                        have HS9 := Hd.mk (show fitK x y m ap (2 + 1) = false from by rw [fitK, hfi]; rfl)
                        clear hfi
                        go_wp2_with fail
                        go_region
                        have z2 := Hd.mk (ED.out.drewN 1)
                        go_wp2_with fail
                        go_roundg (3 - (2 + 1))
                        case measure => omega
                        case rel => exact ⟨2 + 1, by go_num, by rw [HS9.out], by omega, by omega, z2⟩
                      | true =>
                        have HS9 := Hd.mk (show fitK x y m ap (2 + 1) = nearB (cmp x.f1 2) (cmp y.f1 2) (cmp ap 2) from by rw [fitK, hfi]; rfl)
                        have HMx := Hd.mk (max_near (m := cmp ap 2) (HRx.out 2 (by omega)) (HRy.out 2 (by omega)))
                        clear hfi
                        obtain ⟨c0, c1, c2, c3⟩ := ED.out.Y.cells
                        obtain ⟨e0, e1, e2, e3⟩ := ED.out.X.cells
                        obtain ⟨g0, g1, g2⟩ := ED.out.E.cells
                        go_wp2_with fail
                        go_region
                        have z2 := Hd.mk (ED.out.drewN 1)
                        clear ED c0 c1 c2 c3 e0 e1 e2 e3 g0 g1 g2
                        go_wp2_with fail
                        go_roundg (3 - (2 + 1))
                        case measure => omega
                        case rel => exact ⟨2 + 1, by go_num, by rw [HS9.out, ← HMx.out]; rfl, by omega, by omega, z2⟩
                  · obtain rfl : i = 3 := by omega
                    cases hf3 : fitK x y m ap 3 with
                    | false =>
                      have hs9 := HST.out
                      rw [if_neg (by rw [hf3]; decide)] at hs9
                      have HS9 := Hd.mk hs9
                      clear hs9 hf3
                      go_wp2_with fail
                      go_roundg (l.length - (b + 1))
                      case measure => omega
                      case rel => exact ⟨k + 1, by go_num, by omega, by omega, ⟨by rw [HS9.out]; exact ED.out.E⟩⟩
                    | true =>
                      have hs9 := HST.out
                      rw [if_pos hf3] at hs9
                      have HS9 := Hd.mk hs9
                      have HLn := Hd.mk (eIn_len l m ap a (eOut l m ap a) k)
                      have HLo := Hd.mk (eOut_len l m ap a (by omega))
                      have HLm := Hd.mk (show a * l.length ≤ 24 * 24 from Nat.mul_le_mul (by omega) hn)
                      clear hs9 hf3
                      go_wp2_with ((with_reducible refine gate_builtin (b := .append) (xs := #[.tmp 125, .tmp 129]) rfl ?_); at_builtin; refine Kd.R_append k101 (w0 := w) w.heap.size rfl (.tmp 125) (.tmp 129) 68 101 (.agg #[(.int .i64 0), (.int .i64 0)]) 16 rfl Try.underlying68 info101 rfl (by decide) (by omega) _ _ (⟨(a : Int), (b : Int)⟩ : S101) [.int .i64 (a : Int), .int .i64 (b : Int)] (fun _ => True) (fun _ => False) rfl rfl ?aP (fun _ hk => hk.elim) (fun _ _ => trivial) ED.out.E.R ED.out.E.B ED.out.E.B.size ?aL ?_; (case aP => exact k101_mkM _ _ _ ⟨(a : Int), (b : Int)⟩); (case aL => have := HLn.out; have := HLo.out; have := HLm.out; omega); intro v8 w8 ho hb hg2 hat; have z2 := Hd.mk (ED.out.E.more ho hb hg2); clear ho hb hg2 hat)
                      go_roundg (l.length - (b + 1))
                      case measure => omega
                      case rel => exact ⟨k + 1, by go_num, by omega, by omega, ⟨by rw [HS9.out]; exact z2.out⟩⟩
              · have h2s := two_stones HE.out y x
                have HD0 := Hd.mk (show EeB w gb ap u9 (eIn l m ap a (eOut l m ap a) k) (wr.heap.size + 1) x wr.heap.size y (((wr.alloc (.cells #[.int .i64 y.f0, .int .i64 y.f1.f0, .int .i64 y.f1.f1, .int .i64 y.f1.f2] 106)).alloc (.cells #[.int .i64 x.f0, .int .i64 x.f1.f0, .int .i64 x.f1.f1, .int .i64 x.f1.f2] 106)).drew) from ⟨h2s.1, h2s.2.2, h2s.2.1⟩)
                clear h2s HE hA hB hA1 hB1 c0 c1 c2 c3 e0 e1 e2 e3
                generalize ((wr.alloc (.cells #[.int .i64 y.f0, .int .i64 y.f1.f0, .int .i64 y.f1.f1, .int .i64 y.f1.f2] 106)).alloc (.cells #[.int .i64 x.f0, .int .i64 x.f1.f0, .int .i64 x.f1.f1, .int .i64 x.f1.f2] 106)).drew = w5 at HD0 ⊢
                generalize wr.heap.size + 1 = pb at HD0 ⊢
                generalize wr.heap.size = ob at HD0 ⊢
                obtain ⟨c0, c1, c2, c3⟩ := HD0.out.Y.cells
                obtain ⟨e0, e1, e2, e3⟩ := HD0.out.X.cells
                go_wp2_with fail
                clear c0 c1 c2 c3 e0 e1 e2 e3
                go_loopg [14, 15] 3 (fun gg v14 v15 wr => ∃ (i : Nat), v15 = .int .i64 i ∧ v14 = .bool (fitK x y m ap i) ∧ i ≤ 3 ∧ 3 - i ≤ gg ∧ Hd (EeB w gb ap u9 (eIn l m ap a (eOut l m ap a) k) pb x ob y wr))
                case atStart => exact ⟨0, rfl, by rw [HM0.out]; rfl, by omega, by omega, HD0⟩
                case round =>
                  clear HD0 HM0
                  obtain ⟨i, rfl, rfl, hi, hgi, ED⟩ := hrel
                  by_cases hi3 : i < 3
                  · rcases (by omega : i = 0 ∨ i = 1 ∨ i = 2) with rfl | rfl | rfl
                    · cases hfi : fitK x y m ap 0 with
                      | false =>
                        have HS9 := Hd.mk (show fitK x y m ap (0 + 1) = false from by rw [fitK, hfi]; rfl)
                        clear hfi
                        go_wp2_with fail
                        go_region
                        have z2 := Hd.mk (ED.out.drewN 1)
                        go_wp2_with fail
                        go_roundg (3 - (0 + 1))
                        case measure => omega
                        case rel => exact ⟨0 + 1, by go_num, by rw [HS9.out], by omega, by omega, z2⟩
                      | true =>
                        have HS9 := Hd.mk (show fitK x y m ap (0 + 1) = nearB (cmp x.f1 0) (cmp y.f1 0) (cmp ap 0) from by rw [fitK, hfi]; rfl)
                        have HMx := Hd.mk (max_near (m := cmp ap 0) (HRx.out 0 (by omega)) (HRy.out 0 (by omega)))
                        clear hfi
                        obtain ⟨c0, c1, c2, c3⟩ := ED.out.Y.cells
                        obtain ⟨e0, e1, e2, e3⟩ := ED.out.X.cells
                        obtain ⟨g0, g1, g2⟩ := ED.out.E.cells
                        go_wp2_with fail
                        go_region
                        have z2 := Hd.mk (ED.out.drewN 1)
                        clear ED c0 c1 c2 c3 e0 e1 e2 e3 g0 g1 g2
                        go_wp2_with fail
                        go_roundg (3 - (0 + 1))
                        case measure => omega
                        case rel => exact ⟨0 + 1, by go_num, by rw [HS9.out, ← HMx.out]; rfl, by omega, by omega, z2⟩
                    · cases hfi : fitK x y m ap 1 with
                      | false =>
                        have HS9 := Hd.mk (show fitK x y m ap (1 + 1) = false from by rw [fitK, hfi]; rfl)
                        clear hfi
                        go_wp2_with fail
                        go_region
                        have z2 := Hd.mk (ED.out.drewN 1)
                        go_wp2_with fail
                        go_roundg (3 - (1 + 1))
                        case measure => omega
                        case rel => exact ⟨1 + 1, by go_num, by rw [HS9.out], by omega, by omega, z2⟩
                      | true =>
                        have HS9 := Hd.mk (show fitK x y m ap (1 + 1) = nearB (cmp x.f1 1) (cmp y.f1 1) (cmp ap 1) from by rw [fitK, hfi]; rfl)
                        have HMx := Hd.mk (max_near (m := cmp ap 1) (HRx.out 1 (by omega)) (HRy.out 1 (by omega)))
                        clear hfi
                        obtain ⟨c0, c1, c2, c3⟩ := ED.out.Y.cells
                        obtain ⟨e0, e1, e2, e3⟩ := ED.out.X.cells
                        obtain ⟨g0, g1, g2⟩ := ED.out.E.cells
                        go_wp2_with fail
                        go_region
                        have z2 := Hd.mk (ED.out.drewN 1)
                        clear ED c0 c1 c2 c3 e0 e1 e2 e3 g0 g1 g2
                        go_wp2_with fail
                        go_roundg (3 - (1 + 1))
                        case measure => omega
                        case rel => exact ⟨1 + 1, by go_num, by rw [HS9.out, ← HMx.out]; rfl, by omega, by omega, z2⟩
                    · cases hfi : fitK x y m ap 2 with
                      | false =>
                        have HS9 := Hd.mk (show fitK x y m ap (2 + 1) = false from by rw [fitK, hfi]; rfl)
                        clear hfi
                        go_wp2_with fail
                        go_region
                        have z2 := Hd.mk (ED.out.drewN 1)
                        go_wp2_with fail
                        go_roundg (3 - (2 + 1))
                        case measure => omega
                        case rel => exact ⟨2 + 1, by go_num, by rw [HS9.out], by omega, by omega, z2⟩
                      | true =>
                        have HS9 := Hd.mk (show fitK x y m ap (2 + 1) = nearB (cmp x.f1 2) (cmp y.f1 2) (cmp ap 2) from by rw [fitK, hfi]; rfl)
                        have HMx := Hd.mk (max_near (m := cmp ap 2) (HRx.out 2 (by omega)) (HRy.out 2 (by omega)))
                        clear hfi
                        obtain ⟨c0, c1, c2, c3⟩ := ED.out.Y.cells
                        obtain ⟨e0, e1, e2, e3⟩ := ED.out.X.cells
                        obtain ⟨g0, g1, g2⟩ := ED.out.E.cells
                        go_wp2_with fail
                        go_region
                        have z2 := Hd.mk (ED.out.drewN 1)
                        clear ED c0 c1 c2 c3 e0 e1 e2 e3 g0 g1 g2
                        go_wp2_with fail
                        go_roundg (3 - (2 + 1))
                        case measure => omega
                        case rel => exact ⟨2 + 1, by go_num, by rw [HS9.out, ← HMx.out]; rfl, by omega, by omega, z2⟩
                  · obtain rfl : i = 3 := by omega
                    cases hf3 : fitK x y m ap 3 with
                    | false =>
                      have hs9 := HST.out
                      rw [if_neg (by rw [hf3]; decide)] at hs9
                      have HS9 := Hd.mk hs9
                      clear hs9 hf3
                      go_wp2_with fail
                      go_roundg (l.length - (b + 1))
                      case measure => omega
                      case rel => exact ⟨k + 1, by go_num, by omega, by omega, ⟨by rw [HS9.out]; exact ED.out.E⟩⟩
                    | true =>
                      have hs9 := HST.out
                      rw [if_pos hf3] at hs9
                      have HS9 := Hd.mk hs9
                      have HLn := Hd.mk (eIn_len l m ap a (eOut l m ap a) k)
                      have HLo := Hd.mk (eOut_len l m ap a (by omega))
                      have HLm := Hd.mk (show a * l.length ≤ 24 * 24 from Nat.mul_le_mul (by omega) hn)
                      clear hs9 hf3
                      go_wp2_with ((with_reducible refine gate_builtin (b := .append) (xs := #[.tmp 125, .tmp 129]) rfl ?_); at_builtin; refine Kd.R_append k101 (w0 := w) w.heap.size rfl (.tmp 125) (.tmp 129) 68 101 (.agg #[(.int .i64 0), (.int .i64 0)]) 16 rfl Try.underlying68 info101 rfl (by decide) (by omega) _ _ (⟨(a : Int), (b : Int)⟩ : S101) [.int .i64 (a : Int), .int .i64 (b : Int)] (fun _ => True) (fun _ => False) rfl rfl ?aP (fun _ hk => hk.elim) (fun _ _ => trivial) ED.out.E.R ED.out.E.B ED.out.E.B.size ?aL ?_; (case aP => exact k101_mkM _ _ _ ⟨(a : Int), (b : Int)⟩); (case aL => have := HLn.out; have := HLo.out; have := HLm.out; omega); intro v8 w8 ho hb hg2 hat; have z2 := Hd.mk (ED.out.E.more ho hb hg2); clear ho hb hg2 hat)
                      go_roundg (l.length - (b + 1))
                      case measure => omega
                      case rel => exact ⟨k + 1, by go_num, by omega, by omega, ⟨by rw [HS9.out]; exact z2.out⟩⟩
            · have hlkz : ¬ ((a + 1 + k : Nat) : Int) < (l.length : Int) := by omega
              have hk9 : k = l.length - (a + 1) := by omega
              have HE6 := HE
              clear HE
              go_wp2_with fail
              go_roundg (l.length - (a + 1))
              case measure => omega
              case rel => exact ⟨a + 1, by go_num, by omega, by omega, ⟨by rw [eOut, ← hk9]; exact HE6.out⟩⟩
        · have hltz : ¬ (a : Int) < (l.length : Int) := by omega
          obtain rfl : a = l.length := by omega
          by_cases hlen : 128 < (eOut l m ap l.length).length
          · obtain ⟨A9, c9, rfl⟩ := Kd.R_slice HE.out.R
            have d9 : decide (((eOut l m ap l.length).length : Int) > 128) = true := decide_eq_true (by omega)
            have d8 : (128 : Int) < ((eOut l m ap l.length).length : Int) := by omega
            go_wp2_with fail
            go_ret2
            exact ⟨_, rfl, Kd.R_nil _ _ _ _ _, hgb ▸ HE.out.B⟩
          · have HR := Hd.mk HE.out.R
            obtain ⟨A9, c9, rfl⟩ := Kd.R_slice HE.out.R
            have d9 : decide (((eOut l m ap l.length).length : Int) > 128) = false := decide_eq_false (by omega)
            have d8 : ¬ (128 : Int) < ((eOut l m ap l.length).length : Int) := by omega
            go_wp2_with fail
            go_ret2
            exact ⟨_, rfl, hgb ▸ HR.out, hgb ▸ HE.out.B⟩
end Go.Proofs.Ytnbdfmdjedakcaa
