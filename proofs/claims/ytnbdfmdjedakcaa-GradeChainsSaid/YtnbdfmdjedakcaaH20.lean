/- own, kept: grades in memory of their own, with a mark behind. No conditions. -/
import Derived.Test.YtnbdfmdjedakcaaHC
import Derived.Test.YtnbdfmdjedakcaaQ37
namespace Go.Proofs.Ytnbdfmdjedakcaa
open Go.RowKit Go.Proofs.YtnbdfmdjedakcaaW.PrintWords Go.Proofs.YtnbdfmdjedakcaaW.PrintLast Go.Proofs.YtnbdfmdjedakcaaW.PrintMore PP
attribute [local go_sem high] eqA36
set_option linter.unusedVariables false
set_option linter.unusedSimpArgs false
theorem mkG (n : Nat) (hn : n < 1000000000) (W : World) : (Instr.makeSlice 41 (.int .i64 n) (.int .i64 n)).run Try.prog W = .ok (.slice (some ⟨W.heap.size, 0, none⟩) n n) (W.alloc (.cells (madeCells #[.int .i64 0, .int .i64 0, .int .i64 0] (n * 3)) 36)) := by
  obtain ⟨i, hi, hz, hs, hb⟩ := info_parts info36
  have h := run_make (P := Try.prog) W 41 36 i (.agg #[.int .i64 0, .int .i64 0, .int .i64 0]) Try.underlying41 hi hz .i64 .i64 (n : Int) (n : Int) (by omega) (Int.le_refl _) (by rw [hb]; omega) (by omega)
  rw [hs, Int.toNat_natCast] at h
  exact h
/-- The numbers of grades, with a mark behind. -/
def ownF (l : List S36) (k i : Nat) : Int := if i / 3 < k then n3 l[i / 3]!.f0 l[i / 3]!.f1 l[i / 3]!.f2 (i % 3) else 0
def markF (l : List S36) (i : Nat) : Int := if i / 3 < l.length then n3 l[i / 3]!.f0 l[i / 3]!.f1 l[i / 3]!.f2 (i % 3) else n3 7 7 77 (i % 3)
def OwnB (w : World) (g : Nat) (l : List S36) : Prop := VBlk encI 36 w g ((l.length + 1) * 3) (markF l)
theorem made3 (n j : Nat) (hj : j < n * 3) : (madeCells #[.int .i64 0, .int .i64 0, .int .i64 0] (n * 3))[j]? = some (encI 0) := by
  simp [madeCells, hj]
  have : j % 3 = 0 ∨ j % 3 = 1 ∨ j % 3 = 2 := by omega
  rcases this with e | e | e <;> simp [e, encI]
theorem VBlk.made3 {w : World} {b n : Nat} (h : w.heap[b]? = some (.cells (madeCells #[.int .i64 0, .int .i64 0, .int .i64 0] (n * 3)) 36 (0, 0))) : VBlk encI 36 w b (n * 3) (fun _ => 0) :=
  ⟨_, h, by simp [madeCells], fun j hj => Ytnbdfmdjedakcaa.made3 _ _ hj⟩
theorem VBlk.set3 {w : World} {b n : Nat} {f : Nat → Int} (h : VBlk encI 36 w b n f) (j : Nat) (hj : j * 3 + 2 < n) (x y z : Int) :
    VBlk encI 36 (((w.setCell ⟨b, j * 3, none⟩ (.int .i64 x)).setCell ⟨b, j * 3 + 1, none⟩ (.int .i64 y)).setCell ⟨b, j * 3 + 2, none⟩ (.int .i64 z)) b n (fun i => if i / 3 = j then n3 x y z (i % 3) else f i) :=
  (((h.set (j * 3) (by omega) x).set (j * 3 + 1) (by omega) y).set (j * 3 + 2) (by omega) z).congr fun i hi => by
    unfold upd n3
    by_cases e : i / 3 = j
    · rw [if_pos e]
      have : i % 3 = 0 ∨ i % 3 = 1 ∨ i % 3 = 2 := by omega
      rcases this with e2 | e2 | e2
      · rw [if_neg (by omega), if_neg (by omega), if_pos (by omega), if_pos e2]
      · rw [if_neg (by omega), if_pos (by omega), if_neg (by omega), if_pos e2]
      · rw [if_pos (by omega), if_neg (by omega), if_neg (by omega)]
    · rw [if_neg e, if_neg (by omega), if_neg (by omega), if_neg (by omega)]
theorem OwnB.cells {w : World} {g : Nat} {l : List S36} (h : OwnB w g l) (j : Nat) (hj : j < l.length) : w.cell? ⟨g, j * 3, none⟩ = some (.int .i64 l[j]!.f0) ∧ w.cell? ⟨g, j * 3 + 1, none⟩ = some (.int .i64 l[j]!.f1) ∧ w.cell? ⟨g, j * 3 + 2, none⟩ = some (.int .i64 l[j]!.f2) := by
  have h0 := h.cell (j * 3) (by omega)
  have h1 := h.cell (j * 3 + 1) (by omega)
  have h2 := h.cell (j * 3 + 2) (by omega)
  unfold markF encI at h0 h1 h2
  rw [if_pos (by omega), show j * 3 / 3 = j by omega, show j * 3 % 3 = 0 by omega] at h0
  rw [if_pos (by omega), show (j * 3 + 1) / 3 = j by omega, show (j * 3 + 1) % 3 = 1 by omega] at h1
  rw [if_pos (by omega), show (j * 3 + 2) / 3 = j by omega, show (j * 3 + 2) % 3 = 2 by omega] at h2
  exact ⟨h0, h1, h2⟩
theorem OwnB.mark {w : World} {g : Nat} {l : List S36} (h : OwnB w g l) : w.cell? ⟨g, l.length * 3, none⟩ = some (.int .i64 7) ∧ w.cell? ⟨g, l.length * 3 + 1, none⟩ = some (.int .i64 7) ∧ w.cell? ⟨g, l.length * 3 + 2, none⟩ = some (.int .i64 77) := by
  have h0 := h.cell (l.length * 3) (by omega)
  have h1 := h.cell (l.length * 3 + 1) (by omega)
  have h2 := h.cell (l.length * 3 + 2) (by omega)
  unfold markF encI at h0 h1 h2
  rw [if_neg (by omega), show l.length * 3 % 3 = 0 by omega] at h0
  rw [if_neg (by omega), show (l.length * 3 + 1) % 3 = 1 by omega] at h1
  rw [if_neg (by omega), show (l.length * 3 + 2) % 3 = 2 by omega] at h2
  exact ⟨h0, h1, h2⟩
theorem OwnB.C {w : World} {g : Nat} {l : List S36} (h : OwnB w g l) (hl : l.length ≤ 1000000) : Kd.C k36 w (some ⟨g, 0, none⟩) l.length l := by
  refine ⟨rfl, by omega, fun _ => ⟨_, rfl, fun j v hj => ⟨[.int .i64 v.f0, .int .i64 v.f1, .int .i64 v.f2], rfl, k36_mk _ _, fun i u hi => ?_⟩⟩⟩
  obtain ⟨hjl, e⟩ := List.getElem?_eq_some_iff.1 hj
  have e2 : l[j]! = v := by rw [getElem!_pos l j hjl, e]
  obtain ⟨h0, h1, h2⟩ := h.cells j hjl
  rw [e2] at h0 h1 h2
  show w.cell? (Addr.add ⟨g, 0, none⟩ (j * 3 + i)) = some u
  have ea : Addr.add ⟨g, 0, none⟩ (j * 3 + i) = ⟨g, j * 3 + i, none⟩ := by simp [Addr.add]; omega
  rw [ea]
  match i, hi with
  | 0, hi => rw [← hi]; exact h0
  | 1, hi => rw [← hi]; exact h1
  | 2, hi => rw [← hi]; exact h2
theorem OwnB.below {w w' : World} {g : Nat} {l : List S36} (h : OwnB w g l) (hb : Below w.heap.size w w') : OwnB w' g l := h.of_heap (hb.block _ h.lt)
set_option maxRecDepth 100000 in
set_option maxHeartbeats 4000000 in
theorem own_any (w : World) (A : Option Addr) (c : Nat) (l : List S36) (hC : Kd.C k36 w A l.length l) (hl : l.length ≤ 1000) :
    Calls Try.prog 34 #[.slice A l.length c] w fun e w' => e = .returned (.slice (some ⟨w.heap.size, 0, none⟩) l.length (l.length + 1)) ∧ OwnB w' w.heap.size l ∧ Below w.heap.size w w' := by
  have hu36 := Try.underlying36
  have hm := mkG (l.length + 1) (by omega)
  have HC := Hd.mk (fun W (hb : Below w.heap.size w W) => Kd.C_below hC hb)
  have hcast : ((l.length + 1 : Nat) : Int) = (l.length : Int) + 1 := by omega
  rw [hcast] at hm
  have HL := Hd.mk hl
  clear hC hcast
  go_enter Try.func34, Try.ntmps34
  go_wp2_with fail
  go_loopg [4] l.length (fun gg v4 wr => ∃ k : Nat, v4 = .int .i64 k ∧ k ≤ l.length ∧ l.length - k ≤ gg ∧ Hd (Below w.heap.size w wr) ∧ Hd (VBlk encI 36 wr w.heap.size ((l.length + 1) * 3) (ownF l k)))
  case atStart =>
    refine ⟨0, rfl, Nat.zero_le _, by omega, ⟨(Below.refl _ w).alloc (Nat.le_refl _) _⟩, ⟨(VBlk.made3 (blk_new w _)).congr fun j _ => ?_⟩⟩
    unfold ownF; rw [if_neg (by omega)]
  case round =>
    obtain ⟨k, rfl, hk, hg, BW, VB⟩ := hrel
    by_cases hlt : k < l.length
    · have hltz : (k : Int) < (l.length : Int) := by omega
      have hltz2 : (k : Int) < (l.length : Int) + 1 := by omega
      obtain ⟨ad, rfl, x0, x1, x2⟩ := at_T36 (HC.out _ BW.out) (k : Int) (by omega) hltz
      rw [getB, Int.toNat_natCast] at x0 x1 x2
      have g0 := VB.out.cell (k * 3) (by omega)
      have g1 := VB.out.cell (k * 3 + 1) (by omega)
      have g2 := VB.out.cell (k * 3 + 2) (by omega)
      have f0 := VB.out.frozen (k * 3)
      have f1 := VB.out.frozen (k * 3 + 1)
      have f2 := VB.out.frozen (k * 3 + 2)
      have nx := VB.out.set3 k (by omega) l[k]!.f0 l[k]!.f1 l[k]!.f2
      have NX := Hd.mk (nx.congr (g := ownF l (k + 1)) fun i hi => by
        unfold ownF
        by_cases e : i / 3 = k
        · subst e; rw [if_pos rfl, if_pos (by omega)]
        · rw [if_neg e]
          by_cases e2 : i / 3 < k
          · rw [if_pos e2, if_pos (by omega)]
          · rw [if_neg e2, if_neg (by omega)])
      have NB := Hd.mk (bel_set (bel_set (bel_set BW.out (Nat.le_refl _) (k * 3) (.int .i64 l[k]!.f0)) (Nat.le_refl _) (k * 3 + 1) (.int .i64 l[k]!.f1)) (Nat.le_refl _) (k * 3 + 2) (.int .i64 l[k]!.f2))
      clear nx
      unfold encI at g0 g1 g2
      generalize l[k]! = x at *
      generalize ownF l k (k * 3) = z0 at g0
      generalize ownF l k (k * 3 + 1) = z1 at g1
      generalize ownF l k (k * 3 + 2) = z2 at g2
      go_wp2_with fail
      go_roundg (l.length - (k + 1))
      case measure => omega
      case rel => exact ⟨k + 1, by go_num, by omega, by omega, NB, NX⟩
    · have hltz : ¬ (k : Int) < (l.length : Int) := by omega
      obtain rfl : k = l.length := by omega
      have hl2 : (l.length : Int) < (l.length : Int) + 1 := by omega
      have hl3 : (l.length : Int) ≤ (l.length : Int) + 1 := by omega
      have g0 := VB.out.cell (l.length * 3) (by omega)
      have g1 := VB.out.cell (l.length * 3 + 1) (by omega)
      have g2 := VB.out.cell (l.length * 3 + 2) (by omega)
      have f0 := VB.out.frozen (l.length * 3)
      have f1 := VB.out.frozen (l.length * 3 + 1)
      have f2 := VB.out.frozen (l.length * 3 + 2)
      have nx := VB.out.set3 l.length (by omega) 7 7 77
      have NX := Hd.mk (nx.congr (g := markF l) fun i hi => by
        unfold ownF markF
        by_cases e : i / 3 = l.length
        · rw [if_pos e, if_neg (by omega)]
        · rw [if_neg e, if_pos (by omega), if_pos (by omega)])
      have NB := Hd.mk (bel_set (bel_set (bel_set BW.out (Nat.le_refl _) (l.length * 3) (.int .i64 7)) (Nat.le_refl _) (l.length * 3 + 1) (.int .i64 7)) (Nat.le_refl _) (l.length * 3 + 2) (.int .i64 77))
      clear nx
      unfold encI at g0 g1 g2
      generalize ownF l l.length (l.length * 3) = z0 at g0
      generalize ownF l l.length (l.length * 3 + 1) = z1 at g1
      generalize ownF l l.length (l.length * 3 + 2) = z2 at g2
      go_wp2_with fail
      go_ret
      exact ⟨rfl, NX.out, NB.out⟩
set_option maxRecDepth 100000 in
set_option maxHeartbeats 4000000 in
theorem kept_any (w : World) (g : Nat) (A : Option Addr) (c : Nat) (l : List S36) (hO : OwnB w g l) (hC : Kd.C k36 w A l.length l) (hl : l.length ≤ 1000) (hc : l.length ≤ c) (k : Nat) (hk : kimberlitelaw02_alike.f k l l = some true) :
    Calls Try.prog 40 #[.slice (some ⟨g, 0, none⟩) l.length (l.length + 1), .slice A l.length c] w fun e w' => e = .returned (.bool true) ∧ Below w.heap.size w w' := by
  have hu36 := Try.underlying36
  obtain ⟨m0, m1, m2⟩ := hO.mark
  have hcall := fun W (hb : Below w.heap.size w W) => kimberlitelaw02_alike.calls k _ (l.length + 1) l A c l true W (Kd.C_below (hO.C (by omega)) hb) (by omega) (Kd.C_below hC hb) hc hk
  have HCALL := Hd.mk hcall
  have h1 : (l.length : Int) < (l.length : Int) + 1 := by omega
  clear hO hC hcall hk
  go_enter Try.func40, Try.ntmps40
  go_wp2_with (first | (go_at_call 37; refine (HCALL.out _ (Below.refl _ _)).mono ?_; rintro e w' ⟨rfl, n, rfl⟩))
  go_ret
  exact ⟨rfl, bel_drewN' w n⟩
end Go.Proofs.Ytnbdfmdjedakcaa
