import Derived.Test.YthhgdndjnflklaaG6
namespace Go.Proofs.Ythhgdndjnflklaa
open Go.RowKit
set_option linter.unusedVariables false
set_option linter.unusedSimpArgs false

theorem augS_le {n : Nat} {pa : Nat → Int} : ∀ (k v : Nat) (M M' : Nat → Nat), augS n pa k v M = some M' → (∀ u, u < n → M u ≤ n) → ∀ u, u < n → M' u ≤ n
  | 0, _, _, _, h, _ => by simp [augS] at h
  | k + 1, v, M, M', h, hle => by
    simp only [augS] at h
    split at h
    case isFalse => exact absurd h (by simp)
    rename_i hq
    have h2 : ∀ u, u < n → (upd (upd M v (pa v).toNat) (pa v).toNat v) u ≤ n := by
      intro u hu
      unfold upd
      split
      · omega
      · split
        · omega
        · exact hle u hu
    split at h
    · obtain rfl := Option.some.inj h
      exact h2
    · exact augS_le k _ _ _ h h2
theorem grownS_le {n k root : Nat} {nx : Nat → Nat → Bool} {M M' : Nat → Nat} (h : grownS n M nx k root = some (some M')) (hle : ∀ u, u < n → M u ≤ n) : ∀ u, u < n → M' u ≤ n := by
  obtain ⟨r, _, h2⟩ := Option.bind_eq_some_iff.1 h
  split at h2
  · exact absurd h2 (by simp)
  · obtain ⟨M1, ha, hb⟩ := Option.map_eq_some_iff.1 h2
    obtain rfl := Option.some.inj hb
    exact augS_le _ _ _ _ ha hle

/-- most's second loop. -/
def mostL (n : Nat) (nx : Nat → Nat → Bool) (k : Nat) : Nat → Nat → (Nat → Nat) → Option (Nat → Nat)
  | 0, _, M => some M
  | d + 1, i, M =>
    if M i < n then mostL n nx k d (i + 1) M
    else (grownS n M nx k i).bind fun r => mostL n nx k d (i + 1) (r.getD M)
def mostS (n : Nat) (nx : Nat → Nat → Bool) (k : Nat) : Option (Nat → Nat) := mostL n nx k n 0 (fun _ => n)

theorem NRow_made (w : World) (n : Nat) (hn : n ≤ 1000) : NRow (w.alloc (.cells (madeCells #[.int .i64 0] n) 3)) w.heap.size n n (fun _ => 0) := by
  refine ⟨_, alloc_new w _, by simp [madeCells], Nat.le_refl _, by unfold maxLen; omega, fun j hj => ?_⟩
  simp [madeCells, hj, Nat.mod_one]

set_option maxHeartbeats 4000000 in
theorem most_any (w : World) (gb n k : Nat) (nx : Nat → Nat → Bool) (M' : Nat → Nat) (hG : GBlk w gb n nx) (hr : mostS n nx k = some M') :
    Calls Try.prog 36 #[.pointer (some ⟨gb, 0, none⟩)] w fun e w' => ∃ b cap', e = .returned (.slice (some ⟨b, 0, none⟩) n cap') ∧ (NRow w' b n cap' M' ∧ w.heap.size ≤ b ∧ Below w.heap.size w w') := by
  have hn := hG.le
  have HG := Hd.mk hG
  have HR := Hd.mk hr
  have hgn := hG.num
  have hmk := run_make_row' (P := Try.prog) 25 3 (.int .i64 0) 8 Try.underlying25 tinfo3 rfl .i64 .i64 n (by omega) (by omega)
  clear hG hr
  go_enter Try.func36, Try.ntmps36
  go_wp2_with fail
  have HN0 := Hd.mk (NRow_made w n (by omega))
  have HB0 := Hd.mk ((Below.refl w.heap.size w).alloc (Nat.le_refl _) (.cells (madeCells #[.int .i64 0] n) 3))
  have HG0 := Hd.mk (HG.out.of_heap (alloc_old w (.cells (madeCells #[.int .i64 0] n) 3) _ HG.out.lt))
  have hgb : gb < w.heap.size := HG.out.lt
  generalize w.alloc (.cells (madeCells #[.int .i64 0] n) 3) = w0 at HN0 HB0 HG0 ⊢
  obtain ⟨b, hbe⟩ : ∃ b, b = w.heap.size := ⟨_, rfl⟩
  rw [← hbe] at HN0 ⊢
  have hb : w.heap.size ≤ b := by omega
  have hgb2 : gb ≠ b := by omega
  clear hmk hbe HG hgn hgb
  go_loopg [15] n (fun kq v15 wr => ∃ (i : Nat) (f : Nat → Nat), v15 = .int .i64 i ∧ Hd (i + kq = n) ∧ Hd (∀ j, j < i → f j = n) ∧ Hd (NRow wr b n n f) ∧ Hd (GBlk wr gb n nx) ∧ Hd (Below w.heap.size w wr))
  case atStart => exact ⟨0, _, rfl, ⟨by omega⟩, ⟨fun j hj => absurd hj (by omega)⟩, HN0, HG0, HB0⟩
  case round =>
    obtain ⟨i, f, rfl, HK, HX, HN, HG, HB⟩ := hrel
    clear HN0 HB0 HG0
    cases gk with
    | zero =>
      have hi := HK.out
      have hlt : ¬ (i : Int) < n := by omega
      have HN1 := Hd.mk (HN.out.congr (g := fun _ => n) (fun j hj => HX.out j (by omega)))
      clear hi HN HX
      go_upto_region 8 with (fail)
      go_loopg [3, 28] n (fun kq v3 v28 wq => ∃ (i : Nat) (N : Nat → Nat) (b cap : Nat), v3 = .slice (some ⟨b, 0, none⟩) n cap ∧ v28 = .int .i64 i ∧ Hd (i + kq = n) ∧ Hd (mostL n nx k kq i N = some M') ∧ Hd (∀ u, u < n → N u ≤ n) ∧
        Hd (w.heap.size ≤ b) ∧ Hd (NRow wq b n cap N) ∧ Hd (GBlk wq gb n nx) ∧ Hd (Below w.heap.size w wq))
      case atStart => exact ⟨0, _, b, n, rfl, rfl, ⟨by omega⟩, HR, ⟨fun _ _ => Nat.le_refl _⟩, ⟨hb⟩, HN1, HG, HB⟩
      case round =>
        obtain ⟨i, N, b, cap, rfl, rfl, HK, HX, HL, Hb, HN, HG, HB⟩ := hrel
        clear HR HN1
        cases gk with
        | zero =>
          have hi := HK.out
          have hlt : ¬ (i : Int) < n := by omega
          have hx := Option.some.inj (show some N = some M' from HX.out)
          subst hx
          clear hi HX
          go_wp2_with fail
          go_ret
          exact ⟨b, cap, rfl, HN.out, Hb.out, HB.out⟩
        | succ k1 =>
          have hi := HK.out
          have hlt : (i : Int) < n := by omega
          have hlt' : i < n := by omega
          have i1 : (0 : Int) ≤ i := by omega
          have hgn := HG.out.num
          have ci := HN.out.blk.cell i hlt'
          have hx := HX.out
          have hle := HL.out i hlt'
          clear hi HX
          simp only [mostL] at hx
          by_cases hs : N i < n
          · rw [if_pos hs] at hx
            have HX := Hd.mk hx
            have bs : decide (N i < n) = true := by simp; omega
            have HS := Hd.mk hs
            clear hx hs hle
            go_wp2_with fail
            go_quiet (fail)
            go_wp2_with fail
            go_roundg k1
            case measure => omega
            case rel => exact ⟨i + 1, N, b, cap, rfl, by go_num, ⟨by have := HK.out; omega⟩, HX, HL, Hb, ⟨HN.out.of_heap rfl⟩, ⟨HG.out.of_heap rfl⟩, ⟨bel_drewN HB.out _⟩⟩
          · rw [if_neg hs] at hx
            obtain ⟨r, hg, hx2⟩ := Option.bind_eq_some_iff.1 hx
            have bs : decide (N i < n) = false := by simp; omega
            have HG3 := Hd.mk hg
            have HX := Hd.mk hx2
            clear hx hs hg hx2 hle
            cases r with
            | none =>
              go_wp2_with fail
              go_quiet (fail)
              go_wp2_with fail
              refine (grown_no _ gb i k n cap (some ⟨b, 0, none⟩) nx N (by exact HG.out.of_heap rfl) HL.out (by exact (HN.out.of_heap rfl).rd) hlt' HG3.out).mono ?_
              rintro e w5 ⟨rfl, g1⟩
              have HN5 := Hd.mk (HN.out.of_heap (w' := w5) (g1.block _ HN.out.lt))
              have HG5 := Hd.mk (HG.out.of_heap (w' := w5) (g1.block _ HG.out.lt))
              have HB5 := Hd.mk ((bel_drewN HB.out _).trans (g1.mono HB.out.size))
              clear g1 HN HG HB hgn ci
              go_wp2_with fail
              go_roundg k1
              case measure => omega
              case rel => exact ⟨i + 1, N, b, cap, rfl, by go_num, ⟨by have := HK.out; omega⟩, HX, HL, Hb, HN5, HG5, HB5⟩
            | some M2 =>
              go_wp2_with fail
              go_quiet (fail)
              go_wp2_with fail
              refine (grown_yes _ gb i k n cap (some ⟨b, 0, none⟩) nx N M2 (by exact HG.out.of_heap rfl) HL.out (by exact (HN.out.of_heap rfl).rd) hlt' HG3.out).mono ?_
              rintro e w5 ⟨b5, cap5, rfl, g1, g2, g3⟩
              have HG5 := Hd.mk (HG.out.of_heap (w' := w5) (g3.block _ HG.out.lt))
              have HB5 := Hd.mk ((bel_drewN HB.out _).trans (g3.mono HB.out.size))
              have HN5 := Hd.mk g1
              have Hb5 := Hd.mk (Nat.le_trans HB.out.size g2)
              clear g1 g2 g3 HN HG HB hgn ci
              go_wp2_with fail
              go_roundg k1
              case measure => omega
              case rel => exact ⟨i + 1, M2, b5, cap5, rfl, by go_num, ⟨by have := HK.out; omega⟩, HX, ⟨grownS_le HG3.out HL.out⟩, Hb5, HN5, HG5, HB5⟩
    | succ k1 =>
      have hi := HK.out
      have hlt : (i : Int) < n := by omega
      have hlt' : i < n := by omega
      have hgn := HG.out.num
      have ci := HN.out.blk.cell i hlt'
      have fi := HN.out.blk.frozen i
      have HN2 := Hd.mk (HN.out.set i hlt' n)
      have HG2 := Hd.mk (HG.out.of_heap (w' := wr.setCell ⟨b, i, none⟩ (.int .i64 n)) (heap_set_ne _ _ _ _ _ hgb2))
      have HB2 := Hd.mk (bel_set HB.out hb i (.int .i64 n))
      clear hi HN HG HB
      go_wp2_with fail
      go_roundg k1
      case measure => omega
      case rel => exact ⟨i + 1, _, by go_num, ⟨by have := HK.out; omega⟩, ⟨fun j hj => by
          unfold upd
          split
          · rfl
          · exact HX.out j (by omega)⟩, HN2, HG2, HB2⟩
end Go.Proofs.Ythhgdndjnflklaa
