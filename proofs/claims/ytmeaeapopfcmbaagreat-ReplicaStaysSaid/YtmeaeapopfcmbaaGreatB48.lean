/- begun: a group of offices. No conditions. -/
import Derived.Test.YtmeaeapopfcmbaaGreatB47
import Derived.Deep.RegionLaw
import Derived.Deep.AppendLies
namespace Go.Proofs.YtmeaeapopfcmbaaGreat
open Go.RowKit Go.Proofs.YtmeaeapopfcmbaaGreatW.PrintWords Go.Proofs.YtmeaeapopfcmbaaGreatW.PrintLast Go.Proofs.YtmeaeapopfcmbaaGreatW.PrintMore PP
set_option linter.unusedVariables false
set_option linter.unusedSimpArgs false
set_option maxHeartbeats 4000000
set_option maxRecDepth 100000
theorem conv8 {y : Int} (h : 0 ≤ y ∧ y < 256) (W : World) : (convert 5 3 (.int .u8 y)).run Tryz.prog W = .ok (.int .i64 y) W := by
  have h1 := run_convert_int (P := Tryz.prog) W 5 3 .u8 y (by kernel_rfl) (by kernel_rfl)
  rw [h1]
  have e : Tryz.prog.intKind 3 = .i64 := by kernel_rfl
  rw [e]
  have : IntKind.i64.wrap y = y := by simp [IntKind.wrap, IntKind.bits, IntKind.signed]; omega
  rw [this]
/-- A group of n offices with all that they ever had. -/
def Grp (w0 w : World) (g n : Nat) (r : Nat → Nat) (S : Nat → S28) (H : List S28) (md tk : List Int) : Prop := ∃ F lv hv, GrpX w0 w g n r S F ((List.range n).map r) H md tk lv hv
theorem GrpX.okl {w0 w : World} {g n : Nat} {r : Nat → Nat} {S : Nat → S28} {F : Nat → Nat → Prop} {L : List Nat} {H : List S28} {md tk : List Int} {lv hv : Value} (h : GrpX w0 w g n r S F L H md tk lv hv) : ∀ k, w.heap.size ≤ k → some k ≠ lv.ownBlock := by
  intro k hk e
  obtain ⟨inner, ho⟩ := Kd.R_own h.l
  have := own_lt ho k e.symm
  omega
theorem grp_step {w0 w : World} {g i q : Nat} {r : Nat → Nat} {F : Nat → Nat → Prop} {L : List Nat} {H : List S28} {md tk : List Int} {lv hv : Value} (hL : L = (List.range i).map r) (hH : H = List.replicate i emptyS) (h : GrpX w0 w g (i + 1) (updN r i q) (updN (fun _ => emptyS) i emptyS) F (L ++ [q]) (H ++ [emptyS]) md tk lv hv) : GrpX w0 w g (i + 1) (updN r i q) (fun _ => emptyS) F ((List.range (i + 1)).map (updN r i q)) (List.replicate (i + 1) emptyS) md tk lv hv := by
  have e1 : updN (fun _ : Nat => emptyS) i emptyS = fun _ => emptyS := by funext j; unfold updN; split <;> rfl
  have e2 : L ++ [q] = (List.range (i + 1)).map (updN r i q) := by
    rw [List.range_succ, List.map_append, hL]
    congr 1
    · refine List.map_congr_left fun j hj => ?_
      have := List.mem_range.1 hj
      unfold updN
      rw [if_neg (by omega)]
    · simp [updN]
  have e3 : H ++ [emptyS] = List.replicate (i + 1) emptyS := by rw [hH, List.replicate_succ']
  rw [e1, e2, e3] at h
  exact h
theorem begun_run (w : World) (n : Nat) (hn : n < 256) : Calls Tryz.prog 30 #[.int .u8 n] w fun e w' => ∃ g r, e = .returned (.tuple #[.pointer (some ⟨g, 0, none⟩), .bool true]) ∧ Grp w w' g (2 + n % 4) r (fun _ => emptyS) (List.replicate (2 + n % 4) emptyS) zeros8 zeros8 := by
  obtain ⟨wB, hwB⟩ : ∃ wB, wB = w.alloc (.cells (gC (.slice none 0 0) (.slice none 0 0) zeros8 zeros8) 66) := ⟨_, rfl⟩
  have G0 := Hd.mk (grp_new hwB)
  have cv : ∀ W, (convert 5 3 (.int .u8 ((n : Int) % 4))).run Tryz.prog W = .ok (.int .i64 ((n : Int) % 4)) W := fun W => conv8 (by omega) W
  have HW := Hd.mk (show wB = w.alloc (.cells #[.slice none 0 0, .slice none 0 0, .int .i64 0, .int .i64 0, .int .i64 0, .int .i64 0, .int .i64 0, .int .i64 0, .int .i64 0, .int .i64 0, .int .i64 0, .int .i64 0, .int .i64 0, .int .i64 0, .int .i64 0, .int .i64 0, .int .i64 0, .int .i64 0] 66) from hwB)
  have HN := Hd.mk hn
  clear hwB hn
  go_enter Tryz.func30, Tryz.ntmps30
  go_wp2_with fail
  rw [← HW.out]
  go_loopg [5, 6, 7] (2 + n % 4) (fun gg v5 v6 v7 wq => ∃ (i : Nat) (r : Nat → Nat), v5 = .int .i64 i ∧ i + gg = 2 + n % 4 ∧ Hd (Grp w wq w.heap.size i r (fun _ => emptyS) (List.replicate i emptyS) zeros8 zeros8))
  case atStart => exact ⟨0, fun _ => 0, rfl, by omega, ⟨⟨_, _, _, G0.out⟩⟩⟩
  case round =>
    clear G0 HW
    obtain ⟨i, r, rfl, hi, GQ⟩ := hrel
    by_cases hlt : i < 2 + n % 4
    · have hz : ((i : Int) < 2 + (n : Int) % 4) := by omega
      obtain ⟨F, lv, hv, gx⟩ := GQ.out
      obtain ⟨L, hL⟩ : ∃ L, L = (List.range i).map r := ⟨_, rfl⟩
      obtain ⟨H, hH⟩ : ∃ H, H = List.replicate i emptyS := ⟨_, rfl⟩
      rw [← hL, ← hH] at gx
      have LL := Hd.mk hL
      have LH := Hd.mk hH
      have NL := Hd.mk (show L.length = i by rw [hL, List.length_map, List.length_range])
      have NH := Hd.mk (show H.length = i by rw [hH, List.length_replicate])
      obtain ⟨Al, cl, rfl⟩ := Kd.R_slice gx.l
      obtain ⟨Ah, ch, rfl⟩ := Kd.R_slice gx.h
      have GX := Hd.mk gx
      clear gx GQ hL hH
      have NW := Hd.mk (new_F wr (i : Int) (inR_iff.2 ⟨by omega, by omega⟩))
      go_wp2_with fail
      refine NW.out.mono ?_
      rintro e w1 ⟨q, rfl, hq, hb⟩
      have G1 := Hd.mk (GX.out.more hb hq)
      clear hq hb GX NW
      have q0 : w1.cell? ⟨w.heap.size, 0, none⟩ = some (.slice Al L.length cl) := cell_of G1.out.blk 0 rfl
      go_wp2_with (((with_reducible refine gate_builtin (b := .append) (xs := #[.tmp 33, .tmp 35]) rfl ?_); at_builtin; refine Kd.R_append kP (w0 := w) (W := w1) w.heap.size rfl (.tmp 33) (.tmp 35) 62 32 (.pointer none) 8 rfl Tryz.underlying62 info32 rfl (by decide) (by omega) _ _ q [.pointer (some ⟨q, 0, none⟩)] (fun x => (∀ j, j < i + 1 → ¬ updN F i (fun i => wr.heap.size ≤ i ∧ i < w1.heap.size) j x) ∧ some x ≠ (Value.slice Ah H.length ch).ownBlock) (fun _ => False) rfl (by first | rfl | (simp; rfl)) ?aP (fun _ hk => hk.elim) G1.out.okp G1.out.hl G1.out.base ?aS ?aL ?_; (case aP => rfl); (case aS => exact G1.out.base.size); (case aL => have := NL.out; omega); intro v2 w6 ho hb hg2 hat; obtain ⟨A2, c2, rfl⟩ := Kd.R_slice ho; obtain ⟨w7, hw7⟩ : ∃ w7, w7 = w6.setCell ⟨w.heap.size, 0, none⟩ (.slice A2 (L ++ [q]).length c2) := ⟨_, rfl⟩; have b6 := (hg2.block _ G1.out.lt G1.out.gl).trans G1.out.blk; have z6 := frozen_of b6 0 none; have c6 : w6.cell? ⟨w.heap.size, 0, none⟩ = some (.slice Al L.length cl) := cell_of b6 0 rfl; have G2 := Hd.mk (hw7 ▸ G1.out.setL hg2 (Kd.R_mono ho fun k hk => hk.1)); have W7 := Hd.mk hw7; clear ho hb hg2 hat b6 hw7))
      simp only [List.length_append, List.length_singleton] at G2 W7
      rw [← W7.out]
      have ST := (RepF.below (G2.out.many.rep i (by omega)) (Below.drew (Below.refl _ _))).state
      simp only [updN, if_true] at ST
      have ST := Hd.mk ST
      have q1 : w7.cell? ⟨w.heap.size, 1, none⟩ = some (.slice Ah H.length ch) := cell_of G2.out.blk 1 rfl
      clear W7 z6 q0 c6
      refine start_ (n := 12) (S := fun w' => w'.cell? ⟨w.heap.size, 1, none⟩ = some (.slice Ah H.length ch)) (ds := [11]) #[false, false, false, false, false, false, false, false, false, false, false, false] (by kernel_rfl) rfl rfl (cell_of (G2.out.below (Below.drew (Below.refl _ _))).blk 1 rfl) (fun hHeld => ?_)
      refine pure_ (i := 0) (N := some 39) (v := ?_) (a' := ?_) #[true, false, false, false, false, false, false, false, false, false, false, false] rfl rfl (by kernel_rfl) (fun _ _ _ h => h) (Or.inl ⟨by rfl, ?_⟩) ?_ ?_
      rotate_left
      · intro w'
        go_simp
        with_reducible rfl
      rotate_left
      · simp only [Act.put, List.setIfInBounds_toArray, List.set_cons_zero, List.set_cons_succ]
        rfl
      refine pure_ (i := 1) (N := some 40) (v := ?_) (a' := ?_) #[true, true, false, false, false, false, false, false, false, false, false, false] rfl rfl (by kernel_rfl) (fun _ _ _ h => h) (Or.inl ⟨by rfl, ?_⟩) ?_ ?_
      rotate_left
      · intro w'
        go_simp
        with_reducible rfl
      rotate_left
      · simp only [Act.put, List.setIfInBounds_toArray, List.set_cons_zero, List.set_cons_succ]
        rfl
      refine pure_ (i := 2) (N := some 41) (v := ?_) (a' := ?_) #[true, true, true, false, false, false, false, false, false, false, false, false] rfl rfl (by kernel_rfl) (fun _ _ _ h => h) (Or.inl ⟨by rfl, ?_⟩) ?_ ?_
      rotate_left
      · intro w'
        go_simp
        with_reducible rfl
      rotate_left
      · simp only [Act.put, List.setIfInBounds_toArray, List.set_cons_zero, List.set_cons_succ]
        rfl
      refine pure_ (i := 3) (N := some 42) (v := ?_) (a' := ?_) #[true, true, true, true, false, false, false, false, false, false, false, false] rfl rfl (by kernel_rfl) (fun _ _ _ h => h) (Or.inl ⟨by rfl, ?_⟩) ?_ ?_
      rotate_left
      · intro w'
        go_simp
        with_reducible rfl
      rotate_left
      · simp only [Act.put, List.setIfInBounds_toArray, List.set_cons_zero, List.set_cons_succ]
        rfl
      refine take_ (i := 4) (N := some 43) (v := ?_) (a' := ?_) #[true, true, true, true, true, false, false, false, false, false, false, false] rfl rfl (by kernel_rfl) (fun _ _ _ h => h) (Or.inl ⟨by rfl, ?_⟩) hHeld ?_ ?_
      rotate_left
      · rintro w' s0
        go_simp
        with_reducible rfl
      rotate_left
      · simp only [Act.put, List.setIfInBounds_toArray, List.set_cons_zero, List.set_cons_succ]
        rfl
      refine pure_ (i := 5) (N := some 44) (v := ?_) (a' := ?_) #[true, true, true, true, true, true, false, false, false, false, false, false] rfl rfl (by kernel_rfl) (fun _ _ _ h => h) (Or.inl ⟨by rfl, ?_⟩) ?_ ?_
      rotate_left
      · intro w'
        go_simp
        with_reducible rfl
      rotate_left
      · simp only [Act.put, List.setIfInBounds_toArray, List.set_cons_zero, List.set_cons_succ]
        rfl
      refine one_ (i := 6) (N := some 45) #[true, true, true, true, true, true, true, false, false, false, false, false] rfl rfl (by kernel_rfl) (by decide) (fun K hK => ?_)
      refine goes_ Tryz.func24 (by kernel_rfl) rfl #[.pointer (some ⟨q, 0, none⟩)] (by rfl) rfl rfl (by simp only [List.map_toArray, List.map_cons, List.map_nil]; rfl) ?_
      with_reducible refine ST.out.mono ?_
      rintro e w10 ⟨v0, v1, v2, v3, v4, rfl, hs, hb⟩
      refine ⟨_, rfl, ?_⟩
      have G3 := Hd.mk (G2.out.below ((Below.drew (Below.refl _ _)).trans (hb.mono (Nat.le_refl _))))
      have RS := Hd.mk hs
      have B73 := Hd.mk (show w7.heap.size ≤ w10.heap.size from hb.size)
      clear hs hb ST
      refine hK.out _ _ (cell_of G3.out.blk 1 rfl) (fun hHeld => ?_)
      clear hK K
      refine norm_ (a' := ?_) ?_ ?_
      rotate_left
      · show Act.put _ (some 45) _ = _
        simp only [Act.put, List.setIfInBounds_toArray, List.set_cons_zero, List.set_cons_succ]
        rfl
      refine one_ (i := 7) (N := some 46) #[true, true, true, true, true, true, true, true, false, false, false, false] rfl rfl (by kernel_rfl) (by decide) (fun K hK => ?_)
      go_simp
      refine hK.out _ _ (cell_of (G3.out.below (below_alloc (Below.refl _ _) _)).blk 1 rfl) (fun hHeld => ?_)
      clear hK K
      refine one_ (i := 8) (N := some 47) #[true, true, true, true, true, true, true, true, true, false, false, false] rfl rfl (by kernel_rfl) (by decide) (fun K hK => ?_)
      have G4 := Hd.mk (G3.out.below (below_alloc (Below.refl _ _) (.cells #[v0, v1, v2, v3, v4] 28)))
      have S73 := Hd.mk (show w7.heap.size ≤ (w10.alloc (.cells #[v0, v1, v2, v3, v4] 28)).heap.size from Nat.le_trans B73.out (by simp))
      have HI := Hd.mk (show i < 5 by omega)
      refine step_R_append k28 (W := w10.alloc (.cells #[v0, v1, v2, v3, v4] 28)) w.heap.size rfl (.tmp 43) (.tmp 46) 63 28 (.agg #[.slice none 0 0, .slice none 0 0, .slice none 0 0, .slice none 0 0, .slice none 0 0]) 120 rfl Tryz.underlying63 info28 rfl (by decide) (by omega) (.slice Ah H.length ch) H emptyS [v0, v1, v2, v3, v4] w10.heap.size (fun x => (∀ j, j < i + 1 → ¬ updN F i (fun i => wr.heap.size ≤ i ∧ i < w1.heap.size) j x) ∧ some x ≠ (Value.slice A2 (L.length + 1) c2).ownBlock) (fun k => w7.heap.size ≤ k) rfl (by first | rfl | (simp; rfl)) (alloc_at _ _ _ rfl) ?aP ?aO ?aF ?aR ?aS ?aL ?_
      case aP => exact (RS.out.below (below_alloc (Below.refl _ _) _)).m G2.out.base.size
      case aO => exact fun k hk => ⟨⟨(G2.out.okp k hk).1, G2.out.okl k hk⟩, (G2.out.okp k hk).2⟩
      case aF => exact fun k hk => ⟨(G2.out.okp k (Nat.le_trans S73.out hk)).1, G2.out.okl k (Nat.le_trans S73.out hk)⟩
      case aR => exact G4.out.lh
      case aS => exact G4.out.base.size
      case aL => have h1 := NH.out; have h2 := HI.out; omega
      intro g8 cap8 w8 hR8 hg8 hat8 hlt8
      have RH := Hd.mk hR8
      have GH := Hd.mk hg8
      have b8 := (hg8.block _ G4.out.lt G4.out.gh).trans G4.out.blk
      have z8 := frozen_of b8 1 none
      clear hR8 hg8 hat8 hlt8
      refine hK.out _ _ (cell_of b8 1 rfl) (fun hHeld => ?_)
      clear b8
      clear hK K
      refine norm_ (a' := ?_) ?_ ?_
      rotate_left
      · show Act.put _ (some 47) _ = _
        simp only [Act.put, List.setIfInBounds_toArray, List.set_cons_zero, List.set_cons_succ]
        rfl
      refine pure_ (i := 9) (N := some 48) (v := ?_) (a' := ?_) #[true, true, true, true, true, true, true, true, true, true, false, false] rfl rfl (by kernel_rfl) (fun _ _ _ h => h) (Or.inl ⟨by rfl, ?_⟩) ?_ ?_
      rotate_left
      · intro w'
        go_simp
        with_reducible rfl
      rotate_left
      · simp only [Act.put, List.setIfInBounds_toArray, List.set_cons_zero, List.set_cons_succ]
        rfl
      refine pure_ (i := 10) (N := some 49) (v := ?_) (a' := ?_) #[true, true, true, true, true, true, true, true, true, true, true, false] rfl rfl (by kernel_rfl) (fun _ _ _ h => h) (Or.inl ⟨by rfl, ?_⟩) ?_ ?_
      rotate_left
      · intro w'
        go_simp
        with_reducible rfl
      rotate_left
      · simp only [Act.put, List.setIfInBounds_toArray, List.set_cons_zero, List.set_cons_succ]
        rfl
      refine last_ (i := 11) (N := none) #[true, true, true, true, true, true, true, true, true, true, true, true] rfl rfl (by kernel_rfl) (by decide) (fun K hK => ?_)
      refine skip_ (w1 := ?_) (by rfl) rfl ?_ ?_
      rotate_left
      · go_simp
        rfl
      refine hK.out _ _ ?_
      clear hK K
      refine done_ (by kernel_rfl) ?_
      have G5 := Hd.mk (G4.out.setH GH.out (Kd.R_mono RH.out fun k hk => hk.1))
      go_wp2_with fail
      go_roundg (2 + n % 4 - (i + 1))
      case measure => omega
      case rel => exact ⟨i + 1, updN r i q, by go_num, by omega, ⟨⟨_, _, _, grp_step LL.out LH.out G5.out⟩⟩⟩
    · have hz : ¬ ((i : Int) < 2 + (n : Int) % 4) := by omega
      obtain rfl : i = 2 + n % 4 := by omega
      go_wp2_with fail
      go_ret2
      exact ⟨_, rfl, r, GQ.out⟩
end Go.Proofs.YtmeaeapopfcmbaaGreat
