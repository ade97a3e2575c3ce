/- reach: the walk. No conditions. -/
import Derived.Test.YtnbdfmdjedakcaaH34
import Derived.Test.YtnbdfmdjedakcaaF5
namespace Go.Proofs.Ytnbdfmdjedakcaa
open Go.RowKit Go.Proofs.YtnbdfmdjedakcaaW.PrintWords Go.Proofs.YtnbdfmdjedakcaaW.PrintLast Go.Proofs.YtnbdfmdjedakcaaW.PrintMore PP
set_option linter.unusedVariables false
set_option linter.unusedSimpArgs false
def NetB (w : World) (nb : Nat) (r : Nat → Nat → Int) : Prop := VBlk encI 119 w nb 676 (fun k => r (k / 26) (k % 26))
structure RcB (w0 : World) (rb fb : Nat) (w : World) (F : Nat → Int) : Prop where
  B : Below w0.heap.size w0 w
  R : VBlk encI 96 w rb 26 (fun _ => 0)
  X : VBlk encI 96 w fb 26 F
  r0 : w0.heap.size ≤ rb
  f0 : w0.heap.size ≤ fb
  rf : rb ≠ fb
def okR (rb fb : Nat) : Nat → Prop := fun k => k ≠ rb ∧ k ≠ fb
theorem reach_start (w : World) : RcB w w.heap.size (newRow w).heap.size (((newRow (newRow w)).setCell ⟨(newRow w).heap.size, 24, none⟩ (.int .i64 25)).alloc (.cells #[Value.int .i64 24] 3)) (upd (fun _ => 0) 24 25) ∧ Kd.Q qI 3 (((newRow (newRow w)).setCell ⟨(newRow w).heap.size, 24, none⟩ (.int .i64 25)).alloc (.cells #[Value.int .i64 24] 3)) w.heap.size (okR w.heap.size (newRow w).heap.size) (.slice (some ⟨(newRow (newRow w)).heap.size, 0, none⟩) 1 1) [24] := by
  have b1 := newRow_bel w
  have h1 := newRow_blk w
  have s1 := newRow_size w
  generalize newRow w = w1 at b1 h1 s1 ⊢
  have b2 := newRow_bel w1
  have h2 := newRow_blk w1
  have s2 := newRow_size w1
  generalize newRow w1 = w2 at b2 h2 s2 ⊢
  have b3 : Below w1.heap.size w1 (w2.setCell ⟨w1.heap.size, 24, none⟩ (.int .i64 25)) := bel_set b2 (Nat.le_refl _) _ _
  have h3 : VBlk encI 96 (w2.setCell ⟨w1.heap.size, 24, none⟩ (.int .i64 25)) w1.heap.size 26 (upd (fun _ => 0) 24 25) := h2.set 24 (by decide) 25
  have s3 : (w2.setCell ⟨w1.heap.size, 24, none⟩ (.int .i64 25)).heap.size = w2.heap.size := size_set _ _ _ _
  generalize w2.setCell ⟨w1.heap.size, 24, none⟩ (.int .i64 25) = w3 at b3 h3 s3 ⊢
  have b4 := (Below.refl w3.heap.size w3).alloc (Nat.le_refl _) (.cells #[Value.int .i64 24] 3)
  have h4 := blk_new w3 (.cells #[Value.int .i64 24] 3)
  generalize w3.alloc (.cells #[Value.int .i64 24] 3) = w4 at b4 h4 ⊢
  rw [s3] at h4
  refine ⟨⟨b1.trans ((b3.trans (b4.mono (by omega))).mono (by omega)), h1.of_heap ((b4.block _ (by omega)).trans (b3.block _ (by omega))), h3.of_heap (b4.block _ (by omega)), Nat.le_refl _, by omega, by omega⟩, ?_⟩
  refine Kd.Q_of_R (Kd.R_of_own (enc := Value.int .i64) ⟨rfl, .inr ⟨_, 1, _, rfl, by omega, h4, Nat.le_refl _, by decide, rfl, rfl⟩⟩ (fun k hk => ?_))
  have : w2.heap.size = k := by simpa [Value.ownBlock] using hk
  exact ⟨by omega, by omega⟩
theorem NetB.row {w : World} {nb : Nat} {r : Nat → Nat → Int} (h : NetB w nb r) (u : Nat) (hu : u < 26) : ∀ j, j < 26 → w.cell? ⟨nb, u * 26 + j, none⟩ = some (encI (r u j)) := fun j hj => by
  rw [VBlk.cell h (u * 26 + j) (by omega)]
  rw [show (u * 26 + j) / 26 = u from by omega, show (u * 26 + j) % 26 = j from by omega]
section
variable {w0 w w' : World} {rb fb : Nat} {F : Nat → Int}
theorem RcB.set (h : RcB w0 rb fb w F) (k : Nat) (hk : k < 26) (x : Int) : RcB w0 rb fb (w.setCell ⟨fb, k, none⟩ (encI x)) (upd F k x) :=
  ⟨bel_set h.B h.f0 _ _, h.R.other h.rf _ _, h.X.set k hk x, h.r0, h.f0, h.rf⟩
theorem RcB.grown (h : RcB w0 rb fb w F) {v : Value} (hv : ∀ k, v.ownBlock = some k → okR rb fb k) (hb : Below w0.heap.size w0 w') (hg : w.grownBy w' v.ownBlock) : RcB w0 rb fb w' F := by
  have q : ∀ k, k < w.heap.size → ¬ okR rb fb k → w'.heap[k]? = w.heap[k]? := fun k hk hn => hg.block k hk (fun e => hn (hv k e.symm))
  exact ⟨hb, h.R.of_heap (q _ h.R.lt (fun z => z.1 rfl)), h.X.of_heap (q _ h.X.lt (fun z => z.2 rfl)), h.r0, h.f0, h.rf⟩
theorem RcB.fresh (h : RcB w0 rb fb w F) (k : Nat) (hk : w.heap.size ≤ k) : okR rb fb k := by
  have a1 := h.R.lt
  have a2 := h.X.lt
  exact ⟨by omega, by omega⟩
end
theorem bf1_len (r : Nat → Nat → Int) (u : Nat) (F : Nat → Int) (q : List Int) : ∀ j, (bf1 r u (F, q) j).2.length ≤ q.length + j
  | 0 => Nat.le_refl _
  | j + 1 => by
    have h := bf1_len r u F q j
    rw [bf1]
    generalize bf1 r u (F, q) j = s at h ⊢
    by_cases e : 0 < r u j ∧ s.1 j = 0
    · rw [if_pos e]; show (s.2 ++ [(j : Int)]).length ≤ _; rw [List.length_append, List.length_singleton]; omega
    · rw [if_neg e]; omega
set_option maxRecDepth 100000 in
set_option maxHeartbeats 4000000 in
theorem reach_any (w : World) (nb : Nat) (r : Nat → Nat → Int) (hN : NetB w nb r) (F : Nat → Int) (hF : bfs 26 r 27 (upd (fun _ => 0) 24 25) [24] = some F) :
    Calls Try.prog 138 #[.pointer (some ⟨nb, 0, none⟩)] w fun e w' => e = .returned (aggI F) ∧ Below w.heap.size w w' := by
  obtain ⟨i3, hi3, _, hs3, _⟩ := info_parts info3
  have HS := Hd.mk (reach_start w)
  have HN := Hd.mk (fun W (hb : Below w.heap.size w W) => (hN.of_heap (hb.block _ hN.lt) : NetB W nb r))
  have HF := Hd.mk hF
  have c0 : (newRow (newRow w)).cell? ⟨(newRow w).heap.size, 24, none⟩ = some (.int .i64 0) := (newRow_blk (newRow w)).cell 24 (by decide)
  have f0 : (newRow (newRow w)).frozen? ⟨(newRow w).heap.size, 24, none⟩ = false := (newRow_blk (newRow w)).frozen 24
  clear hN hF
  go_enter Try.func138, Try.ntmps138
  go_wp2_with (with_reducible refine wpL_alloc rfl rfl ?_)
  have HW := Hd.mk HS.out.1
  have HQ := Hd.mk HS.out.2
  clear HS c0 f0
  generalize (((newRow (newRow w)).setCell ⟨(newRow w).heap.size, 24, none⟩ (.int .i64 25)).alloc (.cells #[Value.int .i64 24] 3)) = w3 at HW HQ ⊢
  generalize (newRow (newRow w)).heap.size = qb at HQ ⊢
  generalize (newRow w).heap.size = fb at HW HQ ⊢
  obtain ⟨rb, hrb⟩ : ∃ rb, rb = w.heap.size := ⟨_, rfl⟩
  rw [← hrb]
  have HW : Hd (RcB w rb fb w3 (upd (fun _ => 0) 24 25)) := ⟨by rw [hrb]; exact HW.out⟩
  have HQ : Hd (Kd.Q qI 3 w3 w.heap.size (okR rb fb) (.slice (some ⟨qb, 0, none⟩) 1 1) [24]) := ⟨by rw [hrb]; exact HQ.out⟩
  clear hrb
  go_loopg [4] 27 (fun gg v4 wr => ∃ (F1 : Nat → Int) (q : List Int), Hd (gg ≤ 27 ∧ bfs 26 r gg F1 q = some F) ∧ Hd (Kd.Q qI 3 wr w.heap.size (okR rb fb) v4 q) ∧ Hd (RcB w rb fb wr F1))
  case atStart => exact ⟨_, _, ⟨Nat.le_refl _, HF.out⟩, HQ, HW⟩
  case round =>
    clear HQ HW HF
    obtain ⟨F1, q, HP, HQ, HW⟩ := hrel
    cases gk with
    | zero => exact absurd HP.out.2 (by simp [bfs])
    | succ g1 =>
      have hp := HP.out.2
      have HG := Hd.mk HP.out.1
      clear HP
      cases q with
      | nil =>
        rw [bfs] at hp
        obtain rfl := Option.some.inj hp
        clear hp
        obtain ⟨A9, c9, rfl, _⟩ := Kd.Q_slice HQ.out
        have HL := Hd.mk (fun j (hj : j < 26) => (by rw [Nat.zero_add]; exact HW.out.X.cell j hj : wr.cell? ⟨fb, 0 + j, none⟩ = some (encI (F1 j))))
        have HR := Hd.mk HW.out.R
        have HE := Hd.mk (putRow_blk HW.out.R F1)
        have HB := Hd.mk (putRow_bel HW.out.B HW.out.r0 F1)
        clear HQ HW
        go_wp2_with (first | (with_reducible refine wpL_load rfl _ rfl fb 0 rfl F1 HL.out ?_) | (with_reducible refine wpL_store rfl _ _ rfl rb _ F1 rfl rfl HR.out ?_))
        generalize putRow wr rb F1 = w9 at HE HB ⊢
        refine bodyPost_ret (results_row rfl _ rb F1 rfl HE.out) rfl ?_
        exact ⟨rfl, HB.out⟩
      | cons x t =>
        rw [bfs] at hp
        by_cases hx : 0 ≤ x ∧ x < (26 : Nat) ∧ t.length ≤ 1000000
        · rw [if_pos hx] at hp
          obtain ⟨u, rfl⟩ : ∃ i : Nat, x = (i : Int) := ⟨x.toNat, by omega⟩
          rw [Int.toNat_natCast] at hp
          have hi : u < 26 := by omega
          have htl : t.length ≤ 1000000 := hx.2.2
          have HP := Hd.mk hp
          clear hp hx
          obtain ⟨A9, c9, rfl, hc9⟩ := Kd.Q_slice HQ.out
          obtain ⟨_, _, hC9⟩ := Kd.Q_reads' HQ.out
          obtain ⟨ad, rfl, ce⟩ := at_I hC9 0 (by simp)
          have ce' : wr.cell? ad = some (.int .i64 u) := by rw [show ad.add 0 = ad from by cases ad; simp [Addr.add]] at ce; exact ce
          have hlen : ((u : Int) :: t).length = t.length + 1 := rfl
          have hcut := cut_from (P := Try.prog) 28 3 .i64 Try.underlying28 hi3 1 hs3 (some ad) ((u : Int) :: t).length c9 1 (by omega) (by rw [hlen]; omega)
          have hdrop := Kd.Q_drop (k := 1) HQ.out (by rw [hlen]; omega)
          have hsz1 : qI.sz = 1 := rfl
          rw [hsz1] at hdrop
          have h1n : (1 : Int).toNat = 1 := rfl
          rw [h1n] at hcut
          have hd1 : List.drop 1 ((u : Int) :: t) = t := rfl
          have hl1 : ((u : Int) :: t).length - 1 = t.length := rfl
          rw [hd1, hl1] at hdrop
          rw [hl1] at hcut
          generalize (if c9 = 1 then some ad else (some ad).map (·.add (1 * 1))) = A10 at hcut hdrop
          generalize c9 - 1 = c10 at hcut hdrop
          have HD2 := Hd.mk hdrop
          rw [hlen] at hcut ⊢
          have gt0 : decide ((((t.length + 1 : Nat)) : Int) > 0) = true := decide_eq_true (by omega)
          have lt0 : (0 : Int) < ((t.length + 1 : Nat) : Int) := by omega
          have HRow := Hd.mk (NetB.row (HN.out _ HW.out.B) u hi)
          have hu26 : (u : Int) < 26 := by omega
          clear hdrop hC9 ce hlen hd1 hl1 HQ
          go_wp2_with (with_reducible refine wpL_load rfl _ rfl nb (u * 26) rfl (r u) HRow.out ?_)
          clear HRow
          go_loopg [4, 23] 26 (fun gg v4 v23 wr => ∃ j : Nat, v23 = .int .i64 j ∧ j ≤ 26 ∧ 26 - j ≤ gg ∧ Hd (Kd.Q qI 3 wr w.heap.size (okR rb fb) v4 (bf1 r u (F1, t) j).2) ∧ Hd (RcB w rb fb wr (bf1 r u (F1, t) j).1))
          case atStart => exact ⟨0, rfl, Nat.zero_le _, by omega, HD2, HW⟩
          case round =>
            clear HD2 HW ce' hcut
            obtain ⟨j, rfl, hj, hg, HQ, HW⟩ := hrel
            by_cases hlt : j < 26
            · have hltz : (j : Int) < 26 := by omega
              obtain ⟨s, hs⟩ : ∃ s, bf1 r u (F1, t) j = s := ⟨_, rfl⟩
              have hst : bf1 r u (F1, t) (j + 1) = (if 0 < r u j ∧ s.1 j = 0 then (upd s.1 j ((u : Int) + 1), s.2 ++ [(j : Int)]) else s) := by rw [bf1, hs]
              have hlen := bf1_len r u F1 t j
              rw [hs] at hlen HQ HW
              obtain ⟨F3, t3⟩ := s
              simp only at hst hlen HQ HW
              clear hs
              by_cases hr : 0 < r u j
              · have d1 : decide (r u j > 0) = true := decide_eq_true hr
                have gx := HW.out.X.cell j hlt
                unfold encI at gx
                by_cases h0 : F3 j = 0
                · rw [if_pos ⟨hr, h0⟩] at hst
                  have HS := Hd.mk hst
                  have d2 : decide (F3 j = 0) = true := decide_eq_true h0
                  have fx := HW.out.X.frozen j
                  have HW2 := Hd.mk (HW.out.set j hlt ((u : Int) + 1))
                  have HQ2 := Hd.mk (Q_cellset HQ.out (g := fb) (fun _ h => h.2) j (.int .i64 ((u : Int) + 1)))
                  clear hst
                  go_wp2_with (first | (with_reducible refine wpL_index rfl _ _ rfl (r u) rfl j rfl hlt ?_) | ((with_reducible refine gate_builtin (b := .append) (xs := #[.tmp 39, .tmp 41]) rfl ?_); at_builtin; refine Kd.Q_append qI (w0 := w) w.heap.size rfl (.tmp 39) (.tmp 41) 28 3 (.int .i64 0) 8 rfl Try.underlying28 info3 rfl (by decide) (by omega) u4 _ (j : Int) [.int .i64 j] (okR rb fb) (fun _ => False) rfl ?aX ?aP (fun _ hk => hk.elim) ?aF HQ2.out HW2.out.B ?aS ?aL ?_; (case aX => rw [size_set]; rfl); (case aP => exact rfl); (case aF => exact HW2.out.fresh); (case aS => exact HW2.out.B.size); (case aL => omega); intro v5 w5 ho hb hg2 hat; have HQ3 := Hd.mk ho; have HW3 := Hd.mk (HW2.out.grown (fun k hk => HQ2.out.1 k hk) hb hg2); clear ho hb hg2 hat HW2 HQ2))
                  go_roundg (26 - (j + 1))
                  case measure => omega
                  case rel => exact ⟨j + 1, by go_num, by omega, by omega, ⟨by rw [HS.out]; exact HQ3.out⟩, ⟨by rw [HS.out]; exact HW3.out⟩⟩
                · rw [if_neg (fun h => h0 h.2)] at hst
                  have HS := Hd.mk hst
                  have d2 : decide (F3 j = 0) = false := decide_eq_false h0
                  clear hst
                  go_wp2_with (with_reducible refine wpL_index rfl _ _ rfl (r u) rfl j rfl hlt ?_)
                  go_roundg (26 - (j + 1))
                  case measure => omega
                  case rel => exact ⟨j + 1, by go_num, by omega, by omega, ⟨by rw [HS.out]; exact HQ.out⟩, ⟨by rw [HS.out]; exact HW.out⟩⟩
              · rw [if_neg (fun h => hr h.1)] at hst
                have HS := Hd.mk hst
                have d1 : decide (r u j > 0) = false := decide_eq_false hr
                clear hst
                go_wp2_with (with_reducible refine wpL_index rfl _ _ rfl (r u) rfl j rfl hlt ?_)
                go_roundg (26 - (j + 1))
                case measure => omega
                case rel => exact ⟨j + 1, by go_num, by omega, by omega, ⟨by rw [HS.out]; exact HQ.out⟩, ⟨by rw [HS.out]; exact HW.out⟩⟩
            · have hltz : ¬ (j : Int) < 26 := by omega
              obtain rfl : j = 26 := by omega
              have HQ5 := HQ
              have HW5 := HW
              clear HQ HW
              go_wp2_with fail
              go_roundg g1
              case measure => omega
              case rel => exact ⟨_, _, ⟨by have := HG.out; omega, HP.out⟩, HQ5, HW5⟩
        · rw [if_neg hx] at hp
          exact absurd hp (by simp)
end Go.Proofs.Ytnbdfmdjedakcaa
