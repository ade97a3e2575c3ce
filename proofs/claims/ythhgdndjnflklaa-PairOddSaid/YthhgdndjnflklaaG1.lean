import Derived.Test.YthhgdndjnflklaaG0
namespace Go.Proofs.Ythhgdndjnflklaa
open Go.RowKit
set_option linter.unusedVariables false
set_option linter.unusedSimpArgs false

/-- The forest in memory, but for its queue's elements. -/
structure Fo (w : World) (bf gb mb n mcap : Nat) (nx : Nat → Nat → Bool) (M : Nat → Nat) (pa : Nat → Int) (ba : Nat → Nat) (us : Nat → Bool) (qv : Value) : Prop where
  f : FBlk w bf gb n (.slice (some ⟨mb, 0, none⟩) n mcap) qv pa ba us
  g : GBlk w gb n nx
  m : NBlk w mb n M
  mle : ∀ v, v < n → M v ≤ n
theorem Fo.of_heap {w w' : World} {bf gb mb n mcap : Nat} {nx : Nat → Nat → Bool} {M : Nat → Nat} {pa : Nat → Int} {ba : Nat → Nat} {us : Nat → Bool} {qv : Value}
    (h : Fo w bf gb mb n mcap nx M pa ba us qv) (e : ∀ k, k < w.heap.size → w'.heap[k]? = w.heap[k]?) : Fo w' bf gb mb n mcap nx M pa ba us qv :=
  ⟨h.f.of_heap (e _ h.f.lt), h.g.of_heap (e _ h.g.lt), h.m.of_heap (e _ h.m.lt), h.mle⟩

theorem Fo.neg {w : World} {bf gb mb n mcap : Nat} {nx : Nat → Nat → Bool} {M : Nat → Nat} {pa : Nat → Int} {ba : Nat → Nat} {us : Nat → Bool} {qv : Value} (h : Fo w bf gb mb n mcap nx M pa ba us qv) : gb ≠ bf := by
  obtain ⟨_, C, hC, _⟩ := h.f
  obtain ⟨_, D, hD, _⟩ := h.g
  intro e
  rw [e, hC] at hD
  simp at hD
theorem Fo.nem {w : World} {bf gb mb n mcap : Nat} {nx : Nat → Nat → Bool} {M : Nat → Nat} {pa : Nat → Int} {ba : Nat → Nat} {us : Nat → Bool} {qv : Value} (h : Fo w bf gb mb n mcap nx M pa ba us qv) : mb ≠ bf := by
  obtain ⟨_, C, hC, _⟩ := h.f
  obtain ⟨D, hD, _⟩ := h.m
  intro e
  rw [e, hC] at hD
  simp at hD
/-- A store into the forest's block leaves the graph and the mates. -/
theorem Fo.store {w : World} {bf gb mb n mcap : Nat} {nx : Nat → Nat → Bool} {M : Nat → Nat} {pa pa' : Nat → Int} {ba ba' : Nat → Nat} {us us' : Nat → Bool} {qv qv' : Value} (h : Fo w bf gb mb n mcap nx M pa ba us qv)
    {o : Nat} {v : Value} (hf : FBlk (w.setCell ⟨bf, o, none⟩ v) bf gb n (.slice (some ⟨mb, 0, none⟩) n mcap) qv' pa' ba' us') : Fo (w.setCell ⟨bf, o, none⟩ v) bf gb mb n mcap nx M pa' ba' us' qv' :=
  ⟨hf, h.g.of_heap (heap_set_ne _ _ _ _ _ h.neg), h.m.of_heap (heap_set_ne _ _ _ _ _ h.nem), h.mle⟩

def mateS (n : Nat) (M : Nat → Nat) (v : Nat) : Int := if M v = n then -1 else (M v : Int)

theorem mate_any (w : World) (bf gb mb n mcap v : Nat) (nx : Nat → Nat → Bool) (M : Nat → Nat) (pa : Nat → Int) (ba : Nat → Nat) (us : Nat → Bool) (qv : Value)
   (h : Fo w bf gb mb n mcap nx M pa ba us qv) (hv : v < n) (r : Int) (hr : mateS n M v = r) :
    Calls Try.prog 43 #[.pointer (some ⟨bf, 0, none⟩), .int .i64 v] w fun e w' => e = .returned (.int .i64 r) ∧ ∃ m, w' = w.drewN m := by
  have h0 := h.f.graph
  have h1 := h.f.mates
  have hg := h.g.num
  have hn := h.g.le
  have hx := h.mle v hv
  have hmm := h.m.cell v hv
  unfold mateS at hr
  clear h
  generalize M v = x at *
  by_cases hxn : x = n
  · have hb : ((x : Int) == n) = true := by simp [hxn]
    rw [if_pos hxn] at hr
    subst hr
    clear hxn
    go_enter Try.func43, Try.ntmps43
    go_wp2
    go_quiet (fail)
    go_wp2
    go_ret
    exact ⟨rfl, _, rfl⟩
  · have hb : ((x : Int) == n) = false := by simp; omega
    rw [if_neg hxn] at hr
    subst hr
    clear hxn
    go_enter Try.func43, Try.ntmps43
    go_wp2
    go_quiet (fail)
    go_wp2
    go_ret
    exact ⟨rfl, _, rfl⟩

theorem mate_quiet (w : World) (bf gb mb n mcap v : Nat) (nx : Nat → Nat → Bool) (M : Nat → Nat) (pa : Nat → Int) (ba : Nat → Nat) (us : Nat → Bool) (qv : Value)
   (h : Fo w bf gb mb n mcap nx M pa ba us qv) (hv : v < n) (r : Int) (hr : mateS n M v = r) (nq : Nat) :
    Calls Try.prog 43 #[.pointer (some ⟨bf, 0, none⟩), .int .i64 v] (w.drewN nq) fun e w'' => e = .returned (.int .i64 r) ∧ ∃ m, w'' = w.drewN m :=
  Calls.quiet_of (mate_any (w.drewN nq) bf gb mb n mcap v nx M pa ba us qv (h.of_heap (w' := w.drewN nq) (fun k hk => rfl)) hv r hr)

theorem mate_fr (w : World) (bf gb mb n mcap v : Nat) (nx : Nat → Nat → Bool) (M : Nat → Nat) (pa : Nat → Int) (ba : Nat → Nat) (us : Nat → Bool) (qv : Value)
   (h : Fo w bf gb mb n mcap nx M pa ba us qv) (hv : v < n) (r : Int) (hr : mateS n M v = r) :
    Calls Try.prog 43 #[.pointer (some ⟨bf, 0, none⟩), .int .i64 v] w fun e w' => e = .returned (.int .i64 r) ∧ w'.heap = w.heap ∧ Below w.heap.size w w' :=
  (mate_any w bf gb mb n mcap v nx M pa ba us qv h hv r hr).mono fun e w' ⟨he, m, hm⟩ => ⟨he, by rw [hm]; rfl, by rw [hm]; exact bel_drewN (Below.refl _ _) m⟩

/-- common's first loop: the bases on the way from a stone to the root. -/
def comUp (n : Nat) (M : Nat → Nat) (pa : Nat → Int) (ba : Nat → Nat) : Nat → Nat → (Nat → Bool) → Option (Nat → Bool)
  | 0, _, _ => none
  | k + 1, a, seen =>
    if a < n ∧ ba a < n then
      if M (ba a) = n then some (upd seen (ba a) true)
      else if M (ba a) < n ∧ 0 ≤ pa (M (ba a)) then comUp n M pa ba k (pa (M (ba a))).toNat (upd seen (ba a) true)
      else none
    else none
/-- common's second loop. -/
def comDown (n : Nat) (M : Nat → Nat) (pa : Nat → Int) (ba : Nat → Nat) (seen : Nat → Bool) : Nat → Nat → Option Nat
  | 0, _ => none
  | k + 1, b =>
    if b < n ∧ ba b < n then
      if seen (ba b) then some (ba b)
      else if M (ba b) < n ∧ 0 ≤ pa (M (ba b)) then comDown n M pa ba seen k (pa (M (ba b))).toNat
      else none
    else none
def comS (n : Nat) (M : Nat → Nat) (pa : Nat → Int) (ba : Nat → Nat) (k a b : Nat) : Option Nat :=
  (comUp n M pa ba k a (fun _ => false)).bind fun seen => comDown n M pa ba seen k b

set_option maxHeartbeats 1000000 in
theorem common_any (w : World) (bf gb mb n mcap a b k c : Nat) (nx : Nat → Nat → Bool) (M : Nat → Nat) (pa : Nat → Int) (ba : Nat → Nat) (us : Nat → Bool) (qv : Value)
   (h : Fo w bf gb mb n mcap nx M pa ba us qv) (hr : comS n M pa ba k a b = some c) :
    Calls Try.prog 45 #[.pointer (some ⟨bf, 0, none⟩), .int .i64 a, .int .i64 b] w fun e w' => e = .returned (.int .i64 c) ∧ Below w.heap.size w w' := by
  obtain ⟨seen, hup, hdown⟩ := Option.bind_eq_some_iff.1 hr
  have HU := Hd.mk hup
  have HD := Hd.mk hdown
  have HF := Hd.mk h
  clear hup hdown hr h
  go_enter Try.func45, Try.ntmps45
  go_wp2
  go_loopg [1] k (fun kq v1 wr => ∃ (x : Nat) (sn : Nat → Bool), v1 = .int .i64 x ∧ Hd (comUp n M pa ba kq x sn = some seen) ∧ Hd (BBlk wr w.heap.size 63 24 n sn) ∧ Hd (Below w.heap.size w wr))
  case atStart => exact ⟨a, _, rfl, HU, ⟨BBlk_new w n HF.out.g.le _ rfl⟩, ⟨(Below.refl _ _).alloc (Nat.le_refl _) _⟩⟩
  case round =>
    obtain ⟨x, sn, rfl, HX, HS, HB⟩ := hrel
    clear HU
    cases gk with
    | zero => exact absurd HX.out (by simp [comUp])
    | succ k1 =>
      have hx := HX.out
      simp only [comUp] at hx
      split at hx
      · rename_i hlt
        obtain ⟨hx1, hx2⟩ := hlt
        have hF : Fo wr bf gb mb n mcap nx M pa ba us qv := HF.out.of_heap (fun k hk => HB.out.block k hk)
        have cb := hF.f.getBa x hx1
        have cs := HS.out.cell (ba x) hx2
        have fs := HS.out.frozen (ba x)
        have hn := hF.g.le
        by_cases hM : M (ba x) = n
        · rw [if_pos hM] at hx
          have HX2 := Hd.mk (Option.some.inj hx)
          have HM := Hd.mk hM
          clear hx hM HX
          have hB2 := bel_set HB.out (Nat.le_refl _) (ba x) (.bool true)
          have hF2 : Fo (wr.setCell ⟨w.heap.size, ba x, none⟩ (.bool true)) bf gb mb n mcap nx M pa ba us qv := HF.out.of_heap (fun k hk => hB2.block k hk)
          have HF2 := Hd.mk hF2
          clear hF hF2 hB2
          go_wp2_with fail
          refine (mate_any _ bf gb mb n mcap (ba x) nx M pa ba us qv HF2.out hx2 (-1) (by rw [mateS, if_pos HM.out])).mono ?_
          rintro e w1 ⟨rfl, m1, rfl⟩
          go_wp2_with fail
          have hS2 : BBlk ((wr.setCell ⟨w.heap.size, ba x, none⟩ (.bool true)).drewN m1) w.heap.size 63 24 n seen := by
            rw [← HX2.out]
            exact (HS.out.set (ba x) hx2 true).of_heap rfl
          have HS2 := Hd.mk hS2
          have HB2 := Hd.mk (bel_drewN (bel_set HB.out (Nat.le_refl _) (ba x) (.bool true)) m1)
          clear hS2 HF2 cb cs fs HS HB HX2 HM
          go_loopg [2] k (fun kq v2 wr2 => ∃ (y : Nat), v2 = .int .i64 y ∧ Hd (comDown n M pa ba seen kq y = some c) ∧ Hd (BBlk wr2 w.heap.size 63 24 n seen) ∧ Hd (Below w.heap.size w wr2))
          case atStart => exact ⟨b, rfl, HD, HS2, HB2⟩
          case round =>
            obtain ⟨y, rfl, HY, HS, HB⟩ := hrel
            clear HD HS2 HB2
            cases gk with
            | zero => exact absurd HY.out (by simp [comDown])
            | succ k2 =>
              have hy := HY.out
              clear HY
              simp only [comDown] at hy
              split at hy
              · rename_i hlt
                obtain ⟨hy1, hy2⟩ := hlt
                have hB2 := HB.out
                have hF : Fo wr bf gb mb n mcap nx M pa ba us qv := HF.out.of_heap (fun k hk => HB.out.block k hk)
                have HF2 := Hd.mk hF
                have cb := hF.f.getBa y hy1
                have cs := HS.out.cell (ba y) hy2
                clear hF hB2
                by_cases hse : seen (ba y) = true
                · rw [if_pos hse] at hy
                  obtain rfl := Option.some.inj hy
                  rw [hse] at cs
                  clear hy hse
                  go_wp2_with fail
                  go_ret
                  exact ⟨rfl, HB.out⟩
                · have hse' : seen (ba y) = false := by simpa using hse
                  rw [if_neg hse] at hy
                  rw [hse'] at cs
                  clear hse hse'
                  split at hy
                  · rename_i hq
                    obtain ⟨hq1, hq2⟩ := hq
                    have cp := HF2.out.f.getPa (M (ba y)) hq1
                    have hMn : mateS n M (ba y) = (M (ba y) : Int) := by rw [mateS, if_neg (by omega)]
                    have HMn := Hd.mk hMn
                    have HQ := Hd.mk (show comDown n M pa ba seen k2 (pa (M (ba y))).toNat = some c from hy)
                    have HZ := Hd.mk (Int.toNat_of_nonneg hq2)
                    clear hy hMn
                    go_wp2_with fail
                    go_quiet ((go_at_call 43; exact mate_quiet _ bf gb mb n mcap (ba y) nx M pa ba us qv HF2.out hy2 _ HMn.out _))
                    go_wp2_with fail
                    go_roundg k2
                    case measure => omega
                    case rel => exact ⟨(pa (M (ba y))).toNat, by rw [HZ.out], HQ, ⟨HS.out.of_heap rfl⟩, ⟨bel_drewN HB.out _⟩⟩
                  · exact absurd hy (by simp)
              · exact absurd hy (by simp)
        · rw [if_neg hM] at hx
          split at hx
          · rename_i hq
            obtain ⟨hq1, hq2⟩ := hq
            have hB2 := bel_set HB.out (Nat.le_refl _) (ba x) (.bool true)
            have hF2 : Fo (wr.setCell ⟨w.heap.size, ba x, none⟩ (.bool true)) bf gb mb n mcap nx M pa ba us qv := HF.out.of_heap (fun k hk => hB2.block k hk)
            have HF2 := Hd.mk hF2
            have cp := HF2.out.f.getPa (M (ba x)) hq1
            have hMn : mateS n M (ba x) = (M (ba x) : Int) := by rw [mateS, if_neg (by omega)]
            have HMn := Hd.mk hMn
            have HQ := Hd.mk hx
            have HZ := Hd.mk (Int.toNat_of_nonneg hq2)
            have HB2 := Hd.mk hB2
            have HS2 := Hd.mk (HS.out.set (ba x) hx2 true)
            clear hF hF2 hx hMn HX hB2 HB HS hM
            go_wp2_with fail
            refine (mate_fr _ bf gb mb n mcap (ba x) nx M pa ba us qv HF2.out hx2 _ HMn.out).mono ?_
            rintro e w1 ⟨rfl, hh1, hb1⟩
            have HF3 := Hd.mk (HF2.out.of_heap (w' := w1) (fun k hk => by rw [hh1]))
            have cp3 := HF3.out.f.getPa (M (ba x)) hq1
            have HS3 := Hd.mk (HS2.out.of_heap (w' := w1) (by rw [hh1]))
            have HB3 := Hd.mk (bel_then HB2.out hb1 HB2.out.size)
            clear cp HF2 hh1 hb1 HS2 HB2 cb cs fs
            go_wp2_with fail
            go_quiet ((go_at_call 43; go_must (exact mate_quiet _ bf gb mb n mcap (ba x) nx M pa ba us qv HF3.out hx2 _ HMn.out _)))
            go_wp2_with fail
            go_roundg k1
            case measure => omega
            case rel => exact ⟨(pa (M (ba x))).toNat, _, by rw [HZ.out], HQ, ⟨HS3.out.of_heap rfl⟩, ⟨bel_drewN HB3.out _⟩⟩
          · exact absurd hx (by simp)
      · exact absurd hx (by simp)
end Go.Proofs.Ythhgdndjnflklaa
