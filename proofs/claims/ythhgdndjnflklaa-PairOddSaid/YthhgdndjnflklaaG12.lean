import Derived.Test.YthhgdndjnflklaaG11
namespace Go.Proofs.Ythhgdndjnflklaa
open Go.RowKit
set_option linter.unusedVariables false
set_option linter.unusedSimpArgs false

def MZ (zs : List Int) : Nat → Nat := fun i => (zs.getD i 0).toNat
theorem fitL_spec {n : Nat} {nx : Nat → Nat → Bool} {zs : List Int} : ∀ d i, fitL n nx zs d i = true → ∀ j, i ≤ j → j < i + d → fitB n nx zs j = true
  | 0, i, _, j, h1, h2 => by omega
  | d + 1, i, h, j, h1, h2 => by
    simp only [fitL] at h
    split at h
    · rename_i hb
      by_cases e : j = i
      · subst e; exact hb
      · exact fitL_spec d (i + 1) h j (by omega) (by omega)
    · exact absurd h (by simp)
theorem fitL_of {n : Nat} {nx : Nat → Nat → Bool} {zs : List Int} : ∀ d i, (∀ j, i ≤ j → j < i + d → fitB n nx zs j = true) → fitL n nx zs d i = true
  | 0, i, _ => rfl
  | d + 1, i, h => by
    simp only [fitL]
    rw [if_pos (h i (Nat.le_refl _) (by omega))]
    exact fitL_of d (i + 1) (fun j h1 h2 => h j (by omega) (by omega))
theorem fitB_spec {n : Nat} {nx : Nat → Nat → Bool} {zs : List Int} {i : Nat} (h : fitB n nx zs i = true) : 0 ≤ zs.getD i 0 ∧ MZ zs i ≤ n ∧ (MZ zs i < n → nx i (MZ zs i) = true ∧ zs.getD (MZ zs i) 0 = i) := by
  unfold fitB fitZ at h
  unfold MZ
  split at h
  · exact absurd h (by simp)
  · split at h
    · exact absurd h (by simp)
    · refine ⟨by omega, by omega, fun hl => ?_⟩
      rw [if_pos hl] at h
      simpa using h
theorem fits_spec {n : Nat} {nx : Nat → Nat → Bool} {zs : List Int} (h : fitsS n nx zs = true) : zs.length = n ∧ ∀ i, i < n → 0 ≤ zs.getD i 0 ∧ MZ zs i ≤ n ∧ (MZ zs i < n → nx i (MZ zs i) = true ∧ MZ zs (MZ zs i) = i) := by
  unfold fitsS at h
  simp only [Bool.and_eq_true, decide_eq_true_eq] at h
  refine ⟨h.1, fun i hi => ?_⟩
  obtain ⟨h1, h2, h3⟩ := fitB_spec (fitL_spec n 0 h.2 i (Nat.zero_le _) (by omega))
  refine ⟨h1, h2, fun hl => ⟨(h3 hl).1, ?_⟩⟩
  have := (h3 hl).2
  show (zs.getD (MZ zs i) 0).toNat = i
  rw [this]
  simp
theorem RdZ.w {w : World} {A : Option Addr} {zs : List Int} {n : Nat} (h : RdZ w A zs) (hl : zs.length = n) (h0 : ∀ i, i < n → 0 ≤ zs.getD i 0) : RdW w A n (MZ zs) := by
  intro j hj
  obtain ⟨ad, e, hc⟩ := h j (by omega)
  refine ⟨ad, e, ?_⟩
  rw [hc]
  have : ((MZ zs j : Nat) : Int) = zs.getD j 0 := Int.toNat_of_nonneg (h0 j hj)
  rw [this]
theorem NRow.own {w : World} {b n cap base : Nat} {f : Nat → Nat} (h : NRow w b n cap f) (hb : base ≤ b) : w.ownsRow base 3 1 (.slice (some ⟨b, 0, none⟩) n cap) (ilist n f).length ((ilist n f).map fun x => Value.int .i64 x) := by
  obtain ⟨C, hC, hs, hn, hm, hf⟩ := h
  refine ⟨by simp [ilist], .inr ⟨b, cap, C, by rw [ilist_length], hb, hC, by rw [ilist_length]; exact hn, hm, by omega, ?_⟩⟩
  apply List.ext_getElem?
  intro j
  rw [ilist_length, Nat.mul_one, List.getElem?_take]
  by_cases hj : j < n
  · rw [if_pos hj]
    have := hf j hj
    simp [ilist, hj]
    rw [← this]
  · rw [if_neg hj]
    simp [ilist, hj]
theorem own_nil_ (w : World) (base : Nat) : w.ownsRow base 3 1 (.slice none 0 0) ([] : List Int).length (([] : List Int).map fun x => Value.int .i64 x) := ⟨rfl, .inl ⟨rfl, rfl⟩⟩

def pairsF (n : Int) (es : List (Int × Int)) (zs : List Int) : Option (Int × Int) :=
  match chkS n es with
  | .error x => some (0, x)
  | .ok (m, nx) => if fitsS m nx zs = true then some ((pairsS m (MZ zs) : Int), 0) else some (0, 2)

set_option maxHeartbeats 4000000 in
theorem pairsF_any (w : World) (n : Int) (A : Option Addr) (c : Nat) (es : List (Int × Int)) (A2 : Option Addr) (c2 : Nat) (zs : List Int) (hE : RdE w A es) (hZ : RdZ w A2 zs) (hl : zs.length ≤ 1000000) (r0 r1 : Int) (h : pairsF n es zs = some (r0, r1)) :
    Calls Try.prog 28 #[.int .i64 n, .slice A es.length c, .slice A2 zs.length c2] w fun e w' => e = .returned (.tuple #[.int .i64 r0, .int .i64 r1]) ∧ Below w.heap.size w w' := by
  unfold pairsF at h
  have HE := Hd.mk hE
  have HZ := Hd.mk hZ
  clear hE hZ
  cases hc : chkS n es with
  | error x =>
    rw [hc] at h
    simp only [Option.some.injEq, Prod.mk.injEq] at h
    obtain ⟨rfl, rfl⟩ := h
    have hx : (x != 0) = true := by rcases chkS_err hc with rfl | rfl <;> rfl
    have HC := Hd.mk hc
    clear hc
    go_enter Try.func28, Try.ntmps28
    go_wp2_with fail
    refine (checked_err w n A c es HE.out x HC.out).mono ?_
    rintro e w1 ⟨rfl, g1⟩
    go_wp2_with fail
    go_ret2
    exact ⟨rfl, g1⟩
  | ok p =>
    obtain ⟨m, nx⟩ := p
    rw [hc] at h
    simp only at h
    obtain ⟨rfl, hm24, _⟩ := chkS_ok hc
    have HC := Hd.mk hc
    clear hc
    cases hf : fitsS m nx zs with
    | false =>
      rw [hf, if_neg (by simp)] at h
      simp only [Option.some.injEq, Prod.mk.injEq] at h
      obtain ⟨rfl, rfl⟩ := h
      have HF := Hd.mk hf
      clear hf
      go_enter Try.func28, Try.ntmps28
      go_wp2_with fail
      refine (checked_ok w m A c es HE.out m nx HC.out).mono ?_
      rintro e w1 ⟨b, rfl, g1, g2, g3⟩
      have HG := Hd.mk g1
      have HB := Hd.mk g3
      have HZ1 := Hd.mk (HZ.out.below g3)
      clear g1 g3
      go_wp2_with fail
      refine (fits_any w1 b m c2 A2 nx zs HG.out HZ1.out hl).mono ?_
      rw [HF.out]
      rintro e w3 ⟨rfl, rfl⟩
      go_wp2_with fail
      go_ret2
      exact ⟨rfl, HB.out⟩
    | true =>
      rw [hf, if_pos rfl] at h
      simp only [Option.some.injEq, Prod.mk.injEq] at h
      obtain ⟨rfl, rfl⟩ := h
      obtain ⟨hzl, hzs⟩ := fits_spec hf
      have HZL := Hd.mk hzl
      have HZS := Hd.mk hzs
      have HF := Hd.mk hf
      clear hf hzl hzs
      go_enter Try.func28, Try.ntmps28
      go_wp2_with fail
      refine (checked_ok w m A c es HE.out m nx HC.out).mono ?_
      rintro e w1 ⟨b, rfl, g1, g2, g3⟩
      have HG := Hd.mk g1
      have HB := Hd.mk g3
      have HZ1 := Hd.mk (HZ.out.below g3)
      clear g1 g3
      go_wp2_with fail
      refine (fits_any w1 b m c2 A2 nx zs HG.out HZ1.out hl).mono ?_
      rw [HF.out]
      rintro e w3 ⟨rfl, rfl⟩
      go_wp2_with fail
      rw [HZL.out]
      refine (pairs_any w1 A2 m c2 (MZ zs) (by omega) (HZ1.out.w HZL.out (fun i hi => (HZS.out i hi).1)) (fun i hi => (HZS.out i hi).2.1)).mono ?_
      rintro e w4 ⟨rfl, rfl⟩
      go_wp2_with fail
      go_ret2
      exact ⟨rfl, HB.out⟩

/-- Grows' loop: the first stone without a mate from which there is a way. -/
def growsL (n : Nat) (nx : Nat → Nat → Bool) (M : Nat → Nat) : Nat → Nat → Option (List Int)
  | 0, _ => some []
  | d + 1, i =>
    if M i < n then growsL n nx M d (i + 1)
    else (grownS n M nx K0 i).bind fun r => match r with
      | none => growsL n nx M d (i + 1)
      | some M' => some (ilist n M')
def growsF (n : Int) (es : List (Int × Int)) (zs : List Int) : Option (List Int × Int) :=
  match chkS n es with
  | .error x => some ([], x)
  | .ok (m, nx) => if fitsS m nx zs = true then (growsL m nx (MZ zs) m 0).map fun l => (l, 0) else some ([], 2)

set_option maxHeartbeats 4000000 in
theorem growsF_any (w : World) (n : Int) (A : Option Addr) (c : Nat) (es : List (Int × Int)) (A2 : Option Addr) (c2 : Nat) (zs : List Int) (hE : RdE w A es) (hZ : RdZ w A2 zs) (hl : zs.length ≤ 1000000) (r0 : List Int) (r1 : Int) (h : growsF n es zs = some (r0, r1)) :
    Calls Try.prog 29 #[.int .i64 n, .slice A es.length c, .slice A2 zs.length c2] w fun e w' => ∃ v, e = .returned (.tuple #[v, .int .i64 r1]) ∧ (w'.ownsRow w.heap.size 3 1 v r0.length (r0.map fun x => Value.int .i64 x) ∧ Below w.heap.size w w') := by
  unfold growsF at h
  have HE := Hd.mk hE
  have HZ := Hd.mk hZ
  clear hE hZ
  cases hc : chkS n es with
  | error x =>
    rw [hc] at h
    simp only [Option.some.injEq, Prod.mk.injEq] at h
    obtain ⟨rfl, rfl⟩ := h
    have hx : (x != 0) = true := by rcases chkS_err hc with rfl | rfl <;> rfl
    have HC := Hd.mk hc
    clear hc
    go_enter Try.func29, Try.ntmps29
    go_wp2_with fail
    refine (checked_err w n A c es HE.out x HC.out).mono ?_
    rintro e w1 ⟨rfl, g1⟩
    go_wp2_with fail
    go_ret2
    exact ⟨_, rfl, own_nil_ _ _, g1⟩
  | ok p =>
    obtain ⟨m, nx⟩ := p
    rw [hc] at h
    simp only at h
    obtain ⟨rfl, hm24, _⟩ := chkS_ok hc
    have HC := Hd.mk hc
    clear hc
    cases hf : fitsS m nx zs with
    | false =>
      rw [hf, if_neg (by simp)] at h
      simp only [Option.some.injEq, Prod.mk.injEq] at h
      obtain ⟨rfl, rfl⟩ := h
      have HF := Hd.mk hf
      clear hf
      go_enter Try.func29, Try.ntmps29
      go_wp2_with fail
      refine (checked_ok w m A c es HE.out m nx HC.out).mono ?_
      rintro e w1 ⟨b, rfl, g1, g2, g3⟩
      have HG := Hd.mk g1
      have HB := Hd.mk g3
      have HZ1 := Hd.mk (HZ.out.below g3)
      clear g1 g3
      go_wp2_with fail
      refine (fits_any w1 b m c2 A2 nx zs HG.out HZ1.out hl).mono ?_
      rw [HF.out]
      rintro e w3 ⟨rfl, rfl⟩
      go_wp2_with fail
      go_ret2
      exact ⟨_, rfl, own_nil_ _ _, HB.out⟩
    | true =>
      rw [hf, if_pos rfl] at h
      obtain ⟨l, hgl, h2⟩ := Option.map_eq_some_iff.1 h
      simp only [Prod.mk.injEq] at h2
      obtain ⟨rfl, rfl⟩ := h2
      obtain ⟨hzl, hzs⟩ := fits_spec hf
      have HGL := Hd.mk hgl
      have HZL := Hd.mk hzl
      have HZS := Hd.mk hzs
      have HF := Hd.mk hf
      clear hf hzl hzs hgl h
      go_enter Try.func29, Try.ntmps29
      go_wp2_with fail
      refine (checked_ok w m A c es HE.out m nx HC.out).mono ?_
      rintro e w1 ⟨b, rfl, g1, g2, g3⟩
      have HG := Hd.mk g1
      have HB := Hd.mk g3
      have HZ1 := Hd.mk (HZ.out.below g3)
      clear g1 g3
      go_wp2_with fail
      refine (fits_any w1 b m c2 A2 nx zs HG.out HZ1.out hl).mono ?_
      rw [HF.out]
      rintro e w3 ⟨rfl, rfl⟩
      have HW1 := Hd.mk (HZ1.out.w HZL.out (fun i hi => (HZS.out i hi).1))
      clear HZ1 HF
      rw [HZL.out]
      go_upto_region 7 with (fail)
      go_loopg [31] m (fun kq v31 wr => ∃ (i : Nat), v31 = .int .i64 i ∧ Hd (i + kq = m) ∧ Hd (growsL m nx (MZ zs) kq i = some l) ∧ Hd (GBlk wr b m nx) ∧ Hd (RdW wr A2 m (MZ zs)) ∧ Hd (Below w.heap.size w wr))
      case atStart => exact ⟨0, rfl, ⟨by omega⟩, HGL, HG, HW1, HB⟩
      case round =>
        obtain ⟨i, rfl, HK, HX, HG, HW, HB⟩ := hrel
        clear HGL HW1
        cases gk with
        | zero =>
          have hi := HK.out
          have hlt : ¬ (i : Int) < m := by omega
          have hx := Option.some.inj (show some [] = some l from HX.out)
          subst hx
          clear hi HX
          go_wp2_with fail
          go_ret2
          exact ⟨_, rfl, own_nil_ _ _, HB.out⟩
        | succ k1 =>
          have hi := HK.out
          have hlt : (i : Int) < m := by omega
          have hlt' : i < m := by omega
          have hx := HX.out
          clear hi HX
          simp only [growsL] at hx
          obtain ⟨ad, rfl, hc⟩ := HW.out i hlt'
          have hle := (HZS.out i hlt').2.1
          by_cases hs : MZ zs i < m
          · rw [if_pos hs] at hx
            have HX := Hd.mk hx
            have bs : decide (MZ zs i < m) = true := by simp; omega
            have HS := Hd.mk hs
            clear hx hs hle
            go_wp2_with fail
            go_roundg k1
            case measure => omega
            case rel => exact ⟨i + 1, by go_num, ⟨by have := HK.out; omega⟩, HX, HG, HW, HB⟩
          · rw [if_neg hs] at hx
            obtain ⟨r, hg, hx2⟩ := Option.bind_eq_some_iff.1 hx
            have bs : decide (MZ zs i < m) = false := by simp; omega
            have HG3 := Hd.mk hg
            have hm0 : 0 < m := by omega
            clear hx hs hg hle
            cases r with
            | none =>
              have HX := Hd.mk (show growsL m nx (MZ zs) k1 (i + 1) = some l from hx2)
              clear hx2
              go_wp2_with fail
              refine (grown_no _ b i K0 m c2 (some ad) nx (MZ zs) HG.out (fun v hv => (HZS.out v hv).2.1) (HW.out.n hm0) hlt' HG3.out).mono ?_
              rintro e w5 ⟨rfl, g1⟩
              have HG5 := Hd.mk (HG.out.of_heap (w' := w5) (g1.block _ HG.out.lt))
              have HB5 := Hd.mk (HB.out.trans (g1.mono HB.out.size))
              have HW5 := Hd.mk (HW.out.below g1)
              clear g1 HG HB HW hc
              go_wp2_with fail
              go_roundg k1
              case measure => omega
              case rel => exact ⟨i + 1, by go_num, ⟨by have := HK.out; omega⟩, HX, HG5, HW5, HB5⟩
            | some M2 =>
              have hx3 := Option.some.inj (show some (ilist m M2) = some l from hx2)
              subst hx3
              clear hx2
              go_wp2_with fail
              refine (grown_yes _ b i K0 m c2 (some ad) nx (MZ zs) M2 HG.out (fun v hv => (HZS.out v hv).2.1) (HW.out.n hm0) hlt' HG3.out).mono ?_
              rintro e w5 ⟨b5, cap5, rfl, g1, g4, g3⟩
              have HB5 := Hd.mk (HB.out.trans (g3.mono HB.out.size))
              have HN5 := Hd.mk g1
              have Hb5 := Hd.mk (Nat.le_trans HB.out.size g4)
              clear g1 g4 g3 HG HB HW hc
              go_wp2_with fail
              go_ret2
              exact ⟨_, rfl, HN5.out.own Hb5.out, HB5.out⟩
end Go.Proofs.Ythhgdndjnflklaa
