/- Settle: the walk. No conditions. -/
import Derived.Test.YtnbdfmdjedakcaaH37
import Derived.Test.YtnbdfmdjedakcaaJB
import Derived.BigRegion
namespace Go.Proofs.Ytnbdfmdjedakcaa
open Go.RowKit Go.Proofs.YtnbdfmdjedakcaaW.PrintWords Go.Proofs.YtnbdfmdjedakcaaW.PrintLast Go.Proofs.YtnbdfmdjedakcaaW.PrintMore PP
set_option linter.unusedVariables false
set_option linter.unusedSimpArgs false
/-- The prices. -/
def prs (l : List S38) : Nat → List Int
  | 0 => []
  | k + 1 => prs l k ++ [(qAt l k).f1]
theorem prs_len (l : List S38) : ∀ k, (prs l k).length = k
  | 0 => rfl
  | k + 1 => by rw [prs, List.length_append, prs_len l k]; rfl
def psS (l : List S38) : List Int := Go.Lib.compact (srtI (prs l l.length))
/-- The numbers, price by price. -/
def ftIn (ps : List Int) (F : Nat → Int) (m : Nat) (f : Nat → Int) : Nat → Nat → Int
  | 0 => f
  | i + 1 => if F i ≠ 0 ∧ m + 1 < ps.length then upd (ftIn ps F m f i) i (ps.getD (m + 1) 0) else if m = 0 then upd (ftIn ps F m f i) i (ps.getD m 0) else ftIn ps F m f i
def ftOut (n : Nat) (ps : List Int) (FF : Int → Nat → Int) : Nat → Nat → Int
  | 0 => fun _ => 0
  | m + 1 => ftIn ps (FF (ps.getD m 0)) m (ftOut n ps FF m) n
def lossF (l : List S38) (f : Nat → Int) : Nat → Int
  | 0 => 0
  | i + 1 => lossF l f i + (qAt l i).f2 * max ((qAt l i).f1 - f i) (f i - (qAt l i).f1)
/-- The world while Settle runs, behind the prices. -/
structure SeB (w0 : World) (A6 : Option Addr) (ps : List Int) (fb n : Nat) (w : World) (f : Nat → Int) : Prop where
  B : Below w0.heap.size w0 w
  P : ∃ c, Kd.R qI 3 w w0.heap.size (fun k => k ≠ fb) (.slice A6 ps.length c) ps
  X : VBlk encI 3 w fb n f
  f0 : w0.heap.size ≤ fb
section
variable {w0 w w' : World} {A6 : Option Addr} {ps : List Int} {fb n : Nat} {f : Nat → Int}
theorem SeB.below (h : SeB w0 A6 ps fb n w f) (hb : Below w.heap.size w w') : SeB w0 A6 ps fb n w' f :=
  ⟨h.B.trans (hb.mono h.B.size), h.P.imp fun c hc => Kd.R_below hc hb, h.X.of_heap (hb.block _ h.X.lt), h.f0⟩
theorem SeB.set (h : SeB w0 A6 ps fb n w f) (i : Nat) (hi : i < n) (x : Int) : SeB w0 A6 ps fb n (w.setCell ⟨fb, i, none⟩ (.int .i64 x)) (upd f i x) :=
  ⟨bel_set h.B h.f0 _ _, h.P.imp fun c hc => Kd.R_far hc (p := ⟨fb, i, none⟩) (fun k hk => hk) _, h.X.set i hi x, h.f0⟩
theorem SeB.price (h : SeB w0 A6 ps fb n w f) (m : Nat) (hm : m < ps.length) : ∃ pb, A6 = some ⟨pb, 0, none⟩ ∧ pb ≠ fb ∧ w.cell? ⟨pb, m, none⟩ = some (.int .i64 (ps.getD m 0)) := by
  obtain ⟨c, hc⟩ := h.P
  obtain ⟨ad, e, h1⟩ := at_I (Kd.R_reads' hc).2.2 m hm
  obtain ⟨g, cap, e2, _⟩ := Kd.R_form hc (by omega)
  injection e2 with e3
  subst e3
  injection e with e4
  subst e4
  refine ⟨g, rfl, hc.1 g (by simp [Value.ownBlock]), ?_⟩
  rw [add_lit', Nat.zero_add] at h1
  exact h1
theorem SeB.own (h : SeB w0 A6 ps fb n w f) (hn : n ≤ 1000000) : Kd.R qI 3 w w0.heap.size (fun _ => True) (.slice (some ⟨fb, 0, none⟩) n n) ((List.range n).map f) := by
  obtain ⟨C, hC, hs, hf⟩ := h.X
  have hlen : ((List.range n).map f).length = n := by simp
  refine Kd.R_of_own (enc := Value.int .i64) ⟨?_, .inr ⟨fb, n, C, ?_, h.f0, hC, ?_, ?_, ?_, ?_⟩⟩ (fun _ _ => trivial)
  · rw [encs_length, Nat.mul_one]
  · rw [hlen]
  · rw [hlen]; exact Nat.le_refl _
  · unfold maxLen; omega
  · omega
  · rw [hlen, Nat.mul_one, List.take_of_length_le (by simp [hs])]
    refine List.ext_getElem? fun j => ?_
    by_cases hj : j < n
    · rw [Array.getElem?_toList, hf j hj]
      simp [encs, encI, hj]
    · rw [List.getElem?_eq_none (by simp [hs]; omega), List.getElem?_eq_none (by simp [encs]; omega)]
theorem SeB.congr {f' : Nat → Int} (h : SeB w0 A6 ps fb n w f) (e : ∀ i, i < n → f i = f' i) : SeB w0 A6 ps fb n w f' := ⟨h.B, h.P, h.X.congr e, h.f0⟩
theorem SeB.drewN (h : SeB w0 A6 ps fb n w f) (m : Nat) : SeB w0 A6 ps fb n (w.drewN m) f :=
  ⟨bel_drewN h.B m, h.P.imp fun c hc => Kd.R_step hc (fun _ _ _ => rfl), h.X.of_heap rfl, h.f0⟩
theorem SeB.start {c7 : Nat} (hB : Below w0.heap.size w0 w) (hR : Kd.R qI 3 w w0.heap.size (fun _ => True) (.slice A6 ps.length c7) ps) (n : Nat) : SeB w0 A6 ps w.heap.size n (w.alloc (.cells (madeCells #[Value.int .i64 0] n) 3)) (fun _ => 0) := by
  have hb := (Below.refl w.heap.size w).alloc (Nat.le_refl _) (.cells (madeCells #[Value.int .i64 0] n) 3)
  refine ⟨hB.trans (hb.mono hB.size), ⟨c7, Kd.R_below (Kd.R_of_own (Kd.own_of_R hR) (fun k hk => ?_)) hb⟩, VBlk.made (enc := encI) (z := 0) (blk_new w _), hB.size⟩
  have := Kd.R_lt hR k hk
  omega
/-- .. and which are above the price. -/
structure SfB (w0 : World) (A6 : Option Addr) (ps : List Int) (fb n ib : Nat) (w : World) (f F : Nat → Int) : Prop where
  S : SeB w0 A6 ps fb n w f
  I : VBlk encI 96 w ib 26 F
  i0 : w0.heap.size ≤ ib
  ne : ib ≠ fb
theorem SeB.row (h : SeB w0 A6 ps fb n w f) (F : Nat → Int) : SfB w0 A6 ps fb n w.heap.size (Ytnbdfmdjedakcaa.putRow (newRow w) w.heap.size F) f F := by
  have h1 := h.below (putRow_bel (newRow_bel w) (Nat.le_refl _) F)
  have := h.X.lt
  exact ⟨h1, putRow_blk (newRow_blk w) F, h.B.size, by omega⟩
theorem SfB.set {F : Nat → Int} {ib : Nat} (h : SfB w0 A6 ps fb n ib w f F) (i : Nat) (hi : i < n) (x : Int) : SfB w0 A6 ps fb n ib (w.setCell ⟨fb, i, none⟩ (.int .i64 x)) (upd f i x) F :=
  ⟨h.S.set i hi x, h.I.other h.ne _ _, h.i0, h.ne⟩
theorem SfB.congr {F f' : Nat → Int} {ib : Nat} (h : SfB w0 A6 ps fb n ib w f F) (e : ∀ i, i < n → f i = f' i) : SfB w0 A6 ps fb n ib w f' F := ⟨h.S.congr e, h.I, h.i0, h.ne⟩
end
theorem mul_range {a b : Int} (ha : 1 ≤ a) (ha2 : a ≤ 1048576) (hb : 0 ≤ b) (hb2 : b ≤ 1073741824) : 0 ≤ a * b ∧ a * b ≤ 1125899906842624 := by
  have h1 : 0 ≤ a * b := Int.mul_nonneg (by omega) hb
  have h2 : a * b ≤ 1048576 * 1073741824 := Int.mul_le_mul ha2 hb2 hb (by omega)
  omega
theorem lossF_range (l : List S38) (fit : Nat → Int) (hok : ∀ i, i < l.length → okQ (qA l i)) (hfr : ∀ i, i < l.length → 0 ≤ fit i ∧ fit i ≤ 1073741824) : ∀ i, i ≤ l.length → 0 ≤ lossF l fit i ∧ lossF l fit i ≤ 1125899906842624 * i
  | 0, _ => ⟨Int.le_refl _, by show (0 : Int) ≤ _; omega⟩
  | i + 1, h => by
    have ih := lossF_range l fit hok hfr i (by omega)
    obtain ⟨_, h1, h2, h3, h4⟩ := hok i (by omega)
    have h5 := hfr i (by omega)
    have e : qA l i = qAt l i := rfl
    rw [e] at h1 h2 h3 h4
    have h6 := mul_range h3 h4 (b := max ((qAt l i).f1 - fit i) (fit i - (qAt l i).f1)) (by omega) (by omega)
    rw [lossF]
    omega
set_option maxRecDepth 100000 in
set_option maxHeartbeats 8000000 in
theorem settle_any (w : World) (A : Option Addr) (c : Nat) (l : List S38) (hC : Kd.C k38 w A l.length l) (hcap : l.length ≤ c) (kq : Nat) (hq : grade_quotes.f kq l = some 0) (hok : ∀ i, i < l.length → okQ (qA l i)) (hn : l.length ≤ 24)
    (FF : Int → Nat → Int) (hF : ∀ z, ∃ f r2, fullN 26 24 25 1152921504606846976 f (gOut l z l.length) = some (FF z, r2))
    (ps : List Int) (hps : Go.Lib.compact (srtI (prs l l.length)) = ps) (fit : Nat → Int) (hfit : fit = ftOut l.length ps FF ps.length) (loss : Int) (hloss : loss = lossF l fit l.length) (hfr : ∀ i, i < l.length → 0 ≤ fit i ∧ fit i ≤ 1073741824) :
    Calls Try.prog 61 #[.slice A l.length c] w fun e w' => ∃ v, e = .returned (.tuple #[v, .int .i64 loss, .int .i64 0]) ∧ Kd.R qI 3 w' w.heap.size (fun _ => True) v ((List.range l.length).map fit) ∧ Below w.heap.size w w' := by
  have m1 := mkI l.length (by omega)
  have HC := Hd.mk (fun W (hb : Below w.heap.size w W) => Kd.C_below hC hb)
  have HQ := Hd.mk (grade_quotes.calls kq A c l 0 w hC hcap hq)
  have HA := Hd.mk (fun W (hb : Below w.heap.size w W) (z : Int) => (hF z).elim fun f hf => hf.elim fun r2 hr => above_any W A c l (Kd.C_below hC hb) hn z f (FF z) r2 hr)
  have hpl : ps.length ≤ 24 := by
    have h1 := Go.Lib.compact_length_le (srtI (prs l l.length))
    rw [hps, srtI_len, prs_len] at h1
    omega
  have HOK := Hd.mk hok
  have HPS := Hd.mk hps
  have HFIT := Hd.mk hfit
  have HL := Hd.mk hloss
  have HFR := Hd.mk hfr
  have hu38 := Try.underlying38
  have hu36 := Try.underlying36
  clear hC hcap hq hF hok hps hfit hloss hfr
  go_enter Try.func61, Try.ntmps61
  go_wp2_with fail
  refine HQ.out.mono ?_
  rintro e w1 ⟨rfl, hb1⟩
  have HB := Hd.mk hb1
  clear hb1 HQ
  go_wp2_with fail
  go_loopg [6, 24] l.length (fun gg v6 v24 wr => ∃ (k : Nat), v24 = .int .i64 k ∧ k ≤ l.length ∧ l.length - k ≤ gg ∧ Hd (Kd.R qI 3 wr w.heap.size (fun _ => True) v6 (prs l k)) ∧ Hd (Below w.heap.size w wr))
  case atStart => exact ⟨0, rfl, Nat.zero_le _, by omega, ⟨Kd.R_nil _ _ _ _ _⟩, HB⟩
  case round =>
    clear HB
    obtain ⟨k, rfl, hk, hg, HR, HB⟩ := hrel
    by_cases hlt : k < l.length
    · have hltz : (k : Int) < (l.length : Int) := by omega
      obtain ⟨ad, rfl, c0, c1, c2, c3, c4⟩ := at_T38 (HC.out _ HB.out) (k : Int) (by omega) (by omega)
      rw [Int.toNat_natCast] at c0 c1 c2 c3 c4
      have hq : rd_T38 l (k : Int) = qAt l k := rfl
      rw [hq] at c0 c1 c2 c3 c4
      clear hq
      obtain ⟨q, hq⟩ : ∃ q, qAt l k = q := ⟨_, rfl⟩
      have HQ := Hd.mk hq
      rw [hq] at c0 c1 c2 c3 c4
      clear hq
      have x0 := Hd.mk (newQ_blk wr)
      have x1 := Hd.mk (putQ_blk (newQ_blk wr) q)
      have x2 := Hd.mk (HB.out.trans ((putQ_bel (newQ_bel wr) (Nat.le_refl _) q).mono HB.out.size))
      have x3 := Hd.mk (Kd.R_below HR.out (putQ_bel (newQ_bel wr) (Nat.le_refl _) q))
      have HP := Hd.mk (prs_len l k)
      clear HR HB
      go_wp2_with (first | ((with_reducible refine wpL_newQ rfl rfl ?_); go_simp) | ((with_reducible refine wpL_storeQ rfl _ _ rfl wr.heap.size z38 q rfl rfl x0.out ?_); clear x0 c0 c1 c2 c3 c4; generalize putQ (newQ wr) wr.heap.size q = w3 at x1 x2 x3 ⊢; generalize wr.heap.size = qb at x1 ⊢; obtain ⟨c0, c1, c2, c3, c4⟩ := x1.out.cells; go_simp) | ((with_reducible refine gate_builtin (b := .append) (xs := #[.tmp 28, .tmp 31]) rfl ?_); at_builtin; refine Kd.R_append qI (w0 := w) w.heap.size rfl (.tmp 28) (.tmp 31) 28 3 (.int .i64 0) 8 rfl Try.underlying28 info3 rfl (by decide) (by omega) u6 _ q.f1 [.int .i64 q.f1] (fun _ => True) (fun _ => False) rfl rfl ?aP (fun _ hk => hk.elim) (fun _ _ => trivial) x3.out x2.out x2.out.size ?aL ?_; (case aP => exact rfl); (case aL => have := HP.out; omega); intro v5 w5 ho hb hg2 hat; have HR := Hd.mk ho; have HB := Hd.mk hb; clear ho hb hg2 hat x1 x2 x3))
      go_roundg (l.length - (k + 1))
      case measure => omega
      case rel => exact ⟨k + 1, by go_num, by omega, by omega, ⟨by rw [prs, HQ.out]; exact HR.out⟩, HB⟩
    · have hltz : ¬ (k : Int) < (l.length : Int) := by omega
      obtain rfl : k = l.length := by omega
      have HP := Hd.mk (prs_len l l.length)
      have HSo := Hd.mk (sort_own HR.out HB.out.size (by have := HP.out; omega))
      obtain ⟨A6, c6, hv6⟩ := Kd.R_slice HR.out
      subst hv6
      have hlen6 := HP.out
      rw [hlen6] at HSo ⊢
      clear HR
      go_wp2_with fail
      refine HSo.out.mono ?_
      rintro e w2 ⟨rfl, hR2, hB2, hs2⟩
      have HCo := Hd.mk (comp_own hR2 hs2 (by rw [srtI_len]; omega))
      have HB2 := Hd.mk (hB2 _ HB.out)
      clear hR2 hB2 hs2 HSo HB
      go_wp2_with fail
      refine HCo.out.mono ?_
      rintro e w3 ⟨v3, rfl, hR3, hB3, hs3⟩
      rw [HPS.out] at hR3
      have HR3 := Hd.mk hR3
      have HB3 := Hd.mk (hB3 _ HB2.out)
      clear hR3 hB3 hs3 HCo HB2
      obtain ⟨A7, c7, hv7⟩ := Kd.R_slice HR3.out
      subst hv7
      have HS := Hd.mk (SeB.start HB3.out HR3.out l.length)
      clear HR3 HB3
      go_wp2_with fail
      generalize w3.alloc (.cells (madeCells #[Value.int .i64 0] l.length) 3) = w4 at HS ⊢
      generalize w3.heap.size = fb at HS ⊢
      go_loopg [43] ps.length (fun gg v43 wr => ∃ (m : Nat), v43 = .int .i64 m ∧ m ≤ ps.length ∧ ps.length - m ≤ gg ∧ Hd (SeB w A7 ps fb l.length wr (ftOut l.length ps FF m)))
      case atStart => exact ⟨0, rfl, Nat.zero_le _, by omega, HS⟩
      case round =>
        clear HS
        obtain ⟨m, rfl, hm, hgm, HS⟩ := hrel
        by_cases hlm : m < ps.length
        · have hlmz : (m : Int) < (ps.length : Int) := by omega
          obtain ⟨pb, rfl, hpf, cp⟩ := HS.out.price m hlm
          obtain ⟨p, hp⟩ : ∃ p, ps.getD m 0 = p := ⟨_, rfl⟩
          have HPm := Hd.mk hp
          rw [hp] at cp
          clear hp
          have HAb := Hd.mk (HA.out wr HS.out.B p)
          go_wp2_with fail
          refine HAb.out.mono ?_
          rintro e w5 ⟨rfl, hb5⟩
          have HS5 := Hd.mk (HS.out.below hb5)
          have HV := Hd.mk (HS5.out.row (FF p))
          have x0 := Hd.mk (newRow_blk w5)
          clear hb5 HS HS5 HAb cp
          go_wp2_with (first | ((with_reducible refine wpL_alloc rfl rfl ?_); go_simp) | ((with_reducible refine wpL_store rfl _ _ rfl w5.heap.size _ (FF p) rfl rfl x0.out ?_); generalize putRow (newRow w5) w5.heap.size (FF p) = w6 at HV ⊢; generalize w5.heap.size = ib at HV ⊢; clear x0; go_simp))
          go_loopg [53] l.length (fun gg v53 wr => ∃ (i : Nat), v53 = .int .i64 i ∧ i ≤ l.length ∧ l.length - i ≤ gg ∧ Hd (SfB w (some ⟨pb, 0, none⟩) ps fb l.length ib wr (ftIn ps (FF p) m (ftOut l.length ps FF m) i) (FF p)))
          case atStart => exact ⟨0, rfl, Nat.zero_le _, by omega, HV⟩
          case round =>
            clear HV
            obtain ⟨i, rfl, hi, hgi, HV⟩ := hrel
            by_cases hlt : i < l.length
            · have hltz : (i : Int) < (l.length : Int) := by omega
              have hi26 : (i : Int) < 26 := by omega
              have gi := HV.out.I.cell i (by omega)
              unfold encI at gi
              have gf := HV.out.S.X.cell i hlt
              have ff := HV.out.S.X.frozen i
              have hne := HV.out.ne
              obtain ⟨g, hg9⟩ : ∃ g, ftIn ps (FF p) m (ftOut l.length ps FF m) i = g := ⟨_, rfl⟩
              have hG := Hd.mk hg9
              rw [hg9] at HV gf
              unfold encI at gf
              clear hg9
              by_cases hm0 : m = 0
              · subst hm0
                by_cases hFi : FF p i ≠ 0
                · have dF : decide (FF p i ≠ 0) = true := decide_eq_true hFi
                  by_cases hlast : 0 + 1 < ps.length
                  · have hst : ftIn ps (FF p) 0 (ftOut l.length ps FF 0) (i + 1) = upd g i (ps.getD (0 + 1) 0) := by rw [ftIn, if_pos ⟨hFi, hlast⟩, hG.out]
                    have HS := Hd.mk hst
                    clear hst
                    obtain ⟨ad8, e8, _, cp2⟩ := HV.out.S.price (0 + 1) hlast
                    injection e8 with e8
                    injection e8 with e8
                    subst e8
                    obtain ⟨p2, hp2⟩ : ∃ p2, ps.getD (0 + 1) 0 = p2 := ⟨_, rfl⟩
                    rw [hp2] at cp2 HS
                    clear hp2
                    have hlz : (0 : Int) + 1 < (ps.length : Int) := by omega
                    have hlz1 : (1 : Int) < (ps.length : Int) := by omega
                    have hFb : (FF p i != 0) = true := bne_iff_ne.mpr hFi
                    rw [show (0 : Nat) + 1 = 1 from rfl] at cp2
                    go_wp2_with fail
                    go_roundg (l.length - (i + 1))
                    case measure => omega
                    case rel =>
                      refine ⟨i + 1, by go_num, by omega, by omega, ⟨?_⟩⟩
                      rw [HS.out]
                      refine ((HV.out.set i hlt p).set i hlt p2).congr (fun j _ => ?_)
                      unfold upd
                      split <;> rfl
                  · have hst : ftIn ps (FF p) 0 (ftOut l.length ps FF 0) (i + 1) = upd g i p := by rw [ftIn, if_neg (fun hh => hlast hh.2), if_pos rfl, HPm.out, hG.out]
                    have HS := Hd.mk hst
                    clear hst
                    have hlz : ¬ (0 : Int) + 1 < (ps.length : Int) := by omega
                    have hlz1 : ¬ (1 : Int) < (ps.length : Int) := by omega
                    go_wp2_with fail
                    go_roundg (l.length - (i + 1))
                    case measure => omega
                    case rel =>
                      refine ⟨i + 1, by go_num, by omega, by omega, ⟨?_⟩⟩
                      rw [HS.out]
                      exact HV.out.set i hlt p
                · have dF : decide (FF p i ≠ 0) = false := decide_eq_false hFi
                  have hst : ftIn ps (FF p) 0 (ftOut l.length ps FF 0) (i + 1) = upd g i p := by rw [ftIn, if_neg (fun hh => hFi hh.1), if_pos rfl, HPm.out, hG.out]
                  have HS := Hd.mk hst
                  clear hst
                  go_wp2_with fail
                  go_roundg (l.length - (i + 1))
                  case measure => omega
                  case rel =>
                    refine ⟨i + 1, by go_num, by omega, by omega, ⟨?_⟩⟩
                    rw [HS.out]
                    exact HV.out.set i hlt p
              · by_cases hFi : FF p i ≠ 0
                · have dF : decide (FF p i ≠ 0) = true := decide_eq_true hFi
                  by_cases hlast : m + 1 < ps.length
                  · have hst : ftIn ps (FF p) m (ftOut l.length ps FF m) (i + 1) = upd g i (ps.getD (m + 1) 0) := by rw [ftIn, if_pos ⟨hFi, hlast⟩, hG.out]
                    have HS := Hd.mk hst
                    clear hst
                    obtain ⟨ad8, e8, _, cp2⟩ := HV.out.S.price (m + 1) hlast
                    injection e8 with e8
                    injection e8 with e8
                    subst e8
                    obtain ⟨p2, hp2⟩ : ∃ p2, ps.getD (m + 1) 0 = p2 := ⟨_, rfl⟩
                    rw [hp2] at cp2 HS
                    clear hp2
                    have hlz : ((m : Int) : Int) + 1 < (ps.length : Int) := by omega
                    have dm : decide ((m : Int) = 0) = false := decide_eq_false (by omega)
                    go_wp2_with fail
                    go_roundg (l.length - (i + 1))
                    case measure => omega
                    case rel =>
                      refine ⟨i + 1, by go_num, by omega, by omega, ⟨?_⟩⟩
                      rw [HS.out]
                      exact HV.out.set i hlt p2
                  · have hst : ftIn ps (FF p) m (ftOut l.length ps FF m) (i + 1) = g := by rw [ftIn, if_neg (fun hh => hlast hh.2), if_neg hm0, hG.out]
                    have HS := Hd.mk hst
                    clear hst
                    have hlz : ¬ ((m : Int) : Int) + 1 < (ps.length : Int) := by omega
                    have dm : decide ((m : Int) = 0) = false := decide_eq_false (by omega)
                    go_wp2_with fail
                    go_roundg (l.length - (i + 1))
                    case measure => omega
                    case rel =>
                      refine ⟨i + 1, by go_num, by omega, by omega, ⟨?_⟩⟩
                      rw [HS.out]
                      exact HV.out
                · have dF : decide (FF p i ≠ 0) = false := decide_eq_false hFi
                  have hst : ftIn ps (FF p) m (ftOut l.length ps FF m) (i + 1) = g := by rw [ftIn, if_neg (fun hh => hFi hh.1), if_neg hm0, hG.out]
                  have HS := Hd.mk hst
                  clear hst
                  have dm : decide ((m : Int) = 0) = false := decide_eq_false (by omega)
                  go_wp2_with fail
                  go_roundg (l.length - (i + 1))
                  case measure => omega
                  case rel =>
                    refine ⟨i + 1, by go_num, by omega, by omega, ⟨?_⟩⟩
                    rw [HS.out]
                    exact HV.out
            · have hltz : ¬ (i : Int) < (l.length : Int) := by omega
              obtain rfl : i = l.length := by omega
              have HV9 := HV
              clear HV
              go_wp2_with fail
              go_roundg (ps.length - (m + 1))
              case measure => omega
              case rel => exact ⟨m + 1, by go_num, by omega, by omega, ⟨by rw [ftOut, HPm.out]; exact HV9.out.S⟩⟩
        · have hlmz : ¬ (m : Int) < (ps.length : Int) := by omega
          obtain rfl : m = ps.length := by omega
          rw [← HFIT.out] at HS
          go_wp2_with fail
          go_loopg [14, 86] l.length (fun gg v14 v86 wr => ∃ (i : Nat), v86 = .int .i64 i ∧ v14 = .int .i64 (lossF l fit i) ∧ i ≤ l.length ∧ l.length - i ≤ gg ∧ Hd (SeB w A7 ps fb l.length wr fit))
          case atStart => exact ⟨0, rfl, rfl, Nat.zero_le _, by omega, HS⟩
          case round =>
            clear HS
            obtain ⟨i, rfl, rfl, hi, hgi, HS⟩ := hrel
            by_cases hlt : i < l.length
            · have hltz : (i : Int) < (l.length : Int) := by omega
              obtain ⟨ad, rfl, c0, c1, c2, c3, c4⟩ := at_T38 (HC.out _ HS.out.B) (i : Int) (by omega) (by omega)
              rw [Int.toNat_natCast] at c0 c1 c2 c3 c4
              have hq : rd_T38 l (i : Int) = qAt l i := rfl
              rw [hq] at c0 c1 c2 c3 c4
              clear hq
              have HLs := Hd.mk (lossF_range l fit HOK.out HFR.out i (by omega))
              have HLn := Hd.mk (lossF_range l fit HOK.out HFR.out (i + 1) hlt)
              have HOi := Hd.mk (HOK.out i hlt)
              have HFi := Hd.mk (HFR.out i hlt)
              have HLs1 := Hd.mk (show lossF l fit (i + 1) = lossF l fit i + (qAt l i).f2 * max ((qAt l i).f1 - fit i) (fit i - (qAt l i).f1) from rfl)
              obtain ⟨q, hq⟩ : ∃ q, qAt l i = q := ⟨_, rfl⟩
              have HQ := Hd.mk hq
              rw [hq] at c0 c1 c2 c3 c4 HLs1
              rw [show qA l i = q from hq] at HOi
              clear hq
              have x0 := Hd.mk (newQ_blk wr)
              have x1 := Hd.mk (putQ_blk (newQ_blk wr) q)
              have x2 := Hd.mk (HS.out.below (putQ_bel (newQ_bel wr) (Nat.le_refl _) q))
              clear HS
              obtain ⟨ln, hln⟩ : ∃ x, lossF l fit (i + 1) = x := ⟨_, rfl⟩
              rw [hln] at HLs1 HLn
              have HLN := Hd.mk hln
              clear hln
              obtain ⟨ls, hls⟩ : ∃ x, lossF l fit i = x := ⟨_, rfl⟩
              rw [hls] at HLs HLs1
              have HLS := Hd.mk hls
              rw [hls]
              clear hls
              go_wp2_with (first | ((with_reducible refine wpL_newQ rfl rfl ?_); go_simp) | ((with_reducible refine wpL_storeQ rfl _ _ rfl wr.heap.size z38 q rfl rfl x0.out ?_); clear x0 c0 c1 c2 c3 c4; generalize putQ (newQ wr) wr.heap.size q = w6 at x1 x2 ⊢; generalize wr.heap.size = qb at x1 ⊢; obtain ⟨c0, c1, c2, c3, c4⟩ := x1.out.cells; have gf := x2.out.X.cell i hlt; unfold encI at gf; go_simp))
              go_region
              have e : wrap64 (ls + wrap64 (q.f2 * max (wrap64 (q.f1 - fit i)) (wrap64 (fit i - q.f1)))) = ln := by
                obtain ⟨_, p1, p2, p3, p4⟩ := HOi.out
                obtain ⟨p5, p6⟩ := HFi.out
                have p7 := HLs.out
                have p8 := HLs1.out
                have p9 := HLn.out
                rw [w64 (x := q.f1 - fit i) (by omega) (by omega), w64 (x := fit i - q.f1) (by omega) (by omega)]
                have p10 := mul_range p3 p4 (b := max (q.f1 - fit i) (fit i - q.f1)) (by omega) (by omega)
                rw [w64 (x := q.f2 * max (q.f1 - fit i) (fit i - q.f1)) (by omega) (by omega), w64 (by omega) (by omega), p8]
              rw [e]
              have HS := Hd.mk (x2.out.drewN 1)
              have HLE := Hd.mk e
              clear e x1 x2 c0 c1 c2 c3 c4 gf
              go_wp2_with fail
              go_roundg (l.length - (i + 1))
              case measure => omega
              case rel => exact ⟨i + 1, by go_num, by rw [HLN.out], by omega, by omega, HS⟩
            · have hltz : ¬ (i : Int) < (l.length : Int) := by omega
              obtain rfl : i = l.length := by omega
              have HV := Hd.mk (HS.out.own (by omega))
              rw [← HL.out]
              go_wp2_with fail
              go_ret3
              exact ⟨_, rfl, HV.out, HS.out.B⟩
end Go.Proofs.Ytnbdfmdjedakcaa
