import Derived.Test.YthhgdndjnflklaaG14
namespace Go.Proofs.Ythhgdndjnflklaa
open Go.RowKit
set_option linter.unusedVariables false
set_option linter.unusedSimpArgs false

/-- group's loop. -/
def grpL (nx : Nat → Nat → Bool) (rec_ : Nat → (Nat → Bool) → Option (Nat × (Nat → Bool))) (s : Nat) : Nat → Nat → Nat → (Nat → Bool) → Option (Nat × (Nat → Bool))
  | 0, _, c, g => some (c, g)
  | d + 1, t, c, g =>
    if nx s t = true ∧ g t = false then (rec_ t g).bind fun r => if c + r.1 < 1000000 then grpL nx rec_ s d (t + 1) (c + r.1) r.2 else none
    else grpL nx rec_ s d (t + 1) c g
def groupS (n : Nat) (nx : Nat → Nat → Bool) : Nat → Nat → (Nat → Bool) → Option (Nat × (Nat → Bool))
  | 0, _, _ => none
  | k + 1, s, g => if s < n then grpL nx (groupS n nx k) s n 0 1 (upd g s true) else none

set_option maxHeartbeats 2000000 in
theorem group_any (gb bi n : Nat) (nx : Nat → Nat → Bool) : ∀ (k s : Nat) (g : Nat → Bool) (c : Nat) (g' : Nat → Bool) (w : World), groupS n nx k s g = some (c, g') → GBlk w gb n nx → BBlk w bi 63 24 n g →
    Calls Try.prog 40 #[.pointer (some ⟨gb, 0, none⟩), .int .i64 s, .pointer (some ⟨bi, 0, none⟩)] w fun e w' => e = .returned (.int .i64 c) ∧ (BBlk w' bi 63 24 n g' ∧ Below bi w w' ∧ ∀ x, x ≠ bi → w'.heap[x]? = w.heap[x]?) := by
  intro k
  induction k with
  | zero => intro s g c g' w h; simp [groupS] at h
  | succ k ih =>
    intro s g c g' w h hG hB
    simp only [groupS] at h
    split at h
    case isFalse => exact absurd h (by simp)
    rename_i hs
    have HR := Hd.mk h
    have HG := Hd.mk hG
    have HB := Hd.mk hB
    have IH := Hd.mk ih
    have hn := hG.le
    have hgn := hG.num
    have cs := hB.cell s hs
    have fs := hB.frozen s
    have hgb : gb ≠ bi := by
      obtain ⟨_, C, hC, _⟩ := hG
      obtain ⟨D, hD, _⟩ := hB
      intro e
      rw [e, hD] at hC
      simp at hC
    have i1 : (s : Int) < 24 := by omega
    have j1 : (0 : Int) ≤ s := by omega
    have HB1 := Hd.mk (hB.set s hs true)
    have HG1 := Hd.mk (hG.of_heap (w' := w.setCell ⟨bi, s, none⟩ (.bool true)) (heap_set_ne _ _ _ _ _ hgb))
    have hgn1 := HG1.out.num
    have HW1 := Hd.mk (bel_set (Below.refl bi w) (Nat.le_refl _) s (.bool true))
    have HK1 := Hd.mk (show ∀ x, x ≠ bi → (w.setCell ⟨bi, s, none⟩ (.bool true)).heap[x]? = w.heap[x]? from fun x hx => heap_set_ne _ _ _ _ _ hx)
    clear h hG hB ih HG HB
    go_enter Try.func40, Try.ntmps40
    go_upto_region 4 with (fail)
    clear hgn cs fs hgn1
    go_loopg [7, 17] n (fun kq v7 v17 wr => ∃ (t cnt : Nat) (g1 : Nat → Bool), v7 = .int .i64 cnt ∧ v17 = .int .i64 t ∧ Hd (t + kq = n) ∧ Hd (cnt < 1000000) ∧ Hd (grpL nx (groupS n nx k) s kq t cnt g1 = some (c, g')) ∧ Hd (GBlk wr gb n nx) ∧ Hd (BBlk wr bi 63 24 n g1) ∧ Hd (Below bi w wr) ∧
      Hd (∀ x, x ≠ bi → wr.heap[x]? = w.heap[x]?))
    case atStart => exact ⟨0, 1, _, rfl, rfl, ⟨by omega⟩, ⟨by omega⟩, HR, HG1, HB1, HW1, HK1⟩
    case round =>
      obtain ⟨t, cnt, g1, rfl, rfl, HK, HC, HX, HG, HB, HW, HU⟩ := hrel
      clear HR HG1 HB1 HW1 HK1
      cases gk with
      | zero =>
        have ht := HK.out
        have hlt : ¬ (t : Int) < n := by omega
        have hx := HX.out
        simp only [grpL, Option.some.injEq, Prod.mk.injEq] at hx
        obtain ⟨rfl, rfl⟩ := hx
        clear ht HX
        go_wp2_with fail
        go_ret
        exact ⟨rfl, HB.out, HW.out, HU.out⟩
      | succ k1 =>
        have ht := HK.out
        have hlt : (t : Int) < n := by omega
        have hlt' : t < n := by omega
        have i2 : (t : Int) < 24 := by omega
        have j2 : (0 : Int) ≤ t := by omega
        have cn := HG.out.getNx s t hs hlt'
        have ct := HB.out.cell t hlt'
        have hx := HX.out
        have hcn := HC.out
        simp only [grpL] at hx
        clear ht HX
        cases t1 : nx s t with
        | false =>
          rw [t1] at cn hx
          rw [if_neg (by simp)] at hx
          have HX := Hd.mk hx
          clear hx t1
          go_wp2_with fail
          go_roundg k1
          case measure => omega
          case rel => exact ⟨t + 1, cnt, g1, rfl, by go_num, ⟨by have := HK.out; omega⟩, HC, HX, HG, HB, HW, HU⟩
        | true =>
          rw [t1] at cn hx
          cases t2 : g1 t with
          | true =>
            rw [t2] at ct hx
            rw [if_neg (by simp)] at hx
            have HX := Hd.mk hx
            clear hx t1 t2
            go_wp2_with fail
            go_roundg k1
            case measure => omega
            case rel => exact ⟨t + 1, cnt, g1, rfl, by go_num, ⟨by have := HK.out; omega⟩, HC, HX, HG, HB, HW, HU⟩
          | false =>
            rw [t2] at ct hx
            rw [if_pos ⟨rfl, rfl⟩] at hx
            obtain ⟨⟨rc, rg⟩, hr, hx2⟩ := Option.bind_eq_some_iff.1 hx
            have HRc := Hd.mk hr
            clear hx t1 t2 hr
            split at hx2
            case isFalse => exact absurd hx2 (by simp)
            rename_i hsum
            have hsum' : cnt + rc < 1000000 := hsum
            have HX := Hd.mk hx2
            clear hx2 hsum
            go_wp2_with fail
            refine (IH.out t g1 rc rg wr HRc.out HG.out HB.out).mono ?_
            rintro e w5 ⟨rfl, h1, h2, h3⟩
            have HB5 := Hd.mk h1
            have HG5 := Hd.mk (HG.out.of_heap (w' := w5) (h3 _ hgb))
            have HW5 := Hd.mk (HW.out.trans h2)
            have HU5 := Hd.mk (show ∀ x, x ≠ bi → w5.heap[x]? = w.heap[x]? from fun x hx => (h3 x hx).trans (HU.out x hx))
            clear h1 h2 h3 HG HB HW HU ct cn
            go_wp2_with fail
            go_roundg k1
            case measure => omega
            case rel => exact ⟨t + 1, cnt + rc, rg, by go_num, by go_num, ⟨by have := HK.out; omega⟩, ⟨hsum'⟩, HX, HG5, HB5, HW5, HU5⟩

/-- Odd's first loop: the stones that are taken away; none: a list that is none. -/
def oddA (n : Nat) (zs : List Int) : Nat → Nat → (Nat → Bool) → Option (Nat → Bool)
  | 0, _, g => some g
  | d + 1, i, g =>
    if zs.getD i 0 < 0 then none
    else if (n : Int) ≤ zs.getD i 0 then none
    else if 0 < i ∧ zs.getD i 0 ≤ zs.getD (i - 1) 0 then none
    else oddA n zs d (i + 1) (upd g (zs.getD i 0).toNat true)
/-- Odd's second loop. -/
def oddB (n : Nat) (nx : Nat → Nat → Bool) : Nat → Nat → Nat → (Nat → Bool) → Option Nat
  | 0, _, o, _ => some o
  | d + 1, s, o, g => if g s = true then oddB n nx d (s + 1) o g else (groupS n nx K0 s g).bind fun r => oddB n nx d (s + 1) (o + r.1 % 2) r.2
def oddF (n : Int) (es : List (Int × Int)) (zs : List Int) : Option (Int × Int) :=
  match chkS n es with
  | .error x => some (0, x)
  | .ok (m, nx) => match oddA m zs zs.length 0 (fun _ => false) with
    | none => some (0, 2)
    | some g => (oddB m nx m 0 0 g).map fun (o : Nat) => ((o : Int), (0 : Int))
theorem oddB_le {n : Nat} {nx : Nat → Nat → Bool} : ∀ (d s o : Nat) (g : Nat → Bool) (r : Nat), oddB n nx d s o g = some r → r ≤ o + d
  | 0, s, o, g, r, h => by simp only [oddB, Option.some.injEq] at h; omega
  | d + 1, s, o, g, r, h => by
    simp only [oddB] at h
    split at h
    · have := oddB_le d _ _ _ _ h; omega
    · obtain ⟨x, _, h2⟩ := Option.bind_eq_some_iff.1 h
      have := oddB_le d _ _ _ _ h2
      have h3 : x.1 % 2 < 2 := Nat.mod_lt _ (by omega)
      omega

theorem gen_wp {P : Program} {c : Code} {Q : Exit → Act → World → Prop} {a : Act} {W : World} (I : World → Prop) (h : I W) (k : ∀ w, I w → c.wp P Q a w) : c.wp P Q a W := k W h
def OddPost (w : World) (r : Option (Int × Int)) (e : Ending) (w' : World) : Prop := Below w.heap.size w w' ∧ ∀ r0 r1, r = some (r0, r1) → e = .returned (.tuple #[.int .i64 r0, .int .i64 r1])

set_option maxRecDepth 100000 in
set_option maxHeartbeats 2000000 in
theorem oddF_any (w : World) (n : Int) (A : Option Addr) (c : Nat) (es : List (Int × Int)) (A2 : Option Addr) (c2 : Nat) (zs : List Int) (hE : RdE w A es) (hZ : RdZ w A2 zs) (hl : zs.length ≤ 1000000) (r0 r1 : Int) (h : oddF n es zs = some (r0, r1)) :
    Calls Try.prog 31 #[.int .i64 n, .slice A es.length c, .slice A2 zs.length c2] w fun e w' => e = .returned (.tuple #[.int .i64 r0, .int .i64 r1]) ∧ Below w.heap.size w w' := by
  unfold oddF at h
  have HE := Hd.mk hE
  have HZ := Hd.mk hZ
  clear hE hZ
  cases hc : chkS n es with
  | error x =>
    rw [hc] at h
    simp only [Option.some.injEq, Prod.mk.injEq] at h
    obtain ⟨rfl, rfl⟩ := h
    have hx : (x != 0) = true := by rcases chkS_err hc with rfl | rfl <;> rfl
    have HC := Hd.mk hc
    clear hc
    go_enter Try.func31, Try.ntmps31
    go_wp2_with fail
    refine (checked_err w n A c es HE.out x HC.out).mono ?_
    rintro e w1 ⟨rfl, g1⟩
    go_wp2_with fail
    go_ret2
    exact ⟨rfl, g1⟩
  | ok p =>
    obtain ⟨m, nx⟩ := p
    rw [hc] at h
    simp only at h
    obtain ⟨rfl, hm24, _⟩ := chkS_ok hc
    have HC := Hd.mk hc
    have HH := Hd.mk h
    clear hc h
    go_enter Try.func31, Try.ntmps31
    go_wp2_with fail
    refine (checked_ok w m A c es HE.out m nx HC.out).mono ?_
    rintro e w1 ⟨b, rfl, g1, g2, g3⟩
    have HG := Hd.mk g1
    have HB := Hd.mk g3
    clear g1 g3
    go_upto_region 6 with (fail)
    obtain ⟨bi, hbi⟩ : ∃ bi, bi = w1.heap.size := ⟨_, rfl⟩
    rw [← hbi]
    refine gen_wp (fun wq => BBlk wq bi 63 24 m (fun _ => false) ∧ GBlk wq b m nx ∧ Below w.heap.size w wq) ?_ ?_
    · rw [hbi]
      exact ⟨BBlk_new w1 m hm24 _ rfl, HG.out.of_heap (alloc_old w1 _ _ HG.out.lt), HB.out.alloc HB.out.size _⟩
    intro wq ⟨q1, q2, q3⟩
    have hgb : b ≠ bi := by rw [hbi]; have := HG.out.lt; omega
    have hbs : w.heap.size ≤ bi := by rw [hbi]; exact HB.out.size
    have HBB := Hd.mk q1
    have HG1 := Hd.mk q2
    have HB1 := Hd.mk q3
    obtain ⟨ra, hra⟩ : ∃ ra, oddA m zs zs.length 0 (fun _ => false) = ra := ⟨_, rfl⟩
    have HRA := Hd.mk hra
    have HH2 := HH.out
    rw [hra] at HH2
    have HH3 := Hd.mk HH2
    clear q1 q2 q3 HG HB HH hra HH2 HE HC hbi
    go_loopg [26] zs.length (fun kq v26 wr => ∃ (i : Nat) (g : Nat → Bool), v26 = .int .i64 i ∧ Hd (i + kq = zs.length) ∧ Hd (oddA m zs kq i g = ra) ∧ Hd (BBlk wr bi 63 24 m g) ∧ Hd (GBlk wr b m nx) ∧ Hd (Below w.heap.size w wr))
    case atStart => exact ⟨0, _, rfl, ⟨by omega⟩, HRA, HBB, HG1, HB1⟩
    case round =>
      obtain ⟨i, g, rfl, HK, HX, HBB, HG, HB⟩ := hrel
      clear HRA HG1 HB1
      cases gk with
      | zero =>
        have hi := HK.out
        have hlt : ¬ (i : Int) < zs.length := by omega
        have hx := HX.out
        simp only [oddA] at hx
        subst hx
        obtain ⟨o, ho, h2⟩ := Option.map_eq_some_iff.1 (show (oddB m nx m 0 0 g).map (fun (o : Nat) => ((o : Int), (0 : Int))) = some (r0, r1) from HH3.out)
        simp only [Prod.mk.injEq] at h2
        obtain ⟨rfl, rfl⟩ := h2
        have HO := Hd.mk ho
        clear hi HX HH3 ho
        go_upto_region 14 with (fail)
        go_loopg [13, 55] m (fun kq v13 v55 wr => ∃ (s o1 : Nat) (g : Nat → Bool), v13 = .int .i64 o1 ∧ v55 = .int .i64 s ∧ Hd (s + kq = m) ∧ Hd (o1 ≤ s) ∧ Hd (oddB m nx kq s o1 g = some o) ∧ Hd (BBlk wr bi 63 24 m g) ∧ Hd (GBlk wr b m nx) ∧ Hd (Below w.heap.size w wr))
        case atStart => exact ⟨0, 0, g, rfl, rfl, ⟨by omega⟩, ⟨Nat.le_refl _⟩, HO, HBB, HG, HB⟩
        case round =>
          obtain ⟨s, o1, g, rfl, rfl, HK, HL, HX, HBB, HG, HB⟩ := hrel
          clear HO
          cases gk with
          | zero =>
            have hi := HK.out
            have hlt : ¬ (s : Int) < m := by omega
            have hx := HX.out
            simp only [oddB, Option.some.injEq] at hx
            subst hx
            clear hi HX
            go_wp2_with fail
            go_ret2
            exact ⟨rfl, HB.out⟩
          | succ k1 =>
            have hi := HK.out
            have hlt : (s : Int) < m := by omega
            have hlt' : s < m := by omega
            have i1 : (s : Int) < 24 := by omega
            have j1 : (0 : Int) ≤ s := by omega
            have hob := HL.out
            have cg := HBB.out.cell s hlt'
            have hx := HX.out
            clear hi HX
            simp only [oddB] at hx
            cases t1 : g s with
            | true =>
              rw [t1] at hx cg
              rw [if_pos rfl] at hx
              have HX := Hd.mk hx
              clear hx t1
              go_wp2_with fail
              go_roundg k1
              case measure => omega
              case rel => exact ⟨s + 1, o1, g, rfl, by go_num, ⟨by have := HK.out; omega⟩, ⟨by have := HL.out; omega⟩, HX, HBB, HG, HB⟩
            | false =>
              rw [t1] at hx cg
              rw [if_neg (by simp)] at hx
              obtain ⟨⟨rc, rg⟩, hr, hx2⟩ := Option.bind_eq_some_iff.1 hx
              have HRc := Hd.mk hr
              have HX := Hd.mk hx2
              clear hx t1 hr hx2
              go_wp2_with fail
              refine (group_any b bi m nx K0 s g rc rg wr HRc.out HG.out HBB.out).mono ?_
              rintro e w5 ⟨rfl, h1, h2, h3⟩
              have HBB5 := Hd.mk h1
              have HG5 := Hd.mk (HG.out.of_heap (w' := w5) (h3 _ hgb))
              have HB5 := Hd.mk (HB.out.trans (h2.mono hbs))
              have hm2 : (rc : Int) % 2 < 2 := Int.emod_lt_of_pos _ (by omega)
              have hm0 : 0 ≤ (rc : Int) % 2 := Int.emod_nonneg _ (by omega)
              clear h1 h2 h3 HG HBB HB cg
              go_wp2_with fail
              go_roundg k1
              case measure => omega
              case rel => exact ⟨s + 1, o1 + rc % 2, rg, by go_num, by go_num, ⟨by have := HK.out; omega⟩, ⟨by have := HL.out; omega⟩, HX, HBB5, HG5, HB5⟩
      | succ k1 =>
        have hi := HK.out
        have hlt : (i : Int) < zs.length := by omega
        have hlt' : i < zs.length := by omega
        have HZr := Hd.mk (HZ.out.below HB.out)
        obtain ⟨ad, rfl, hc⟩ := HZr.out i hlt'
        have hx := HX.out
        clear hi HX
        simp only [oddA] at hx
        have hpr : 0 < i → wr.cell? (ad.add (i - 1)) = some (.int .i64 (zs.getD (i - 1) 0)) := by
          intro h0
          obtain ⟨ad', e, h⟩ := HZr.out (i - 1) (by omega)
          injection e with e
          rw [e]; exact h
        obtain ⟨z, hz⟩ : ∃ z, z = zs.getD i 0 := ⟨_, rfl⟩
        obtain ⟨y, hy⟩ : ∃ y, y = zs.getD (i - 1) 0 := ⟨_, rfl⟩
        rw [← hy] at hpr
        rw [← hz] at hc
        simp only [← hz, ← hy] at hx
        clear hz hy
        by_cases t1 : z < 0
        · rw [if_pos t1] at hx
          subst hx
          have hh := Option.some.inj HH3.out
          simp only [Prod.mk.injEq] at hh
          obtain ⟨rfl, rfl⟩ := hh
          clear HH3 hpr
          go_wp2_with fail
          go_ret2
          exact ⟨rfl, HB.out⟩
        rw [if_neg t1] at hx
        by_cases t2 : (m : Int) ≤ z
        · rw [if_pos t2] at hx
          subst hx
          have hh := Option.some.inj HH3.out
          simp only [Prod.mk.injEq] at hh
          obtain ⟨rfl, rfl⟩ := hh
          clear HH3 hpr
          go_wp2_with fail
          go_ret2
          exact ⟨rfl, HB.out⟩
        rw [if_neg t2] at hx
        obtain ⟨q, rfl⟩ : ∃ q : Nat, z = q := ⟨z.toNat, by omega⟩
        have hqm : q < m := by omega
        have i1 : (q : Int) < 24 := by omega
        have j1 : (0 : Int) ≤ q := by omega
        have cq := HBB.out.cell q hqm
        have fq := HBB.out.frozen q
        by_cases t3 : 0 < i
        · have hp := hpr t3
          have i3 : (i : Int) - 1 < zs.length := by omega
          have j3 : (0 : Int) ≤ (i : Int) - 1 := by omega
          have e3 : ((i : Int) - 1).toNat = i - 1 := by omega
          have b3 : (0 : Int) < i := by omega
          by_cases t4 : (q : Int) ≤ y
          · rw [if_pos ⟨t3, t4⟩] at hx
            subst hx
            have hh := Option.some.inj HH3.out
            simp only [Prod.mk.injEq] at hh
            obtain ⟨rfl, rfl⟩ := hh
            clear HH3 hpr
            go_wp2_with fail
            go_ret2
            exact ⟨rfl, HB.out⟩
          · rw [if_neg (by intro h; exact t4 h.2)] at hx
            rw [Int.toNat_natCast] at hx
            have HX := Hd.mk hx
            have HBB2 := Hd.mk (HBB.out.set q hqm true)
            have HG2 := Hd.mk (HG.out.of_heap (w' := wr.setCell ⟨bi, q, none⟩ (.bool true)) (heap_set_ne _ _ _ _ _ hgb))
            have HB2 := Hd.mk (bel_set HB.out hbs q (.bool true))
            clear hx hpr HBB HG HB HZr
            go_wp2_with fail
            go_roundg k1
            case measure => omega
            case rel => exact ⟨i + 1, _, by go_num, ⟨by have := HK.out; omega⟩, HX, HBB2, HG2, HB2⟩
        · rw [if_neg (by intro h; exact t3 h.1)] at hx
          have hi0 : i = 0 := by omega
          subst hi0
          have hc0 : wr.cell? ad = some (.int .i64 q) := by simpa [Addr.add] using hc
          rw [Int.toNat_natCast] at hx
          have HX := Hd.mk hx
          have HBB2 := Hd.mk (HBB.out.set q hqm true)
          have HG2 := Hd.mk (HG.out.of_heap (w' := wr.setCell ⟨bi, q, none⟩ (.bool true)) (heap_set_ne _ _ _ _ _ hgb))
          have HB2 := Hd.mk (bel_set HB.out hbs q (.bool true))
          clear hx hpr HBB HG HB HZr
          go_wp2_with fail
          go_roundg k1
          case measure => omega
          case rel => exact ⟨1, _, rfl, ⟨by have := HK.out; omega⟩, HX, HBB2, HG2, HB2⟩
end Go.Proofs.Ythhgdndjnflklaa
