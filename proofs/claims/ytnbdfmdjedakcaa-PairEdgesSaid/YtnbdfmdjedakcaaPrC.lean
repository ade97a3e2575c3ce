/- Several texts in one: G6 G7 G8 G9 G10 G11 G12 G13 G14 G15. No conditions. -/
import Derived.Test.YtnbdfmdjedakcaaPrB
import Derived.Deep.WholeRow
namespace Go.Proofs.Ytnbdfmdjedakcaa.Pr
open Go.RowKit
set_option linter.unusedVariables false
set_option linter.unusedSimpArgs false

/-- A slice of numbers that the call made: a whole row. -/
def NRow (w : World) (b n cap : Nat) (f : Nat → Nat) : Prop :=
  ∃ C, w.heap[b]? = some (.cells C 3 (0, 0)) ∧ C.size = cap ∧ n ≤ cap ∧ cap ≤ maxLen ∧ ∀ j, j < n → C[j]? = some (.int .i64 (f j))
section
variable {w w' : World} {b n cap : Nat} {f g : Nat → Nat}
theorem NRow.blk (h : NRow w b n cap f) : NBlk w b n f := by
  obtain ⟨C, h1, h2, h3, _, h4⟩ := h
  exact ⟨C, h1, by omega, h4⟩
theorem NRow.of_heap (h : NRow w b n cap f) (e : w'.heap[b]? = w.heap[b]?) : NRow w' b n cap f := by
  obtain ⟨C, hC, r⟩ := h
  exact ⟨C, e.trans hC, r⟩
theorem NRow.set (h : NRow w b n cap f) (j : Nat) (hj : j < n) (x : Nat) : NRow (w.setCell ⟨b, j, none⟩ (.int .i64 x)) b n cap (upd f j x) := by
  obtain ⟨C, hC, hs, hn, hm, hf⟩ := h
  refine ⟨_, heap_set w b j _ C _ _ hC, by simpa using hs, hn, hm, fun i hi => ?_⟩
  rw [set_get C j i _ (by omega)]
  unfold upd
  split <;> simp_all
theorem NRow.congr (h : NRow w b n cap f) (e : ∀ j, j < n → f j = g j) : NRow w b n cap g := by
  obtain ⟨C, hC, h1, h2, h3, hf⟩ := h
  exact ⟨C, hC, h1, h2, h3, fun j hj => by rw [hf j hj, e j hj]⟩
theorem NRow.lt (h : NRow w b n cap f) : b < w.heap.size := h.blk.lt
end
def ilist (n : Nat) (f : Nat → Nat) : List Int := (List.range n).map fun j => (f j : Int)
theorem ilist_length (n : Nat) (f : Nat → Nat) : (ilist n f).length = n := by simp [ilist]
theorem NRow.of_own {w : World} {base n : Nat} {v : Value} {f : Nat → Nat} (hn : 0 < n) (h : w.ownsRow base 3 1 v n ((ilist n f).map fun x => Value.int .i64 x)) :
    ∃ b cap, v = .slice (some ⟨b, 0, none⟩) n cap ∧ base ≤ b ∧ NRow w b n cap f := by
  obtain ⟨h1, h2⟩ := h
  rcases h2 with ⟨_, h2⟩ | ⟨g, cap, cur, rfl, hg, hh, h3, h4, h5, h6⟩
  · omega
  · refine ⟨g, cap, rfl, hg, cur, hh, by simpa using h5, h3, h4, fun j hj => ?_⟩
    have e1 : (cur.toList.take (n * 1))[j]? = cur[j]? := by
      rw [List.getElem?_take, if_pos (by simpa using hj)]
      simp
    rw [← e1, h6]
    simp [ilist, hj]

/-- Numbers that are read. -/
def RdN (w : World) (A : Option Addr) (n : Nat) (M : Nat → Nat) : Prop := ∃ ad, A = some ad ∧ ∀ j, j < n → w.cell? (ad.add j) = some (.int .i64 (M j))
theorem RdN.below {w w' : World} {A : Option Addr} {n : Nat} {M : Nat → Nat} (h : RdN w A n M) (hb : Below w.heap.size w w') : RdN w' A n M := by
  obtain ⟨ad, e, h⟩ := h
  exact ⟨ad, e, fun j hj => (hb.cell (World.block_lt_of_cell? w _ (h j hj))).trans (h j hj)⟩
theorem NRow.rd {w : World} {b n cap : Nat} {f : Nat → Nat} (h : NRow w b n cap f) : RdN w (some ⟨b, 0, none⟩) n f :=
  ⟨_, rfl, fun j hj => by rw [Addr.add_lit, Nat.zero_add]; exact h.blk.cell j hj⟩

theorem clone_any (w : World) (A : Option Addr) (n cap : Nat) (M : Nat → Nat) (hn : 0 < n) (hn2 : n ≤ 1000) (h : RdN w A n M) :
    Calls Try.prog 154 #[.slice A n cap] w fun e w' => ∃ b cap', e = .returned (.slice (some ⟨b, 0, none⟩) n cap') ∧ (NRow w' b n cap' M ∧ w.heap.size ≤ b ∧ Below w.heap.size w w') := by
  obtain ⟨ad, rfl, hc⟩ := h
  have hnil : ∀ w : World, (binOp .eql 28 (.slice (some ad) n cap) (.slice none 0 0)).run Try.prog w = .ok (.bool false) w := fun w => Lib.run_eql_slice_nil (P := Try.prog) w 28 3 (some ad) n cap 0 0 Try.underlying28
  obtain ⟨i0, hi, hzz⟩ := Option.map_eq_some_iff.1 tinfo3
  simp only [Prod.mk.injEq] at hzz
  obtain ⟨hz0, hz1, hz2⟩ := hzz
  have hnews : ∀ j u, ((ilist n M).map fun x => Value.int .i64 x)[j]? = some u → (w.alloc (.cells #[] 3)).cell? (ad.add j) = some u := by
    intro j u hj
    have hjl : j < n := by
      have := (List.getElem?_eq_some_iff.1 hj).1
      simpa [ilist] using this
    have hcj := hc j hjl
    have hb := World.block_lt_of_cell? w _ hcj
    rw [show (w.alloc (.cells #[] 3)).cell? (ad.add j) = w.cell? (ad.add j) from by simp only [World.cell?, alloc_old w _ _ hb], hcj]
    simp [ilist, hjl] at hj
    rw [← hj]
  have HN := Hd.mk hnews
  have hone : ∀ u ∈ ((ilist n M).map fun x => Value.int .i64 x), u.oneCell' = true := by
    intro u hu
    obtain ⟨x, _, rfl⟩ := List.mem_map.1 hu
    rfl
  have HO := Hd.mk hone
  have HI := Hd.mk (And.intro hi (And.intro hz0 (And.intro hz1 hz2)))
  clear hnews hone hc hi hz0 hz1 hz2
  go_enter Try.func154, Try.ntmps154
  go_wp2_with (at_builtin; go_must (refine wpList_append_grows _ rfl (.tmp 5) (.tmp 6) 28 rfl 3 i0 (.int .i64 0) 1 8 Try.underlying28 HI.out.1 HI.out.2.1 HI.out.2.2.1 HI.out.2.2.2 rfl (by decide) (some ⟨w.heap.size, 0, none⟩) 0 0 [] rfl (by simp) rfl (by intro b _ j u hj; simp at hj) ad n cap ((ilist n M).map fun x => Value.int .i64 x) rfl (by simp [ilist]) HN.out HO.out (by omega) (by unfold maxLen; omega) (by omega) ?_))
  intro v1 w1 r1 r2
  obtain ⟨b, cap', rfl, hb, hrow⟩ := NRow.of_own hn r1
  have HR := Hd.mk hrow
  have HB := Hd.mk (show Below w.heap.size w w1 from ((Below.refl _ w).alloc (Nat.le_refl _) (.cells #[] 3)).grown r2 (by show w.heap.size ≤ (w.heap.push _).size; simp) (by simp))
  have hb2 : w.heap.size ≤ b := by omega
  clear r1 r2 hrow hnil hb
  go_wp2_with fail
  go_ret
  exact ⟨b, cap', rfl, HR.out, hb2, HB.out⟩
/-- grown's loop: the way's edges change sides. -/
def augS (n : Nat) (pa : Nat → Int) : Nat → Nat → (Nat → Nat) → Option (Nat → Nat)
  | 0, _, _ => none
  | k + 1, v, M =>
    if v < n ∧ 0 ≤ pa v ∧ (pa v).toNat < n ∧ (pa v).toNat ≠ v then
      if M (pa v).toNat = n then some (upd (upd M v (pa v).toNat) (pa v).toNat v)
      else augS n pa k (M (pa v).toNat) (upd (upd M v (pa v).toNat) (pa v).toNat v)
    else none
def grownS (n : Nat) (M : Nat → Nat) (nx : Nat → Nat → Bool) (k root : Nat) : Option (Option (Nat → Nat)) :=
  (searchS n M nx k root).bind fun r => if r.2 < 0 then some none else (augS n r.1.pa k r.2.toNat M).map some

theorem FBlk_new (w : World) (gb n : Nat) (mv : Value) (hn : n ≤ 24) (cs : Array Value) (h : cs = (.pointer (some ⟨gb, 0, none⟩) :: mv :: (List.replicate 48 (Value.int .i64 0) ++ (List.replicate 24 (.bool false) ++ [.slice none 0 0]))).toArray) :
    FBlk (w.alloc (.cells cs 167)) w.heap.size gb n mv (.slice none 0 0) (fun _ => 0) (fun _ => 0) (fun _ => false) := by
  subst h
  refine ⟨hn, _, alloc_new w _, by simp, by simp, by simp, fun i hi => ?_, fun i hi => ?_, fun i hi => ?_, by simp⟩
  · simp only [List.getElem?_toArray]
    rw [show 2 + i = i + 1 + 1 by omega, List.getElem?_cons_succ, List.getElem?_cons_succ, List.getElem?_append_left (by simp; omega)]
    exact (List.getElem?_replicate ..).trans (if_pos (by omega))
  · simp only [List.getElem?_toArray]
    rw [show 26 + i = (24 + i) + 1 + 1 by omega, List.getElem?_cons_succ, List.getElem?_cons_succ, List.getElem?_append_left (by simp; omega)]
    exact (List.getElem?_replicate ..).trans (if_pos (by omega))
  · simp only [List.getElem?_toArray]
    rw [show 50 + i = (48 + i) + 1 + 1 by omega, List.getElem?_cons_succ, List.getElem?_cons_succ, List.getElem?_append_right (by simp), List.length_replicate, List.getElem?_append_left (by simp; omega)]
    exact (List.getElem?_replicate ..).trans (if_pos (by omega))
theorem zero75 : ∀ w : World, (zeroValue 167).run Try.prog w = .ok (.agg #[.pointer none, .slice none 0 0, .int .i64 0, .int .i64 0, .int .i64 0, .int .i64 0, .int .i64 0, .int .i64 0, .int .i64 0, .int .i64 0, .int .i64 0, .int .i64 0, .int .i64 0, .int .i64 0, .int .i64 0, .int .i64 0, .int .i64 0, .int .i64 0, .int .i64 0, .int .i64 0, .int .i64 0, .int .i64 0, .int .i64 0, .int .i64 0, .int .i64 0, .int .i64 0, .int .i64 0, .int .i64 0, .int .i64 0, .int .i64 0, .int .i64 0, .int .i64 0, .int .i64 0, .int .i64 0, .int .i64 0, .int .i64 0, .int .i64 0, .int .i64 0, .int .i64 0, .int .i64 0, .int .i64 0, .int .i64 0, .int .i64 0, .int .i64 0, .int .i64 0, .int .i64 0, .int .i64 0, .int .i64 0, .int .i64 0, .int .i64 0, .bool false, .bool false, .bool false, .bool false, .bool false, .bool false, .bool false, .bool false, .bool false, .bool false, .bool false, .bool false, .bool false, .bool false, .bool false, .bool false, .bool false, .bool false, .bool false, .bool false, .bool false, .bool false, .bool false, .bool false, .slice none 0 0]) w := fun _ => by kernel_rfl

set_option maxHeartbeats 4000000 in
theorem grown_no (w : World) (gb root k n cap : Nat) (A : Option Addr) (nx : Nat → Nat → Bool) (M : Nat → Nat) (hG : GBlk w gb n nx) (hle : ∀ v, v < n → M v ≤ n) (hR : RdN w A n M) (hroot : root < n)
   (hr : grownS n M nx k root = some none) :
    Calls Try.prog 139 #[.pointer (some ⟨gb, 0, none⟩), .slice A n cap, .int .i64 root] w fun e w' => e = .returned (.tuple #[.slice none 0 0, .bool false]) ∧ Below w.heap.size w w' := by
  obtain ⟨⟨S, r⟩, hs, hr2⟩ := Option.bind_eq_some_iff.1 hr
  by_cases hlt : r < 0
  case neg =>
    simp only [if_neg hlt] at hr2
    cases h : augS n S.pa k r.toNat M <;> simp [h] at hr2
  have HS := Hd.mk hs
  have HG := Hd.mk hG
  have HR := Hd.mk hR
  have HL := Hd.mk hle
  have hn := hG.le
  clear hr hr2 hs hG hR hle
  have hz75 := zero75
  go_enter Try.func139, Try.ntmps139
  go_wp2_with fail
  refine (clone_any w A n cap M (by omega) (by omega) HR.out).mono ?_
  rintro e w1 ⟨b, cap', rfl, g1, g2, g3⟩
  have HN1 := Hd.mk g1
  have HG1 := Hd.mk (HG.out.of_heap (w' := w1) (g3.block _ HG.out.lt))
  have HB1 := Hd.mk g3
  clear g1 g3
  go_wp2_with fail
  have hfb := FBlk_new w1 gb n (.slice (some ⟨b, 0, none⟩) n cap') hn _ rfl
  have hFo : Fo _ w1.heap.size gb b n cap' nx M (fun _ => 0) (fun _ => 0) (fun _ => false) (.slice none 0 0) := ⟨hfb, HG1.out.of_heap (alloc_old w1 _ _ HG1.out.lt), HN1.out.blk.of_heap (alloc_old w1 _ _ HN1.out.lt), HL.out⟩
  refine (search_any _ w1.heap.size w1.heap.size gb b n cap' root k nx M _ _ _ S r (Nat.le_refl _) HN1.out.lt HG1.out.lt hFo HS.out).mono ?_
  clear hfb hFo
  rintro e w2 ⟨rfl, g1, g2⟩
  have HB2 := Hd.mk (HB1.out.trans (((Below.refl _ w1).alloc (Nat.le_refl _) _).trans g2 |>.mono HB1.out.size))
  clear g1 g2 hz75 HB1 HG1 HN1
  go_wp2_with fail
  go_ret2
  exact ⟨rfl, HB2.out⟩

set_option maxHeartbeats 4000000 in
theorem grown_yes (w : World) (gb root k n cap : Nat) (A : Option Addr) (nx : Nat → Nat → Bool) (M M' : Nat → Nat) (hG : GBlk w gb n nx) (hle : ∀ v, v < n → M v ≤ n) (hR : RdN w A n M) (hroot : root < n)
   (hr : grownS n M nx k root = some (some M')) :
    Calls Try.prog 139 #[.pointer (some ⟨gb, 0, none⟩), .slice A n cap, .int .i64 root] w fun e w' => ∃ b cap', e = .returned (.tuple #[.slice (some ⟨b, 0, none⟩) n cap', .bool true]) ∧
      (NRow w' b n cap' M' ∧ w.heap.size ≤ b ∧ Below w.heap.size w w') := by
  obtain ⟨⟨S, r⟩, hs, hr2⟩ := Option.bind_eq_some_iff.1 hr
  by_cases hlt : r < 0
  case pos => simp only [if_pos hlt] at hr2; exact absurd hr2 (by simp)
  simp only [if_neg hlt] at hr2
  obtain ⟨M1, haug, hM1⟩ := Option.map_eq_some_iff.1 hr2
  obtain rfl := Option.some.inj hM1
  have HA := Hd.mk haug
  have HS := Hd.mk hs
  have HG := Hd.mk hG
  have HR := Hd.mk hR
  have HL := Hd.mk hle
  have hn := hG.le
  have HZ := Hd.mk (Int.toNat_of_nonneg (Int.not_lt.1 hlt))
  clear hr hr2 hs hG hR hle haug hM1
  have hz75 := zero75
  go_enter Try.func139, Try.ntmps139
  go_wp2_with fail
  refine (clone_any w A n cap M (by omega) (by omega) HR.out).mono ?_
  rintro e w1 ⟨b, cap', rfl, g1, g2, g3⟩
  have HN1 := Hd.mk g1
  have HG1 := Hd.mk (HG.out.of_heap (w' := w1) (g3.block _ HG.out.lt))
  have HB1 := Hd.mk g3
  clear g1 g3
  go_wp2_with fail
  have hfb := FBlk_new w1 gb n (.slice (some ⟨b, 0, none⟩) n cap') hn _ rfl
  have hFo : Fo _ w1.heap.size gb b n cap' nx M (fun _ => 0) (fun _ => 0) (fun _ => false) (.slice none 0 0) := ⟨hfb, HG1.out.of_heap (alloc_old w1 _ _ HG1.out.lt), HN1.out.blk.of_heap (alloc_old w1 _ _ HN1.out.lt), HL.out⟩
  refine (search_any _ w1.heap.size w1.heap.size gb b n cap' root k nx M _ _ _ S r (Nat.le_refl _) HN1.out.lt HG1.out.lt hFo HS.out).mono ?_
  clear hfb hFo
  rintro e w2 ⟨rfl, ⟨_, _, _, qv, qb, g1, g4⟩, g5⟩
  have HF2 := Hd.mk g1
  have HN2 := Hd.mk (HN1.out.of_heap (w' := w2) ((g5.block _ HN1.out.lt).trans (alloc_old w1 _ _ HN1.out.lt)))
  have HB2 := Hd.mk (HB1.out.trans (((Below.refl _ w1).alloc (Nat.le_refl _) _).trans g5 |>.mono HB1.out.size))
  have hwb : w.heap.size ≤ w1.heap.size := HB1.out.size
  have hbf : b < w1.heap.size := HN1.out.lt
  generalize w1.heap.size = bf at HF2 hwb hbf ⊢
  clear g1 g4 g5 hz75 HB1 HG1 HN1 HG
  go_upto_region 5 with (fail)
  go_loopg [9] k (fun kq v9 wr => ∃ (z : Int) (N : Nat → Nat), v9 = .int .i64 z ∧ Hd (if z < 0 then N = M1 else augS n S.pa kq z.toNat N = some M1) ∧ Hd (Fo wr bf gb b n cap' nx N S.pa S.ba S.us qv) ∧ Hd (NRow wr b n cap' N) ∧ Hd (Below w.heap.size w wr))
  case atStart => exact ⟨r, M, rfl, ⟨by rw [if_neg (Int.not_lt.2 hlt)]; exact HA.out⟩, HF2, HN2, HB2⟩
  case round =>
    obtain ⟨z, N, rfl, HX, HF, HN, HB⟩ := hrel
    clear HA HF2 HN2 HB2
    by_cases hz : z < 0
    · have hx := HX.out
      rw [if_pos hz] at hx
      subst hx
      have hm := HF.out.f.mates
      clear HX
      go_wp2_with fail
      go_ret2
      exact ⟨b, cap', rfl, HN.out, g2, HB.out⟩
    · obtain ⟨v, rfl⟩ : ∃ v : Nat, z = v := ⟨z.toNat, (Int.toNat_of_nonneg (Int.not_lt.1 hz)).symm⟩
      have hx := HX.out
      rw [if_neg hz, Int.toNat_natCast] at hx
      clear HX hz
      cases gk with
      | zero => exact absurd hx (by simp [augS])
      | succ k1 =>
        simp only [augS] at hx
        split at hx
        case isFalse => exact absurd hx (by simp)
        rename_i hq
        obtain ⟨hv, hp0, hpn, hpv⟩ := hq
        obtain ⟨p, hp⟩ : ∃ p : Nat, S.pa v = p := ⟨(S.pa v).toNat, (Int.toNat_of_nonneg hp0).symm⟩
        have cpa := HF.out.f.getPa v hv
        rw [hp] at cpa
        rw [hp, Int.toNat_natCast] at hx hpn hpv
        have i1 : (v : Int) < n := by omega
        have i2 : (p : Int) < n := by omega
        have j1 : (0 : Int) ≤ v := by omega
        have j2 : (0 : Int) ≤ p := by omega
        have hnb : b ≠ bf := by omega
        have hpv' : ¬ p = v := hpv
        have HMp : ∃ q : Int, mateS n N p = q ∧ (if q < 0 then upd (upd N v p) p v = M1 else augS n S.pa k1 q.toNat (upd (upd N v p) p v) = some M1) := by
          refine ⟨mateS n N p, rfl, ?_⟩
          unfold mateS
          by_cases e : N p = n
          · rw [if_pos e] at hx
            simp only [if_pos e]
            exact Option.some.inj hx
          · rw [if_neg e] at hx
            simp only [if_neg e]
            rw [if_neg (by omega), Int.toNat_natCast]
            exact hx
        obtain ⟨q, hq1, hq2⟩ := HMp
        have HQ1 := Hd.mk hq1
        have HQ2 := Hd.mk hq2
        clear hx hp0 hp hq1 hq2
        go_wp2_with fail
        refine (mate_fr _ bf gb b n cap' p nx N S.pa S.ba S.us qv HF.out hpn _ HQ1.out).mono ?_
        rintro e w5 ⟨rfl, hh1, hb1⟩
        have HF5 := Hd.mk (HF.out.of_heap (w' := w5) (fun k hk => by rw [hh1]))
        have HN5 := Hd.mk (HN.out.of_heap (w' := w5) (by rw [hh1]))
        have HB5 := Hd.mk (HB.out.trans (hb1.mono HB.out.size))
        have hm := HF5.out.f.mates
        have cv := HN5.out.blk.cell v hv
        have cp := HN5.out.blk.cell p hpn
        have fv := HN5.out.blk.frozen v
        have fp := HN5.out.blk.frozen p
        clear hh1 hb1 HF HN HB cpa
        go_wp2_with fail
        go_region_held3 (fun w' => w'.cell? ⟨bf, 1, none⟩ = some (.slice (some ⟨b, 0, none⟩) n cap')) (go_keep) (fail)
        refine gen_world (fun wq => Fo wq bf gb b n cap' nx (upd (upd N v p) p v) S.pa S.ba S.us qv ∧ NRow wq b n cap' (upd (upd N v p) p v) ∧ Below w.heap.size w wq) ?_ ?_
        · have h1 := ((HN5.out.of_heap (w' := w5.drewN 1) rfl).set v hv p).set p hpn v
          have hgb : gb ≠ b := by
            obtain ⟨_, D, hD, _⟩ := HF5.out.g
            obtain ⟨C, hC, _⟩ := HN5.out
            intro e
            rw [e, hC] at hD
            simp at hD
          refine ⟨⟨HF5.out.f.of_heap ((heap_set_ne _ _ _ _ _ hnb.symm).trans (heap_set_ne _ _ _ _ _ hnb.symm)), HF5.out.g.of_heap ((heap_set_ne _ _ _ _ _ hgb).trans (heap_set_ne _ _ _ _ _ hgb)), h1.blk, fun u hu => ?_⟩, h1, bel_set (bel_set (bel_drewN HB5.out 1) g2 _ _) g2 _ _⟩
          unfold upd
          split
          · omega
          · split
            · omega
            · exact HF5.out.mle u hu
        intro wq ⟨g1, g4, g5⟩
        have HF6 := Hd.mk g1
        have HN6 := Hd.mk g4
        have HB6 := Hd.mk g5
        clear g1 g4 g5 HF5 HN5 HB5 hm cv cp fv fp
        go_wp2_with fail
        go_roundg k1
        case measure => omega
        case rel => exact ⟨q, _, rfl, HQ2, HF6, HN6, HB6⟩
end Go.Proofs.Ytnbdfmdjedakcaa.Pr

namespace Go.Proofs.Ytnbdfmdjedakcaa.Pr
open Go.RowKit
set_option linter.unusedVariables false
set_option linter.unusedSimpArgs false

theorem augS_le {n : Nat} {pa : Nat → Int} : ∀ (k v : Nat) (M M' : Nat → Nat), augS n pa k v M = some M' → (∀ u, u < n → M u ≤ n) → ∀ u, u < n → M' u ≤ n
  | 0, _, _, _, h, _ => by simp [augS] at h
  | k + 1, v, M, M', h, hle => by
    simp only [augS] at h
    split at h
    case isFalse => exact absurd h (by simp)
    rename_i hq
    have h2 : ∀ u, u < n → (upd (upd M v (pa v).toNat) (pa v).toNat v) u ≤ n := by
      intro u hu
      unfold upd
      split
      · omega
      · split
        · omega
        · exact hle u hu
    split at h
    · obtain rfl := Option.some.inj h
      exact h2
    · exact augS_le k _ _ _ h h2
theorem grownS_le {n k root : Nat} {nx : Nat → Nat → Bool} {M M' : Nat → Nat} (h : grownS n M nx k root = some (some M')) (hle : ∀ u, u < n → M u ≤ n) : ∀ u, u < n → M' u ≤ n := by
  obtain ⟨r, _, h2⟩ := Option.bind_eq_some_iff.1 h
  split at h2
  · exact absurd h2 (by simp)
  · obtain ⟨M1, ha, hb⟩ := Option.map_eq_some_iff.1 h2
    obtain rfl := Option.some.inj hb
    exact augS_le _ _ _ _ ha hle

/-- most's second loop. -/
def mostL (n : Nat) (nx : Nat → Nat → Bool) (k : Nat) : Nat → Nat → (Nat → Nat) → Option (Nat → Nat)
  | 0, _, M => some M
  | d + 1, i, M =>
    if M i < n then mostL n nx k d (i + 1) M
    else (grownS n M nx k i).bind fun r => mostL n nx k d (i + 1) (r.getD M)
def mostS (n : Nat) (nx : Nat → Nat → Bool) (k : Nat) : Option (Nat → Nat) := mostL n nx k n 0 (fun _ => n)

theorem NRow_made (w : World) (n : Nat) (hn : n ≤ 1000) : NRow (w.alloc (.cells (madeCells #[.int .i64 0] n) 3)) w.heap.size n n (fun _ => 0) := by
  refine ⟨_, alloc_new w _, by simp [madeCells], Nat.le_refl _, by unfold maxLen; omega, fun j hj => ?_⟩
  simp [madeCells, hj, Nat.mod_one]

set_option maxHeartbeats 4000000 in
theorem most_any (w : World) (gb n k : Nat) (nx : Nat → Nat → Bool) (M' : Nat → Nat) (hG : GBlk w gb n nx) (hr : mostS n nx k = some M') :
    Calls Try.prog 121 #[.pointer (some ⟨gb, 0, none⟩)] w fun e w' => ∃ b cap', e = .returned (.slice (some ⟨b, 0, none⟩) n cap') ∧ (NRow w' b n cap' M' ∧ w.heap.size ≤ b ∧ Below w.heap.size w w') := by
  have hn := hG.le
  have HG := Hd.mk hG
  have HR := Hd.mk hr
  have hgn := hG.num
  have hmk := run_make_row' (P := Try.prog) 28 3 (.int .i64 0) 8 Try.underlying28 tinfo3 rfl .i64 .i64 n (by omega) (by omega)
  clear hG hr
  go_enter Try.func121, Try.ntmps121
  go_wp2_with fail
  have HN0 := Hd.mk (NRow_made w n (by omega))
  have HB0 := Hd.mk ((Below.refl w.heap.size w).alloc (Nat.le_refl _) (.cells (madeCells #[.int .i64 0] n) 3))
  have HG0 := Hd.mk (HG.out.of_heap (alloc_old w (.cells (madeCells #[.int .i64 0] n) 3) _ HG.out.lt))
  have hgb : gb < w.heap.size := HG.out.lt
  generalize w.alloc (.cells (madeCells #[.int .i64 0] n) 3) = w0 at HN0 HB0 HG0 ⊢
  obtain ⟨b, hbe⟩ : ∃ b, b = w.heap.size := ⟨_, rfl⟩
  rw [← hbe] at HN0 ⊢
  have hb : w.heap.size ≤ b := by omega
  have hgb2 : gb ≠ b := by omega
  clear hmk hbe HG hgn hgb
  go_loopg [15] n (fun kq v15 wr => ∃ (i : Nat) (f : Nat → Nat), v15 = .int .i64 i ∧ Hd (i + kq = n) ∧ Hd (∀ j, j < i → f j = n) ∧ Hd (NRow wr b n n f) ∧ Hd (GBlk wr gb n nx) ∧ Hd (Below w.heap.size w wr))
  case atStart => exact ⟨0, _, rfl, ⟨by omega⟩, ⟨fun j hj => absurd hj (by omega)⟩, HN0, HG0, HB0⟩
  case round =>
    obtain ⟨i, f, rfl, HK, HX, HN, HG, HB⟩ := hrel
    clear HN0 HB0 HG0
    cases gk with
    | zero =>
      have hi := HK.out
      have hlt : ¬ (i : Int) < n := by omega
      have HN1 := Hd.mk (HN.out.congr (g := fun _ => n) (fun j hj => HX.out j (by omega)))
      clear hi HN HX
      go_upto_region 8 with (fail)
      go_loopg [3, 28] n (fun kq v3 v28 wq => ∃ (i : Nat) (N : Nat → Nat) (b cap : Nat), v3 = .slice (some ⟨b, 0, none⟩) n cap ∧ v28 = .int .i64 i ∧ Hd (i + kq = n) ∧ Hd (mostL n nx k kq i N = some M') ∧ Hd (∀ u, u < n → N u ≤ n) ∧
        Hd (w.heap.size ≤ b) ∧ Hd (NRow wq b n cap N) ∧ Hd (GBlk wq gb n nx) ∧ Hd (Below w.heap.size w wq))
      case atStart => exact ⟨0, _, b, n, rfl, rfl, ⟨by omega⟩, HR, ⟨fun _ _ => Nat.le_refl _⟩, ⟨hb⟩, HN1, HG, HB⟩
      case round =>
        obtain ⟨i, N, b, cap, rfl, rfl, HK, HX, HL, Hb, HN, HG, HB⟩ := hrel
        clear HR HN1
        cases gk with
        | zero =>
          have hi := HK.out
          have hlt : ¬ (i : Int) < n := by omega
          have hx := Option.some.inj (show some N = some M' from HX.out)
          subst hx
          clear hi HX
          go_wp2_with fail
          go_ret
          exact ⟨b, cap, rfl, HN.out, Hb.out, HB.out⟩
        | succ k1 =>
          have hi := HK.out
          have hlt : (i : Int) < n := by omega
          have hlt' : i < n := by omega
          have i1 : (0 : Int) ≤ i := by omega
          have hgn := HG.out.num
          have ci := HN.out.blk.cell i hlt'
          have hx := HX.out
          have hle := HL.out i hlt'
          clear hi HX
          simp only [mostL] at hx
          by_cases hs : N i < n
          · rw [if_pos hs] at hx
            have HX := Hd.mk hx
            have bs : decide (N i < n) = true := by simp; omega
            have HS := Hd.mk hs
            clear hx hs hle
            go_wp2_with fail
            go_quiet (fail)
            go_wp2_with fail
            go_roundg k1
            case measure => omega
            case rel => exact ⟨i + 1, N, b, cap, rfl, by go_num, ⟨by have := HK.out; omega⟩, HX, HL, Hb, ⟨HN.out.of_heap rfl⟩, ⟨HG.out.of_heap rfl⟩, ⟨bel_drewN HB.out _⟩⟩
          · rw [if_neg hs] at hx
            obtain ⟨r, hg, hx2⟩ := Option.bind_eq_some_iff.1 hx
            have bs : decide (N i < n) = false := by simp; omega
            have HG3 := Hd.mk hg
            have HX := Hd.mk hx2
            clear hx hs hg hx2 hle
            cases r with
            | none =>
              go_wp2_with fail
              go_quiet (fail)
              go_wp2_with fail
              refine (grown_no _ gb i k n cap (some ⟨b, 0, none⟩) nx N (by exact HG.out.of_heap rfl) HL.out (by exact (HN.out.of_heap rfl).rd) hlt' HG3.out).mono ?_
              rintro e w5 ⟨rfl, g1⟩
              have HN5 := Hd.mk (HN.out.of_heap (w' := w5) (g1.block _ HN.out.lt))
              have HG5 := Hd.mk (HG.out.of_heap (w' := w5) (g1.block _ HG.out.lt))
              have HB5 := Hd.mk ((bel_drewN HB.out _).trans (g1.mono HB.out.size))
              clear g1 HN HG HB hgn ci
              go_wp2_with fail
              go_roundg k1
              case measure => omega
              case rel => exact ⟨i + 1, N, b, cap, rfl, by go_num, ⟨by have := HK.out; omega⟩, HX, HL, Hb, HN5, HG5, HB5⟩
            | some M2 =>
              go_wp2_with fail
              go_quiet (fail)
              go_wp2_with fail
              refine (grown_yes _ gb i k n cap (some ⟨b, 0, none⟩) nx N M2 (by exact HG.out.of_heap rfl) HL.out (by exact (HN.out.of_heap rfl).rd) hlt' HG3.out).mono ?_
              rintro e w5 ⟨b5, cap5, rfl, g1, g2, g3⟩
              have HG5 := Hd.mk (HG.out.of_heap (w' := w5) (g3.block _ HG.out.lt))
              have HB5 := Hd.mk ((bel_drewN HB.out _).trans (g3.mono HB.out.size))
              have HN5 := Hd.mk g1
              have Hb5 := Hd.mk (Nat.le_trans HB.out.size g2)
              clear g1 g2 g3 HN HG HB hgn ci
              go_wp2_with fail
              go_roundg k1
              case measure => omega
              case rel => exact ⟨i + 1, M2, b5, cap5, rfl, by go_num, ⟨by have := HK.out; omega⟩, HX, ⟨grownS_le HG3.out HL.out⟩, Hb5, HN5, HG5, HB5⟩
    | succ k1 =>
      have hi := HK.out
      have hlt : (i : Int) < n := by omega
      have hlt' : i < n := by omega
      have hgn := HG.out.num
      have ci := HN.out.blk.cell i hlt'
      have fi := HN.out.blk.frozen i
      have HN2 := Hd.mk (HN.out.set i hlt' n)
      have HG2 := Hd.mk (HG.out.of_heap (w' := wr.setCell ⟨b, i, none⟩ (.int .i64 n)) (heap_set_ne _ _ _ _ _ hgb2))
      have HB2 := Hd.mk (bel_set HB.out hb i (.int .i64 n))
      clear hi HN HG HB
      go_wp2_with fail
      go_roundg k1
      case measure => omega
      case rel => exact ⟨i + 1, _, by go_num, ⟨by have := HK.out; omega⟩, ⟨fun j hj => by
          unfold upd
          split
          · rfl
          · exact HX.out j (by omega)⟩, HN2, HG2, HB2⟩
end Go.Proofs.Ytnbdfmdjedakcaa.Pr

namespace Go.Proofs.Ytnbdfmdjedakcaa.Pr
open Go.RowKit
set_option linter.unusedVariables false
set_option linter.unusedSimpArgs false

def Z66 : Array Value := (.int .i64 0 :: List.replicate 576 (.bool false)).toArray
theorem zinfo66 : (Try.prog.info? 131).map (fun i => (i.zero, i.size)) = some (some (.agg Z66), 577) := by kernel_rfl
theorem Z66_size : Z66.size = 577 := by simp only [Z66, List.size_toArray, List.length_cons, List.length_replicate]
theorem zero66 : ∀ w : World, (zeroValue 131).run Try.prog w = .ok (.agg Z66) w := by
  intro w
  have h := zinfo66
  cases hq : Try.prog.info? 131 with
  | none => simp [hq] at h
  | some i =>
    rw [hq] at h
    simp only [Option.map_some, Option.some.injEq, Prod.mk.injEq] at h
    simp [zeroValue, typeInfo, hq, h.1]
theorem size66 (C : Array Value) (hC : C.size = 577) : (Try.prog.info? 131).map (·.size) = some C.size := by
  have h := zinfo66
  cases hq : Try.prog.info? 131 with
  | none => simp [hq] at h
  | some i =>
    rw [hq] at h
    simp only [Option.map_some, Option.some.injEq, Prod.mk.injEq] at h
    rw [hC]
    simp [h.2]

theorem run_newVar_agg (t : TypeId) (C : Array Value) (w : World) : (newVar t (.agg C)).run Try.prog w = .ok ⟨w.heap.size, 0, none⟩ (w.alloc (.cells C t)) := by
  simp [newVar, newRow, Value.cells]
theorem wpList_alloc66 {W : World} {ops : Array Oper} {rest : List Oper} {o : Oper} {a : Act} {Q : Exit → Act → World → Prop} (hgd : o.guard = none) (ho : o.op = .alloc 131)
    (h : wpList Try.prog ops Q rest (a.put o.dst (.pointer (some ⟨W.heap.size, 0, none⟩))) (W.alloc (.cells Z66 131))) : wpList Try.prog ops Q (o :: rest) a W :=
  wpList_plain hgd fun K hK => by
    have hz := zero66 W
    have hv := run_newVar_agg 131 Z66 W
    have hk := hK _ _ h
    unfold Oper.wp execOp
    simp only [ho, Instr.alloc, Sem.run_bind, Sem.run_pure, hz, hv, Result.andThen_ok]
    exact hk
theorem wpList_box66 {W : World} {ops : Array Oper} {rest : List Oper} {o : Oper} {a : Act} {Q : Exit → Act → World → Prop} (hgd : o.guard = none) (x : Operand) (ho : o.op = .box 131 x) (C : Array Value) (hx : a.eval x = .agg C)
    (h : wpList Try.prog ops Q rest (a.put o.dst (.pointer (some ⟨W.heap.size, 0, none⟩))) (W.alloc (.cells C 131))) : wpList Try.prog ops Q (o :: rest) a W :=
  wpList_plain hgd fun K hK => by
    have hv := run_newVar_agg 131 C W
    have hk := hK _ _ h
    unfold Oper.wp execOp
    simp only [ho, hx, Instr.box, Sem.run_bind, Sem.run_pure, hv, Result.andThen_ok]
    exact hk
theorem GBlk.block {w : World} {b n : Nat} {nx : Nat → Nat → Bool} (h : GBlk w b n nx) : ∃ C, w.heap[b]? = some (.cells C 131 (0, 0)) ∧ C.size = 577 ∧ C.all (·.oneCell') = true ∧ ∀ w' b', w'.heap[b']? = some (.cells C 131 (0, 0)) → GBlk w' b' n nx := by
  obtain ⟨hn, C, hC, hs, h0, hf, h1⟩ := h
  exact ⟨C, hC, hs, Array.all_eq_true_iff_forall_mem.2 h1, fun w' b' h' => ⟨hn, C, h', hs, h0, hf, h1⟩⟩
theorem setRow_new (w : World) (C D : Array Value) (t : TypeId) : ((w.alloc (.cells C t)).setRow w.heap.size D).heap[w.heap.size]? = some (.cells D t (0, 0)) := by
  rw [World.setRow_alloc_new]; exact alloc_new _ _
theorem setRow_old (w : World) (C D : Array Value) (t : TypeId) (k : Nat) (hk : k < w.heap.size) : ((w.alloc (.cells C t)).setRow w.heap.size D).heap[k]? = w.heap[k]? := by
  rw [World.setRow_alloc_new]; exact alloc_old _ _ _ hk

/-- A graph without a stone's edges. -/
def woS (nx : Nat → Nat → Bool) (s : Nat) : Nat → Nat → Bool := fun a b => nx a b && (a != s && b != s)
def woL (ss : Nat → Nat) : Nat → Nat → (Nat → Nat → Bool) → Nat → Nat → Bool
  | 0, _, nx => nx
  | d + 1, i, nx => woL ss d (i + 1) (woS nx (ss i))
/-- A row of it. -/
def woR (nx : Nat → Nat → Bool) (s i : Nat) : Nat → Nat → Bool := fun a b => if (a = s ∧ b < i) ∨ (b = s ∧ a < i) then false else nx a b

set_option maxHeartbeats 4000000 in
theorem without_any (w : World) (gb n m c : Nat) (A : Option Addr) (nx : Nat → Nat → Bool) (ss : Nat → Nat) (hG : GBlk w gb n nx) (hS : RdN w A m ss) (hss : ∀ j, j < m → ss j < n) (hm : m ≤ 1000) :
    Calls Try.prog 122 #[.pointer (some ⟨gb, 0, none⟩), .slice A m c] w fun e w' => ∃ b, e = .returned (.pointer (some ⟨b, 0, none⟩)) ∧ (GBlk w' b n (woL ss m 0 nx) ∧ w.heap.size ≤ b ∧ Below w.heap.size w w') := by
  obtain ⟨C, hC, hCs, hC1, hCn⟩ := hG.block
  have HC := Hd.mk hC
  have HC1 := Hd.mk hC1
  have HCn := Hd.mk hCn
  have HS := Hd.mk hS
  have HSS := Hd.mk hss
  have HG := Hd.mk hG
  have hn := hG.le
  have hsz := Hd.mk (size66 C hCs)
  have HCs := Hd.mk hCs
  clear hC hC1 hCn hS hss hG hCs
  go_enter Try.func122, Try.ntmps122
  go_wp2_with (first | (refine wpList_load_row rfl 131 (.tmp 10) rfl gb rfl 131 C (0, 0) _ HC.out Try.underlying131 rfl hsz.out ?_) | (refine wpList_alloc66 rfl rfl ?_) | (refine wpList_store_row rfl 131 (.tmp 5) (.tmp 11) rfl w.heap.size C rfl rfl 131 Z66 (alloc_new w _) hsz.out (by rw [Z66_size, HCs.out]) HC1.out ?_))
  have hW : (w.alloc (.cells Z66 131)).setRow w.heap.size C = w.alloc (.cells C 131) := World.setRow_alloc_new _ _ _ _
  rw [hW]
  have HG1 := Hd.mk (HCn.out _ _ (alloc_new w (.cells C 131)))
  have HB1 := Hd.mk ((Below.refl w.heap.size w).alloc (Nat.le_refl _) (.cells C 131))
  generalize w.alloc (.cells C 131) = w0 at HG1 HB1 ⊢
  obtain ⟨b, hbe⟩ : ∃ b, b = w.heap.size := ⟨_, rfl⟩
  rw [← hbe] at HG1 ⊢
  have hb : w.heap.size ≤ b := by omega
  have hgb2 : gb < w.heap.size := HG.out.lt
  clear hW hbe HC HC1 HCn hsz HCs
  go_loopg [14] m (fun kq v14 wr => ∃ (i : Nat) (nx1 : Nat → Nat → Bool), v14 = .int .i64 i ∧ Hd (i + kq = m) ∧ Hd (woL ss kq i nx1 = woL ss m 0 nx) ∧ Hd (GBlk wr b n nx1) ∧ Hd (Below w.heap.size w wr))
  case atStart => exact ⟨0, nx, rfl, ⟨by omega⟩, ⟨rfl⟩, HG1, HB1⟩
  case round =>
    obtain ⟨i, nx1, rfl, HK, HX, HN, HB⟩ := hrel
    clear HG1 HB1
    cases gk with
    | zero =>
      have hi := HK.out
      have hlt : ¬ (i : Int) < m := by omega
      have hx := HX.out
      simp only [woL] at hx
      have HN2 := Hd.mk (hx ▸ HN.out)
      clear hi HX HN hx
      go_wp2_with fail
      go_ret
      exact ⟨b, rfl, HN2.out, hb, HB.out⟩
    | succ k1 =>
      have hi := HK.out
      have hlt : (i : Int) < m := by omega
      have hlt' : i < m := by omega
      obtain ⟨ad, rfl, hcs⟩ := HS.out.below HB.out
      have cs := hcs i hlt'
      have hg := HG.out.of_heap (w' := wr) (HB.out.block _ HG.out.lt)
      have hgn := hg.num
      have hsn := HSS.out i hlt'
      generalize hse : ss i = s at cs hsn
      have HSE := Hd.mk hse
      clear hcs hi hg hse
      go_upto_region 6 with (fail)
      go_loopg [22] n (fun kq v22 wq => ∃ (j : Nat), v22 = .int .i64 j ∧ Hd (j + kq = n) ∧ Hd (GBlk wq b n (woR nx1 s j)) ∧ Hd (Below w.heap.size w wq))
      case atStart => exact ⟨0, rfl, ⟨by omega⟩, ⟨HN.out.congr (fun x y _ _ => by simp [woR])⟩, HB⟩
      case round =>
        obtain ⟨j, rfl, HK2, HN2, HB2⟩ := hrel
        clear HN HB cs hgn
        cases gk with
        | zero =>
          have hi := HK2.out
          have hlt : ¬ (j : Int) < n := by omega
          have HN3 := Hd.mk (HN2.out.congr (ny := woS nx1 s) (fun x y hx hy => by
            unfold woR woS
            by_cases h1 : x = s
            · rw [if_pos (.inl ⟨h1, by omega⟩)]; simp [h1]
            · by_cases h2 : y = s
              · rw [if_pos (.inr ⟨h2, by omega⟩)]; simp [h2]
              · rw [if_neg (by omega)]; simp [h1, h2]))
          have HX3 := Hd.mk (show woL ss k1 (i + 1) (woS nx1 s) = woL ss m 0 nx by have := HX.out; simp only [woL, HSE.out] at this; exact this)
          clear hi HN2
          go_wp2_with fail
          go_roundg k1
          case measure => omega
          case rel => exact ⟨i + 1, _, by go_num, ⟨by have := HK.out; omega⟩, HX3, HN3, HB2⟩
        | succ k2 =>
          have hi := HK2.out
          have hlt : (j : Int) < n := by omega
          have hlt' : j < n := by omega
          have c1 := HN2.out.getNx s j hsn hlt'
          have c2 := HN2.out.getNx j s hlt' hsn
          have f1 := HN2.out.frozen (1 + s * 24 + j)
          have f2 := HN2.out.frozen (1 + j * 24 + s)
          have i1 : (s : Int) < 24 := by omega
          have i2 : (j : Int) < 24 := by omega
          have j1 : (0 : Int) ≤ s := by omega
          have j2 : (0 : Int) ≤ j := by omega
          have HNs := Hd.mk (((HN2.out.of_heap (w' := wr.drewN 1) rfl).set s j hsn hlt' false).set j s hlt' hsn false)
          have HNt := Hd.mk (HNs.out.congr (ny := woR nx1 s (j + 1)) (fun x y hx hy => by
            unfold woR
            by_cases h1 : x = j ∧ y = s
            · rw [if_pos h1, if_pos (by omega)]
            · rw [if_neg h1]
              by_cases h2 : x = s ∧ y = j
              · rw [if_pos h2, if_pos (by omega)]
              · rw [if_neg h2]
                by_cases h3 : (x = s ∧ y < j) ∨ (y = s ∧ x < j)
                · rw [if_pos h3, if_pos (by omega)]
                · rw [if_neg h3, if_neg (by omega)]))
          have HBt := Hd.mk (bel_set (bel_set (bel_drewN HB2.out 1) hb (1 + s * 24 + j) (.bool false)) hb (1 + j * 24 + s) (.bool false))
          clear hi HN2 HB2 HNs
          by_cases hsj : s = j
          · subst hsj
            go_wp2_with fail
            go_region_held3 (fun _ => True) (trivial) (fail)
            go_wp2_with fail
            go_roundg k2
            case measure => omega
            case rel => exact ⟨s + 1, by go_num, ⟨by have := HK2.out; omega⟩, HNt, HBt⟩
          · have hne : 1 + s * 24 + j ≠ 1 + j * 24 + s := by omega
            go_wp2_with fail
            go_region_held3 (fun _ => True) (trivial) (fail)
            go_wp2_with fail
            go_roundg k2
            case measure => omega
            case rel => exact ⟨j + 1, by go_num, ⟨by have := HK2.out; omega⟩, HNt, HBt⟩
/-- The edge list's graph, edge by edge. -/
def putE (nx : Nat → Nat → Bool) (a c : Nat) : Nat → Nat → Bool := fun x y => if (x = a ∧ y = c) ∨ (x = c ∧ y = a) then true else nx x y
/-- checked's loop over the edges; none: an edge that is none. -/
def chkL (n : Nat) : List (Int × Int) → (Nat → Nat → Bool) → Option (Nat → Nat → Bool)
  | [], nx => some nx
  | (a, c) :: es, nx => if a < 0 ∨ a ≥ n ∨ c < 0 ∨ c ≥ n ∨ a = c then none else chkL n es (putE nx a.toNat c.toNat)

/-- A slice of edges that is read. -/
def RdE (w : World) (A : Option Addr) (es : List (Int × Int)) : Prop :=
  ∀ j, j < es.length → ∃ ad, A = some ad ∧ w.cell? (ad.add (j * 2)) = some (.int .i64 (es.getD j (0, 0)).1) ∧ w.cell? ⟨(ad.add (j * 2)).block, (ad.add (j * 2)).off + 1, none⟩ = some (.int .i64 (es.getD j (0, 0)).2)
theorem RdE.below {w w' : World} {A : Option Addr} {es : List (Int × Int)} (h : RdE w A es) (hb : Below w.heap.size w w') : RdE w' A es := by
  intro j hj
  obtain ⟨ad, e, h1, h2⟩ := h j hj
  exact ⟨ad, e, (hb.cell (World.block_lt_of_cell? w _ h1)).trans h1, (hb.cell (World.block_lt_of_cell? w _ h2)).trans h2⟩

set_option maxHeartbeats 4000000 in
theorem checked_arg (w : World) (n : Int) (A : Option Addr) (len c : Nat) (h : n < 0 ∨ 24 < n) :
    Calls Try.prog 119 #[.int .i64 n, .slice A len c] w fun e w' => e = .returned (.tuple #[.pointer none, .int .i64 2]) ∧ w = w' := by
  rcases h with h | h
  · go_enter Try.func119, Try.ntmps119
    go_wp2_with fail
    go_ret2
    exact ⟨rfl, rfl⟩
  · have h0 : ¬ n < 0 := by omega
    go_enter Try.func119, Try.ntmps119
    go_wp2_with fail
    go_ret2
    exact ⟨rfl, rfl⟩
set_option maxHeartbeats 4000000 in
theorem checked_limit (w : World) (n : Nat) (A : Option Addr) (len c : Nat) (hn : n ≤ 24) (h : 128 < len) :
    Calls Try.prog 119 #[.int .i64 n, .slice A len c] w fun e w' => e = .returned (.tuple #[.pointer none, .int .i64 3]) ∧ w = w' := by
  have h0 : ¬ (n : Int) < 0 := by omega
  have h1 : ¬ (24 : Int) < n := by omega
  go_enter Try.func119, Try.ntmps119
  go_wp2_with fail
  go_ret2
  exact ⟨rfl, rfl⟩
end Go.Proofs.Ytnbdfmdjedakcaa.Pr

namespace Go.Proofs.Ytnbdfmdjedakcaa.Pr
open Go.RowKit
set_option linter.unusedVariables false
set_option linter.unusedSimpArgs false

theorem built66 (n : Int) : Try.prog.built 131 [(0, .int .i64 n)] = some (.int .i64 n :: List.replicate 576 (.bool false)).toArray := by kernel_rfl
theorem GBlk_new (w : World) (n : Nat) (hn : n ≤ 24) : GBlk (w.alloc (.cells ((Try.prog.built 131 [(0, .int .i64 (n : Int))]).getD #[]) 131)) w.heap.size n (fun _ _ => false) := by
  rw [built66]
  refine ⟨hn, _, alloc_new w _, by simp only [Option.getD_some, List.size_toArray, List.length_cons, List.length_replicate], by simp only [Option.getD_some, List.getElem?_toArray, List.getElem?_cons_zero], fun i j hi hj => ?_, fun v hv => ?_⟩
  · simp only [Option.getD_some, List.getElem?_toArray]
    rw [show 1 + i * 24 + j = (i * 24 + j) + 1 by omega, List.getElem?_cons_succ]
    exact (List.getElem?_replicate ..).trans (if_pos (by omega))
  · simp only [Option.getD_some, List.mem_toArray, List.mem_cons] at hv
    rcases hv with rfl | hv
    · rfl
    · rw [(List.mem_replicate.1 hv).2]; rfl

def ChkPost (n : Nat) (w : World) (r : Option (Nat → Nat → Bool)) (e : Ending) (w' : World) : Prop :=
  Below w.heap.size w w' ∧ match r with
    | none => e = .returned (.tuple #[.pointer none, .int .i64 2])
    | some nx => ∃ b, e = .returned (.tuple #[.pointer (some ⟨b, 0, none⟩), .int .i64 0]) ∧ GBlk w' b n nx ∧ w.heap.size ≤ b

set_option maxHeartbeats 4000000 in
theorem checked_any (w : World) (n : Nat) (A : Option Addr) (c : Nat) (es : List (Int × Int)) (hn : n ≤ 24) (hl : es.length ≤ 128) (hE : RdE w A es) :
    Calls Try.prog 119 #[.int .i64 n, .slice A es.length c] w (ChkPost n w (chkL n es (fun _ _ => false))) := by
  have h0 : ¬ (n : Int) < 0 := by omega
  have h1 : ¬ (24 : Int) < n := by omega
  have h2 : ¬ (128 : Int) < es.length := by omega
  have HE := Hd.mk hE
  clear hE
  obtain ⟨r, hr⟩ : ∃ r, chkL n es (fun _ _ => false) = r := ⟨_, rfl⟩
  have HR := Hd.mk hr
  rw [hr]
  clear hr
  go_enter Try.func119, Try.ntmps119
  go_upto_region 5 with (fail)
  go_wp2_with (first | (refine wpList_build rfl 131 #[(0, .tmp 18)] rfl (by kernel_rfl) ?_) | (refine wpList_box66 rfl (.tmp 19) rfl _ rfl ?_))
  have HG1 := Hd.mk (GBlk_new w n hn)
  have HB1 := Hd.mk ((Below.refl w.heap.size w).alloc (Nat.le_refl _) (.cells ((Try.prog.built 131 [(0, .int .i64 (n : Int))]).getD #[]) 131))
  generalize (Try.prog.built 131 [(0, Value.int .i64 (n : Int))]).getD #[] = C0 at HG1 HB1 ⊢
  generalize w.alloc (.cells C0 131) = w0 at HG1 HB1 ⊢
  obtain ⟨b, hbe⟩ : ∃ b, b = w.heap.size := ⟨_, rfl⟩
  rw [← hbe] at HG1 ⊢
  have hb : w.heap.size ≤ b := by omega
  clear hbe
  go_loopg [23] es.length (fun kq v23 wr => ∃ (i : Nat) (nx1 : Nat → Nat → Bool), v23 = .int .i64 i ∧ Hd (i + kq = es.length) ∧ Hd (chkL n (es.drop i) nx1 = r) ∧ Hd (GBlk wr b n nx1) ∧ Hd (Below w.heap.size w wr))
  case atStart => exact ⟨0, _, rfl, ⟨by omega⟩, HR, HG1, HB1⟩
  case round =>
    obtain ⟨i, nx1, rfl, HK, HX, HN, HB⟩ := hrel
    clear HG1 HB1 HR
    cases gk with
    | zero =>
      have hi := HK.out
      have hlt : ¬ (i : Int) < es.length := by omega
      have hx := HX.out
      rw [List.drop_eq_nil_of_le (by omega)] at hx
      simp only [chkL] at hx
      subst hx
      clear hi HX
      go_wp2_with fail
      go_ret2
      exact ⟨HB.out, b, rfl, HN.out, hb⟩
    | succ k1 =>
      have hi := HK.out
      have hlt : (i : Int) < es.length := by omega
      have hlt' : i < es.length := by omega
      obtain ⟨ad, rfl, e1, e2⟩ := HE.out.below HB.out i hlt'
      have hx := HX.out
      rw [List.drop_eq_getElem_cons hlt'] at hx
      have hge : es.getD i (0, 0) = es[i] := by simp [List.getElem?_eq_getElem hlt']
      rw [hge] at e1 e2
      generalize es[i] = pr at e1 e2 hx
      obtain ⟨x, y⟩ := pr
      simp only [chkL] at hx
      clear hi hge HX
      by_cases t1 : x < 0
      · rw [if_pos (.inl t1)] at hx
        subst hx
        go_wp2_with fail
        go_ret2
        exact ⟨HB.out.alloc HB.out.size _, rfl⟩
      by_cases t2 : x ≥ n
      · rw [if_pos (.inr (.inl t2))] at hx
        subst hx
        go_wp2_with fail
        go_ret2
        exact ⟨HB.out.alloc HB.out.size _, rfl⟩
      by_cases t3 : y < 0
      · rw [if_pos (.inr (.inr (.inl t3)))] at hx
        subst hx
        go_wp2_with fail
        go_ret2
        exact ⟨HB.out.alloc HB.out.size _, rfl⟩
      by_cases t4 : y ≥ n
      · rw [if_pos (.inr (.inr (.inr (.inl t4))))] at hx
        subst hx
        go_wp2_with fail
        go_ret2
        exact ⟨HB.out.alloc HB.out.size _, rfl⟩
      by_cases t5 : x = y
      · rw [if_pos (.inr (.inr (.inr (.inr t5))))] at hx
        subst t5
        subst hx
        go_wp2_with fail
        go_ret2
        exact ⟨HB.out.alloc HB.out.size _, rfl⟩
      rw [if_neg (by omega)] at hx
      obtain ⟨a, rfl⟩ : ∃ a : Nat, x = a := ⟨x.toNat, by omega⟩
      obtain ⟨d, rfl⟩ : ∃ d : Nat, y = d := ⟨y.toNat, by omega⟩
      simp only [Int.toNat_natCast] at hx
      have ha : a < n := by omega
      have hd : d < n := by omega
      have b5 : ((a : Int) == (d : Int)) = false := by simp; omega
      have HX := Hd.mk hx
      have hne5 : a ≠ d := by omega
      clear hx t5
      go_upto_region 11 with (fail)
      have hbl := HN.out.lt
      have HNa := Hd.mk (HN.out.of_heap (w' := wr.alloc (.cells #[.int .i64 a, .int .i64 d] 101)) (alloc_old wr _ _ HN.out.lt))
      have HBa := Hd.mk (HB.out.alloc HB.out.size (.cells #[.int .i64 (a : Int), .int .i64 (d : Int)] 101))
      have ce0 : (wr.alloc (.cells #[.int .i64 a, .int .i64 d] 101)).cell? ⟨wr.heap.size, 0, none⟩ = some (.int .i64 a) := by rw [cell_of _ _ _ _ _ _ (alloc_new wr _)]; rfl
      have ce1 : (wr.alloc (.cells #[.int .i64 a, .int .i64 d] 101)).cell? ⟨wr.heap.size, 1, none⟩ = some (.int .i64 d) := by rw [cell_of _ _ _ _ _ _ (alloc_new wr _)]; rfl
      have hebb : wr.heap.size ≠ b := by omega
      generalize wr.alloc (.cells #[.int .i64 (a : Int), .int .i64 (d : Int)] 101) = wa at HNa HBa ce0 ce1 ⊢
      generalize wr.heap.size = eb at ce0 ce1 hebb ⊢
      have c1 := HNa.out.getNx a d ha hd
      have c2 := HNa.out.getNx d a hd ha
      have f1 := HNa.out.frozen (1 + a * 24 + d)
      have f2 := HNa.out.frozen (1 + d * 24 + a)
      have i1 : (a : Int) < 24 := by omega
      have i2 : (d : Int) < 24 := by omega
      have j1 : (0 : Int) ≤ a := by omega
      have j2 : (0 : Int) ≤ d := by omega
      have hne : 1 + a * 24 + d ≠ 1 + d * 24 + a := by omega
      have HNs := Hd.mk (((HNa.out.of_heap (w' := wa.drewN 1) rfl).set a d ha hd true).set d a hd ha true)
      have HNt := Hd.mk (HNs.out.congr (ny := putE nx1 a d) (fun x y hx hy => by
        unfold putE
        by_cases h1 : x = d ∧ y = a
        · rw [if_pos h1, if_pos (by omega)]
        · rw [if_neg h1]
          by_cases h2 : x = a ∧ y = d
          · rw [if_pos h2, if_pos (by omega)]
          · rw [if_neg h2, if_neg (by omega)]))
      have HBt := Hd.mk (bel_set (bel_set (bel_drewN HBa.out 1) hb (1 + a * 24 + d) (.bool true)) hb (1 + d * 24 + a) (.bool true))
      have hbe2 : b ≠ eb := hebb.symm
      clear HN HB HNa HBa HNs e1 e2 hbl
      go_region_held3 (fun w' => w'.cell? ⟨eb, 0, none⟩ = some (.int .i64 a) ∧ w'.cell? ⟨eb, 1, none⟩ = some (.int .i64 d)) ((refine ⟨?_, ?_⟩ <;> (first | (go_simp; done) | (simp [*]; done)))) (fail)
      go_wp2_with fail
      go_roundg k1
      case measure => omega
      case rel => exact ⟨i + 1, _, by go_num, ⟨by have := HK.out; omega⟩, HX, HNt, HBt⟩
end Go.Proofs.Ytnbdfmdjedakcaa.Pr

namespace Go.Proofs.Ytnbdfmdjedakcaa.Pr
open Go.RowKit
set_option linter.unusedVariables false
set_option linter.unusedSimpArgs false

/-- How many pairs the first k stones begin. -/
def pairsC (n : Nat) (M : Nat → Nat) : Nat → Nat
  | 0 => 0
  | k + 1 => pairsC n M k + if k < M k ∧ M k < n then 1 else 0
theorem pairsC_le (n : Nat) (M : Nat → Nat) : ∀ k, pairsC n M k ≤ k
  | 0 => Nat.le_refl _
  | k + 1 => by have := pairsC_le n M k; unfold pairsC; split <;> omega
def pairsS (n : Nat) (M : Nat → Nat) : Nat := pairsC n M n

/-- Numbers that are read, none at all included. -/
def RdW (w : World) (A : Option Addr) (n : Nat) (M : Nat → Nat) : Prop := ∀ j, j < n → ∃ ad, A = some ad ∧ w.cell? (ad.add j) = some (.int .i64 (M j))
theorem RdN.w {w : World} {A : Option Addr} {n : Nat} {M : Nat → Nat} (h : RdN w A n M) : RdW w A n M := by
  obtain ⟨ad, e, hc⟩ := h
  exact fun j hj => ⟨ad, e, hc j hj⟩
theorem RdW.n {w : World} {A : Option Addr} {n : Nat} {M : Nat → Nat} (h : RdW w A n M) (hn : 0 < n) : RdN w A n M := by
  obtain ⟨ad, e, _⟩ := h 0 hn
  exact ⟨ad, e, fun j hj => by obtain ⟨ad', e', hc⟩ := h j hj; rw [e] at e'; injection e' with e'; rw [e']; exact hc⟩
theorem RdW.below {w w' : World} {A : Option Addr} {n : Nat} {M : Nat → Nat} (h : RdW w A n M) (hb : Below w.heap.size w w') : RdW w' A n M := by
  intro j hj
  obtain ⟨ad, e, hc⟩ := h j hj
  exact ⟨ad, e, (hb.cell (World.block_lt_of_cell? w _ hc)).trans hc⟩

theorem pairs_any (w : World) (A : Option Addr) (n cap : Nat) (M : Nat → Nat) (hn : n ≤ 1000) (hR : RdW w A n M) (hle : ∀ v, v < n → M v ≤ n) :
    Calls Try.prog 120 #[.slice A n cap] w fun e w' => e = .returned (.int .i64 (pairsS n M)) ∧ w = w' := by
  go_enter Try.func120, Try.ntmps120
  go_wp2_with fail
  go_loop [3, 8] (fun c i => ∃ k : Nat, k ≤ n ∧ i = .int .i64 k ∧ c = .int .i64 (pairsC n M k)) (fun _ i => n - (intOf i).toNat)
  case atStart => exact ⟨0, Nat.zero_le _, rfl, rfl⟩
  case round =>
    obtain ⟨k, hk, rfl, rfl⟩ := hrel
    have hbd := pairsC_le n M k
    by_cases hlt : k < n
    · obtain ⟨ad, rfl, hcell⟩ := hR k hlt
      have hs : pairsC n M (k + 1) = pairsC n M k + if k < M k ∧ M k < n then 1 else 0 := rfl
      have HS := Hd.mk hs
      clear hs
      generalize M k = m at *
      by_cases t1 : k < m
      · by_cases t2 : m < n
        · have b1 : decide (k < m) = true := by simp [t1]
          have b2 : decide (m < n) = true := by simp [t2]
          have HT := Hd.mk (And.intro t1 t2)
          clear t1 t2
          go_wp2_with fail
          go_round
          case rel => exact ⟨k + 1, by omega, by go_num, by rw [HS.out, if_pos HT.out]; go_num⟩
          case measure => simp [intOf]; omega
        · have b1 : decide (k < m) = true := by simp [t1]
          have b2 : decide (m < n) = false := by simp; omega
          have HT := Hd.mk (show ¬ (k < m ∧ m < n) by omega)
          clear t1 t2
          go_wp2_with fail
          go_round
          case rel => exact ⟨k + 1, by omega, by go_num, by rw [HS.out, if_neg HT.out]; go_num⟩
          case measure => simp [intOf]; omega
      · have b1 : decide (k < m) = false := by simp; omega
        have HT := Hd.mk (show ¬ (k < m ∧ m < n) by omega)
        clear t1
        go_wp2_with fail
        go_round
        case rel => exact ⟨k + 1, by omega, by go_num, by rw [HS.out, if_neg HT.out]; go_num⟩
        case measure => simp [intOf]; omega
    · go_wp2_with fail
      go_ret
      obtain rfl : k = n := by omega
      exact ⟨rfl, rfl⟩

/-- checked's answer: an error, or the graph. -/
def chkS (n : Int) (es : List (Int × Int)) : Except Int (Nat × (Nat → Nat → Bool)) :=
  if n < 0 ∨ 24 < n then .error 2 else if 128 < es.length then .error 3 else
    match chkL n.toNat es (fun _ _ => false) with
    | none => .error 2
    | some nx => .ok (n.toNat, nx)
theorem chkS_ok {n : Int} {es : List (Int × Int)} {m : Nat} {nx : Nat → Nat → Bool} (h : chkS n es = .ok (m, nx)) : n = m ∧ m ≤ 24 ∧ es.length ≤ 128 ∧ chkL m es (fun _ _ => false) = some nx := by
  unfold chkS at h
  split at h
  · exact absurd h (by simp)
  · rename_i h0
    split at h
    · exact absurd h (by simp)
    · cases hc : chkL n.toNat es (fun _ _ => false) with
      | none => rw [hc] at h; exact absurd h (by simp)
      | some ny =>
        rw [hc] at h
        simp only [Except.ok.injEq, Prod.mk.injEq] at h
        obtain ⟨rfl, rfl⟩ := h
        exact ⟨by omega, by omega, by omega, hc⟩
theorem chkS_err {n : Int} {es : List (Int × Int)} {x : Int} (h : chkS n es = .error x) : x = 2 ∨ x = 3 := by
  unfold chkS at h
  split at h
  · simp only [Except.error.injEq] at h; omega
  · split at h
    · simp only [Except.error.injEq] at h; omega
    · cases hc : chkL n.toNat es (fun _ _ => false) with
      | none => rw [hc] at h; simp only [Except.error.injEq] at h; omega
      | some ny => rw [hc] at h; exact absurd h (by simp)
theorem checked_err (w : World) (n : Int) (A : Option Addr) (c : Nat) (es : List (Int × Int)) (hE : RdE w A es) (x : Int) (h : chkS n es = .error x) :
    Calls Try.prog 119 #[.int .i64 n, .slice A es.length c] w fun e w' => e = .returned (.tuple #[.pointer none, .int .i64 x]) ∧ Below w.heap.size w w' := by
  unfold chkS at h
  split at h
  · rename_i h0
    obtain rfl : 2 = x := by simpa using h
    exact (checked_arg w n A es.length c h0).mono fun e w' ⟨h1, h2⟩ => ⟨h1, h2 ▸ Below.refl _ _⟩
  · rename_i h0
    obtain ⟨m, rfl⟩ : ∃ m : Nat, n = m := ⟨n.toNat, by omega⟩
    split at h
    · rename_i h1
      obtain rfl : 3 = x := by simpa using h
      exact (checked_limit w m A es.length c (by omega) h1).mono fun e w' ⟨h1, h2⟩ => ⟨h1, h2 ▸ Below.refl _ _⟩
    · rename_i h1
      rw [Int.toNat_natCast] at h
      refine (checked_any w m A c es (by omega) (by omega) hE).mono fun e w' ⟨h2, h3⟩ => ?_
      cases hc : chkL m es (fun _ _ => false) with
      | none =>
        rw [hc] at h h3
        obtain rfl : 2 = x := by simpa using h
        exact ⟨h3, h2⟩
      | some ny => rw [hc] at h; exact absurd h (by simp)
theorem checked_ok (w : World) (n : Int) (A : Option Addr) (c : Nat) (es : List (Int × Int)) (hE : RdE w A es) (m : Nat) (nx : Nat → Nat → Bool) (h : chkS n es = .ok (m, nx)) :
    Calls Try.prog 119 #[.int .i64 n, .slice A es.length c] w fun e w' => ∃ b, e = .returned (.tuple #[.pointer (some ⟨b, 0, none⟩), .int .i64 0]) ∧ (GBlk w' b m nx ∧ w.heap.size ≤ b ∧ Below w.heap.size w w') := by
  obtain ⟨rfl, h1, h2, h3⟩ := chkS_ok h
  refine (checked_any w m A c es h1 h2 hE).mono fun e w' ⟨g1, g2⟩ => ?_
  rw [h3] at g2
  obtain ⟨b, g3, g4, g5⟩ := g2
  exact ⟨b, g3, g4, g5, g1⟩

/-- The fuel: more than any way is long. -/
def K0 : Nat := 100
def shortF (n : Int) (es : List (Int × Int)) : Option (Int × Int) :=
  match chkS n es with
  | .error x => some (0, x)
  | .ok (m, nx) => (mostS m nx K0).map fun M => ((m : Int) - 2 * (pairsS m M : Int), 0)
theorem mostL_le {n k : Nat} {nx : Nat → Nat → Bool} : ∀ (d i : Nat) (M M' : Nat → Nat), mostL n nx k d i M = some M' → (∀ u, u < n → M u ≤ n) → ∀ u, u < n → M' u ≤ n
  | 0, _, M, M', h, hle => by obtain rfl := Option.some.inj h; exact hle
  | d + 1, i, M, M', h, hle => by
    simp only [mostL] at h
    split at h
    · exact mostL_le d _ _ _ h hle
    · obtain ⟨r, hg, h2⟩ := Option.bind_eq_some_iff.1 h
      cases r with
      | none => exact mostL_le d _ _ _ h2 hle
      | some M2 => exact mostL_le d _ _ _ h2 (grownS_le hg hle)
theorem mostS_le {n k : Nat} {nx : Nat → Nat → Bool} {M : Nat → Nat} (h : mostS n nx k = some M) : ∀ u, u < n → M u ≤ n := mostL_le _ _ _ _ h (fun _ _ => Nat.le_refl _)

end Go.Proofs.Ytnbdfmdjedakcaa.Pr

namespace Go.Proofs.Ytnbdfmdjedakcaa.Pr
open Go.RowKit
set_option linter.unusedVariables false
set_option linter.unusedSimpArgs false

/-- Whole numbers that are read. -/
def RdZ (w : World) (A : Option Addr) (zs : List Int) : Prop := ∀ j, j < zs.length → ∃ ad, A = some ad ∧ w.cell? (ad.add j) = some (.int .i64 (zs.getD j 0))
theorem RdZ.below {w w' : World} {A : Option Addr} {zs : List Int} (h : RdZ w A zs) (hb : Below w.heap.size w w') : RdZ w' A zs := by
  intro j hj
  obtain ⟨ad, e, hc⟩ := h j hj
  exact ⟨ad, e, (hb.cell (World.block_lt_of_cell? w _ hc)).trans hc⟩
/-- Does entry z at i fit? -/
def fitZ (n : Nat) (nx : Nat → Nat → Bool) (zs : List Int) (i : Nat) (z : Int) : Bool :=
  if z < 0 then false else if (n : Int) < z then false else if z.toNat < n then nx i z.toNat && (zs.getD z.toNat 0 == (i : Int)) else true
def fitB (n : Nat) (nx : Nat → Nat → Bool) (zs : List Int) (i : Nat) : Bool := fitZ n nx zs i (zs.getD i 0)
def fitL (n : Nat) (nx : Nat → Nat → Bool) (zs : List Int) : Nat → Nat → Bool
  | 0, _ => true
  | d + 1, i => if fitB n nx zs i = true then fitL n nx zs d (i + 1) else false
def fitsS (n : Nat) (nx : Nat → Nat → Bool) (zs : List Int) : Bool := decide (zs.length = n) && fitL n nx zs n 0

end Go.Proofs.Ytnbdfmdjedakcaa.Pr

namespace Go.Proofs.Ytnbdfmdjedakcaa.Pr
open Go.RowKit
set_option linter.unusedVariables false
set_option linter.unusedSimpArgs false

def MZ (zs : List Int) : Nat → Nat := fun i => (zs.getD i 0).toNat
theorem fitL_spec {n : Nat} {nx : Nat → Nat → Bool} {zs : List Int} : ∀ d i, fitL n nx zs d i = true → ∀ j, i ≤ j → j < i + d → fitB n nx zs j = true
  | 0, i, _, j, h1, h2 => by omega
  | d + 1, i, h, j, h1, h2 => by
    simp only [fitL] at h
    split at h
    · rename_i hb
      by_cases e : j = i
      · subst e; exact hb
      · exact fitL_spec d (i + 1) h j (by omega) (by omega)
    · exact absurd h (by simp)
theorem fitL_of {n : Nat} {nx : Nat → Nat → Bool} {zs : List Int} : ∀ d i, (∀ j, i ≤ j → j < i + d → fitB n nx zs j = true) → fitL n nx zs d i = true
  | 0, i, _ => rfl
  | d + 1, i, h => by
    simp only [fitL]
    rw [if_pos (h i (Nat.le_refl _) (by omega))]
    exact fitL_of d (i + 1) (fun j h1 h2 => h j (by omega) (by omega))
theorem fitB_spec {n : Nat} {nx : Nat → Nat → Bool} {zs : List Int} {i : Nat} (h : fitB n nx zs i = true) : 0 ≤ zs.getD i 0 ∧ MZ zs i ≤ n ∧ (MZ zs i < n → nx i (MZ zs i) = true ∧ zs.getD (MZ zs i) 0 = i) := by
  unfold fitB fitZ at h
  unfold MZ
  split at h
  · exact absurd h (by simp)
  · split at h
    · exact absurd h (by simp)
    · refine ⟨by omega, by omega, fun hl => ?_⟩
      rw [if_pos hl] at h
      simpa using h
theorem fits_spec {n : Nat} {nx : Nat → Nat → Bool} {zs : List Int} (h : fitsS n nx zs = true) : zs.length = n ∧ ∀ i, i < n → 0 ≤ zs.getD i 0 ∧ MZ zs i ≤ n ∧ (MZ zs i < n → nx i (MZ zs i) = true ∧ MZ zs (MZ zs i) = i) := by
  unfold fitsS at h
  simp only [Bool.and_eq_true, decide_eq_true_eq] at h
  refine ⟨h.1, fun i hi => ?_⟩
  obtain ⟨h1, h2, h3⟩ := fitB_spec (fitL_spec n 0 h.2 i (Nat.zero_le _) (by omega))
  refine ⟨h1, h2, fun hl => ⟨(h3 hl).1, ?_⟩⟩
  have := (h3 hl).2
  show (zs.getD (MZ zs i) 0).toNat = i
  rw [this]
  simp
theorem RdZ.w {w : World} {A : Option Addr} {zs : List Int} {n : Nat} (h : RdZ w A zs) (hl : zs.length = n) (h0 : ∀ i, i < n → 0 ≤ zs.getD i 0) : RdW w A n (MZ zs) := by
  intro j hj
  obtain ⟨ad, e, hc⟩ := h j (by omega)
  refine ⟨ad, e, ?_⟩
  rw [hc]
  have : ((MZ zs j : Nat) : Int) = zs.getD j 0 := Int.toNat_of_nonneg (h0 j hj)
  rw [this]
theorem NRow.own {w : World} {b n cap base : Nat} {f : Nat → Nat} (h : NRow w b n cap f) (hb : base ≤ b) : w.ownsRow base 3 1 (.slice (some ⟨b, 0, none⟩) n cap) (ilist n f).length ((ilist n f).map fun x => Value.int .i64 x) := by
  obtain ⟨C, hC, hs, hn, hm, hf⟩ := h
  refine ⟨by simp [ilist], .inr ⟨b, cap, C, by rw [ilist_length], hb, hC, by rw [ilist_length]; exact hn, hm, by omega, ?_⟩⟩
  apply List.ext_getElem?
  intro j
  rw [ilist_length, Nat.mul_one, List.getElem?_take]
  by_cases hj : j < n
  · rw [if_pos hj]
    have := hf j hj
    simp [ilist, hj]
    rw [← this]
  · rw [if_neg hj]
    simp [ilist, hj]
theorem own_nil_ (w : World) (base : Nat) : w.ownsRow base 3 1 (.slice none 0 0) ([] : List Int).length (([] : List Int).map fun x => Value.int .i64 x) := ⟨rfl, .inl ⟨rfl, rfl⟩⟩

end Go.Proofs.Ytnbdfmdjedakcaa.Pr

namespace Go.Proofs.Ytnbdfmdjedakcaa.Pr
open Go.RowKit
set_option linter.unusedVariables false
set_option linter.unusedSimpArgs false

/-- Match's inner loop: the lowest mate with which as many pairs are left. -/
def findL (n : Nat) (nx : Nat → Nat → Bool) (i : Nat) (left : Int) : Nat → Nat → Option (Option Nat)
  | 0, _ => some none
  | d + 1, j =>
    if nx i j = false then findL n nx i left d (j + 1)
    else (mostS n (woS (woS nx i) j) K0).bind fun M => if (pairsS n M : Int) = left - 1 then some (some j) else findL n nx i left d (j + 1)
/-- Match's outer loop. -/
def matchL (n : Nat) : Nat → Nat → (Nat → Nat → Bool) → Int → (Nat → Nat) → Option (Nat → Nat)
  | 0, _, _, _, out => some out
  | d + 1, i, nx, left, out =>
    if out i < n then matchL n d (i + 1) nx left out
    else (findL n nx i left n 0).bind fun r => match r with
      | some j => matchL n d (i + 1) (woS (woS nx i) j) (left - 1) (upd (upd out i j) j i)
      | none => matchL n d (i + 1) (woS nx i) left out
def matchF (n : Int) (es : List (Int × Int)) : Option (List Int × Int × Int) :=
  match chkS n es with
  | .error x => some ([], 0, x)
  | .ok (m, nx) => (mostS m nx K0).bind fun M => (matchL m m 0 nx (pairsS m M) (fun _ => m)).map fun out => (ilist m out, (pairsS m M : Int), 0)

theorem alloc_size (w : World) (o : Obj) : (w.alloc o).heap.size = w.heap.size + 1 := by show (w.heap.push o).size = _; simp
/-- Two numbers in a new row. -/
theorem RdN_two (w : World) (x y : Nat) : RdN (w.alloc (.cells #[.int .i64 (x : Int), .int .i64 (y : Int)] 3)) (some ⟨w.heap.size, 0, none⟩) 2 (fun j => if j = 0 then x else y) := by
  refine ⟨_, rfl, fun j hj => ?_⟩
  rw [Addr.add_lit, cell_of _ _ _ _ _ _ (alloc_new w _)]
  match j, hj with
  | 0, _ => rfl
  | 1, _ => rfl
theorem RdN_one (w : World) (x : Nat) : RdN (w.alloc (.cells #[.int .i64 (x : Int)] 3)) (some ⟨w.heap.size, 0, none⟩) 1 (fun _ => x) := by
  refine ⟨_, rfl, fun j hj => ?_⟩
  rw [Addr.add_lit, cell_of _ _ _ _ _ _ (alloc_new w _)]
  match j, hj with
  | 0, _ => rfl

set_option maxRecDepth 100000 in
set_option maxHeartbeats 2000000 in
theorem matchF_any (w : World) (n : Int) (A : Option Addr) (c : Nat) (es : List (Int × Int)) (hE : RdE w A es) (r0 : List Int) (r1 r2 : Int) (h : matchF n es = some (r0, r1, r2)) :
    Calls Try.prog 98 #[.int .i64 n, .slice A es.length c] w fun e w' => ∃ v, e = .returned (.tuple #[v, .int .i64 r1, .int .i64 r2]) ∧ (w'.ownsRow w.heap.size 3 1 v r0.length (r0.map fun x => Value.int .i64 x) ∧ Below w.heap.size w w') := by
  unfold matchF at h
  have HE := Hd.mk hE
  clear hE
  cases hc : chkS n es with
  | error x =>
    rw [hc] at h
    simp only [Option.some.injEq, Prod.mk.injEq] at h
    obtain ⟨rfl, rfl, rfl⟩ := h
    have hx : (x != 0) = true := by rcases chkS_err hc with rfl | rfl <;> rfl
    have HC := Hd.mk hc
    clear hc
    go_enter Try.func98, Try.ntmps98
    go_wp2_with fail
    go_step3
    go_wp2_with fail
    refine (checked_err w n A c es HE.out x HC.out).mono ?_
    rintro e w1 ⟨rfl, g1⟩
    go_wp2_with fail
    rw [Exit.noGoto_ret]
    go_ret3
    exact ⟨_, rfl, own_nil_ _ _, g1⟩
  | ok p =>
    obtain ⟨m, nx⟩ := p
    rw [hc] at h
    simp only at h
    obtain ⟨rfl, hm24, _⟩ := chkS_ok hc
    have HC := Hd.mk hc
    clear hc
    obtain ⟨M, hM, h1⟩ := Option.bind_eq_some_iff.1 h
    obtain ⟨out, hml, h2⟩ := Option.map_eq_some_iff.1 h1
    simp only [Prod.mk.injEq] at h2
    obtain ⟨rfl, rfl, rfl⟩ := h2
    have HM := Hd.mk hM
    have HML := Hd.mk hml
    have hmk := run_make_row' (P := Try.prog) 28 3 (.int .i64 0) 8 Try.underlying28 tinfo3 rfl .i64 .i64 m (by omega) (by omega)
    clear hM h1 h hml
    go_enter Try.func98, Try.ntmps98
    go_wp2_with fail
    go_step3
    go_wp2_with fail
    refine (checked_ok w m A c es HE.out m nx HC.out).mono ?_
    rintro e w1 ⟨b, rfl, g1, g2, g3⟩
    have HG := Hd.mk g1
    have HB := Hd.mk g3
    clear g1 g3
    go_wp2_with fail
    refine (most_any w1 b m K0 nx M HG.out HM.out).mono ?_
    rintro e w2 ⟨b2, cap2, rfl, g4, g5, g6⟩
    have HN := Hd.mk g4
    have HG2 := Hd.mk (HG.out.of_heap (w' := w2) (g6.block _ HG.out.lt))
    have HB2 := Hd.mk (HB.out.trans (g6.mono HB.out.size))
    clear g4 g6
    go_wp2_with fail
    refine (pairs_any w2 (some ⟨b2, 0, none⟩) m cap2 M (by omega) HN.out.rd.w (mostS_le HM.out)).mono ?_
    rintro e w3 ⟨rfl, rfl⟩
    go_wp2_with fail
    go_region_held3 (fun _ => True) (trivial) (fail)
    obtain ⟨ob, hob⟩ : ∃ ob, ob = w2.heap.size := ⟨_, rfl⟩
    refine gen_world (fun wq => NRow wq ob m m (fun _ => 0) ∧ GBlk wq b m nx ∧ Below w.heap.size w wq) ?_ ?_
    · rw [hob]
      refine ⟨(NRow_made (w2.drewN 1) m (by omega)), HG2.out.of_heap (alloc_old (w2.drewN 1) _ _ HG2.out.lt), (bel_drewN HB2.out 1).alloc HB2.out.size _⟩
    intro wq ⟨g1, g4, g5⟩
    have HN1 := Hd.mk g1
    have HG1 := Hd.mk g4
    have HB1 := Hd.mk g5
    have hbo : w.heap.size ≤ ob := by rw [hob]; exact HB2.out.size
    have hgo : b ≠ ob := by rw [hob]; have := HG2.out.lt; omega
    rw [← hob]
    clear g1 g4 g5 HN HG2 HB2 HG HB hmk hob HM HC HE
    go_wp2_with fail
    go_loopg [33] m (fun kq v33 wr => ∃ (i : Nat) (f : Nat → Nat), v33 = .int .i64 i ∧ Hd (i + kq = m) ∧ Hd (∀ j, j < i → f j = m) ∧ Hd (NRow wr ob m m f) ∧ Hd (GBlk wr b m nx) ∧ Hd (Below w.heap.size w wr))
    case atStart => exact ⟨0, _, rfl, ⟨by omega⟩, ⟨fun j hj => absurd hj (by omega)⟩, HN1, HG1, HB1⟩
    case round =>
      obtain ⟨i, f, rfl, HK, HX, HN, HG, HB⟩ := hrel
      clear HN1 HG1 HB1
      cases gk with
      | zero =>
        have hi := HK.out
        have hlt : ¬ (i : Int) < m := by omega
        have HN1 := Hd.mk (HN.out.congr (g := fun _ => m) (fun j hj => HX.out j (by omega)))
        clear hi HN HX
        go_wp2_with fail
        go_step3
        go_wp2_with fail
        have hps : pairsS m M ≤ m := pairsC_le m M m
        go_loopg [7, 10, 43] m (fun kq v7 v10 v43 wq => ∃ (i : Nat) (L : Int) (f : Nat → Nat) (b : Nat) (ny : Nat → Nat → Bool), v7 = .pointer (some ⟨b, 0, none⟩) ∧ v10 = .int .i64 L ∧ v43 = .int .i64 i ∧
          Hd (i + kq = m) ∧ Hd (-(i : Int) ≤ L ∧ L ≤ 1000) ∧ Hd (matchL m kq i ny L f = some out) ∧ Hd (∀ j, j < m → f j ≤ m) ∧ Hd (b ≠ ob) ∧ Hd (NRow wq ob m m f) ∧ Hd (GBlk wq b m ny) ∧ Hd (Below w.heap.size w wq))
        case atStart => exact ⟨0, _, _, b, nx, rfl, rfl, rfl, ⟨by omega⟩, ⟨by omega, by omega⟩, HML, ⟨fun _ _ => Nat.le_refl _⟩, ⟨hgo⟩, HN1, HG, HB⟩
        case round =>
          obtain ⟨i, L, f, b, ny, rfl, rfl, rfl, HK, HLB, HX, HF, HBO, HN, HG, HB⟩ := hrel
          clear HN1 HML hgo
          cases gk with
          | zero =>
            have hi := HK.out
            have hlt : ¬ (i : Int) < m := by omega
            have hx := Option.some.inj (show some f = some out from HX.out)
            subst hx
            clear hi HX
            go_wp2_with fail
            go_ret3
            exact ⟨_, rfl, HN.out.own hbo, HB.out⟩
          | succ k1 =>
            have hi := HK.out
            have hlt : (i : Int) < m := by omega
            have hlt' : i < m := by omega
            have ci := HN.out.blk.cell i hlt'
            have hfi := HF.out i hlt'
            have hx := HX.out
            clear hi HX
            simp only [matchL] at hx
            have hL1 : -100 ≤ L := by have := HLB.out; omega
            have hL2 : L ≤ 1000 := HLB.out.2
            by_cases hs : f i < m
            · rw [if_pos hs] at hx
              have HX := Hd.mk hx
              have bs : decide (f i < m) = true := by simp; omega
              clear hx hs hfi
              go_wp2_with fail
              go_roundg k1
              case measure => omega
              case rel => exact ⟨i + 1, L, f, b, ny, rfl, rfl, by go_num, ⟨by have := HK.out; omega⟩, ⟨by have := HLB.out; omega, by have := HLB.out; omega⟩, HX, HF, HBO, HN, HG, HB⟩
            · rw [if_neg hs] at hx
              obtain ⟨r, hfd, hx2⟩ := Option.bind_eq_some_iff.1 hx
              have HFD := Hd.mk hfd
              have HX := Hd.mk hx2
              have bs : decide (f i < m) = false := by simp; omega
              clear hx hs hfi hfd hx2
              go_upto_region 16 with (fail)
              go_loopg [7, 10, 53] m (fun kq v7 v10 v53 wq => ∃ (j : Nat), v7 = .pointer (some ⟨b, 0, none⟩) ∧ v10 = .int .i64 L ∧ v53 = .int .i64 j ∧ Hd (j + kq = m) ∧ Hd (findL m ny i L kq j = some r) ∧ Hd (NRow wq ob m m f) ∧ Hd (GBlk wq b m ny) ∧ Hd (Below w.heap.size w wq))
              case atStart => exact ⟨0, rfl, rfl, rfl, ⟨by omega⟩, HFD, HN, HG, HB⟩
              case round =>
                obtain ⟨j, rfl, rfl, rfl, HK2, HY, HN, HG, HB⟩ := hrel
                clear HFD ci
                cases gk with
                | zero =>
                  have hj := HK2.out
                  have hlt : ¬ (j : Int) < m := by omega
                  have hy := Option.some.inj (show some none = some r from HY.out)
                  subst hy
                  have HX2 := Hd.mk (show matchL m k1 (i + 1) (woS ny i) L f = some out from HX.out)
                  clear hj HY HX
                  go_wp2_with fail
                  refine (without_any _ b m 1 1 (some ⟨wr.heap.size, 0, none⟩) ny (fun _ => i) (by exact HG.out.of_heap (alloc_old _ _ _ HG.out.lt)) (by exact RdN_one _ i) (fun _ _ => hlt') (by omega)).mono ?_
                  rintro e w5 ⟨b5, rfl, g1, g2, g3⟩
                  have HB5 := Hd.mk ((HB.out.alloc HB.out.size (.cells #[.int .i64 (i : Int)] 3)).trans (g3.mono (by have h1 := HB.out.size; have h2 := alloc_size wr; rw [h2]; omega)))
                  have HG5 := Hd.mk g1
                  have HN5 := Hd.mk ((HN.out.of_heap (alloc_old wr (.cells #[.int .i64 (i : Int)] 3) _ HN.out.lt)).of_heap (g3.block _ (by have h1 := HN.out.lt; rw [alloc_size]; omega)))
                  have HBO5 := Hd.mk (show b5 ≠ ob from by have h1 := HN.out.lt; have h2 := alloc_size wr (.cells #[.int .i64 (i : Int)] 3); omega)
                  clear g1 g2 g3 HN HG HB HBO
                  go_wp2_with fail
                  go_roundg k1
                  case measure => omega
                  case rel => exact ⟨i + 1, L, f, b5, _, rfl, rfl, by go_num, ⟨by have := HK.out; omega⟩, ⟨by have := HLB.out; omega, by have := HLB.out; omega⟩, HX2, HF, HBO5, HN5, HG5, HB5⟩
                | succ k2 =>
                  have hj := HK2.out
                  have hlt2 : (j : Int) < m := by omega
                  have hltj : j < m := by omega
                  have i1 : (i : Int) < 24 := by omega
                  have i2 : (j : Int) < 24 := by omega
                  have j1 : (0 : Int) ≤ i := by omega
                  have j2 : (0 : Int) ≤ j := by omega
                  have cn := HG.out.getNx i j hlt' hltj
                  have hy := HY.out
                  clear hj HY
                  simp only [findL] at hy
                  by_cases t1 : ny i j = false
                  · rw [if_pos t1] at hy
                    rw [t1] at cn
                    have HY := Hd.mk hy
                    clear hy t1
                    go_wp2_with fail
                    go_roundg k2
                    case measure => omega
                    case rel => exact ⟨j + 1, rfl, rfl, by go_num, ⟨by have := HK2.out; omega⟩, HY, HN, HG, HB⟩
                  · rw [if_neg t1] at hy
                    have t1' : ny i j = true := by simpa using t1
                    rw [t1'] at cn
                    obtain ⟨M2, hM2, hy2⟩ := Option.bind_eq_some_iff.1 hy
                    have HM2 := Hd.mk hM2
                    have hps2 : pairsS m M2 ≤ m := pairsC_le m M2 m
                    clear t1 t1' hy hM2
                    go_wp2_with fail
                    refine (without_any _ b m 2 2 (some ⟨wr.heap.size, 0, none⟩) ny (fun q => if q = 0 then i else j) (by exact HG.out.of_heap (alloc_old _ _ _ HG.out.lt)) (by exact RdN_two _ i j) (fun q _ => by split <;> assumption) (by omega)).mono ?_
                    rintro e w5 ⟨b5, rfl, g1, g2, g3⟩
                    have HB5 := Hd.mk ((HB.out.alloc HB.out.size (.cells #[.int .i64 (i : Int), .int .i64 (j : Int)] 3)).trans (g3.mono (by have h1 := HB.out.size; have h2 := alloc_size wr; rw [h2]; omega)))
                    have HG5 := Hd.mk (show GBlk w5 b5 m (woS (woS ny i) j) from g1)
                    have HGo5 := Hd.mk ((HG.out.of_heap (alloc_old wr (.cells #[.int .i64 (i : Int), .int .i64 (j : Int)] 3) _ HG.out.lt)).of_heap (g3.block _ (by have h1 := HG.out.lt; rw [alloc_size]; omega)))
                    have HN5 := Hd.mk ((HN.out.of_heap (alloc_old wr (.cells #[.int .i64 (i : Int), .int .i64 (j : Int)] 3) _ HN.out.lt)).of_heap (g3.block _ (by have h1 := HN.out.lt; rw [alloc_size]; omega)))
                    have HBO5 := Hd.mk (show b5 ≠ ob from by have h1 := HN.out.lt; have h2 := alloc_size wr (.cells #[.int .i64 (i : Int), .int .i64 (j : Int)] 3); omega)
                    clear g1 g2 g3 HN HG HB
                    go_wp2_with fail
                    refine (most_any w5 b5 m K0 _ M2 HG5.out HM2.out).mono ?_
                    rintro e w6 ⟨b6, cap6, rfl, g4, g5, g6⟩
                    have HNm := Hd.mk g4
                    have HG6 := Hd.mk (HG5.out.of_heap (w' := w6) (g6.block _ HG5.out.lt))
                    have HGo6 := Hd.mk (HGo5.out.of_heap (w' := w6) (g6.block _ HGo5.out.lt))
                    have HN6 := Hd.mk (HN5.out.of_heap (w' := w6) (g6.block _ HN5.out.lt))
                    have HB6 := Hd.mk (HB5.out.trans (g6.mono HB5.out.size))
                    clear g4 g5 g6 HG5 HGo5 HN5 HB5
                    go_wp2_with fail
                    refine (pairs_any w6 (some ⟨b6, 0, none⟩) m cap6 M2 (by omega) HNm.out.rd.w (mostS_le HM2.out)).mono ?_
                    rintro e w7 ⟨rfl, rfl⟩
                    by_cases t2 : (pairsS m M2 : Int) = L - 1
                    · rw [if_pos t2] at hy2
                      have hy3 := Option.some.inj hy2
                      subst hy3
                      have b2 : ((pairsS m M2 : Int) == L - 1) = true := by simp [t2]
                      have HX2 := Hd.mk (show matchL m k1 (i + 1) (woS (woS ny i) j) (L - 1) (upd (upd f i j) j i) = some out from HX.out)
                      have ci := HN6.out.blk.cell i hlt'
                      have fi := HN6.out.blk.frozen i
                      have h1 := HN6.out.set i hlt' j
                      have cj := h1.blk.cell j hltj
                      have fj := h1.blk.frozen j
                      have HN7 := Hd.mk (h1.set j hltj i)
                      have HG7 := Hd.mk ((HG6.out.of_heap (w' := w6.setCell ⟨ob, i, none⟩ (.int .i64 j)) (heap_set_ne _ _ _ _ _ HBO5.out)).of_heap (w' := (w6.setCell ⟨ob, i, none⟩ (.int .i64 j)).setCell ⟨ob, j, none⟩ (.int .i64 i)) (heap_set_ne _ _ _ _ _ HBO5.out))
                      have HB7 := Hd.mk (bel_set (bel_set HB6.out hbo i (.int .i64 j)) hbo j (.int .i64 i))
                      clear hy2 t2 h1 HG6 HN6 HB6 HGo6 HX cn
                      go_wp2_with fail
                      go_roundg k1
                      case measure => omega
                      case rel => exact ⟨i + 1, L - 1, _, b5, _, rfl, rfl, by go_num, ⟨by have := HK.out; omega⟩, ⟨by have := HLB.out; omega, by have := HLB.out; omega⟩, HX2, ⟨fun q hq => by
                          unfold upd
                          split
                          · omega
                          · split
                            · omega
                            · exact HF.out q hq⟩, HBO5, HN7, HG7, HB7⟩
                    · rw [if_neg t2] at hy2
                      have b2 : ((pairsS m M2 : Int) == L - 1) = false := by simp; omega
                      have HY := Hd.mk hy2
                      clear hy2 t2 HG6 cn
                      go_wp2_with fail
                      go_roundg k2
                      case measure => omega
                      case rel => exact ⟨j + 1, rfl, rfl, by go_num, ⟨by have := HK2.out; omega⟩, HY, HN6, HGo6, HB6⟩
      | succ k1 =>
        have hi := HK.out
        have hlt : (i : Int) < m := by omega
        have hlt' : i < m := by omega
        have ci := HN.out.blk.cell i hlt'
        have fi := HN.out.blk.frozen i
        have HN2 := Hd.mk (HN.out.set i hlt' m)
        have HG2 := Hd.mk (HG.out.of_heap (w' := wr.setCell ⟨ob, i, none⟩ (.int .i64 m)) (heap_set_ne _ _ _ _ _ hgo))
        have HB2 := Hd.mk (bel_set HB.out hbo i (.int .i64 m))
        clear hi HN HG HB
        go_wp2_with fail
        go_roundg k1
        case measure => omega
        case rel => exact ⟨i + 1, _, by go_num, ⟨by have := HK.out; omega⟩, ⟨fun j hj => by
            unfold upd
            split
            · rfl
            · exact HX.out j (by omega)⟩, HN2, HG2, HB2⟩
end Go.Proofs.Ytnbdfmdjedakcaa.Pr

namespace Go.Proofs.Ytnbdfmdjedakcaa.Pr
open Go.RowKit
set_option linter.unusedVariables false
set_option linter.unusedSimpArgs false

/-- Parts' first loop. -/
def partsA (n : Nat) (nx : Nat → Nat → Bool) (all : Nat) : Nat → Nat → (Nat → Nat) → Option (Nat → Nat)
  | 0, _, out => some out
  | d + 1, i, out => (mostS n (woS nx i) K0).bind fun M => partsA n nx all d (i + 1) (upd out i (if pairsS n M = all then 0 else 2))
/-- Parts' second loop, inside .. -/
def partsC (nx : Nat → Nat → Bool) (i : Nat) : Nat → Nat → (Nat → Nat) → (Nat → Nat)
  | 0, _, out => out
  | d + 1, j, out => partsC nx i d (j + 1) (if out i = 2 ∧ out j = 0 ∧ nx i j = true then upd out i 1 else out)
/-- .. and outside. -/
def partsB (n : Nat) (nx : Nat → Nat → Bool) : Nat → Nat → (Nat → Nat) → (Nat → Nat)
  | 0, _, out => out
  | d + 1, i, out => partsB n nx d (i + 1) (partsC nx i n 0 out)
def partsF (n : Int) (es : List (Int × Int)) : Option (List Int × Int) :=
  match chkS n es with
  | .error x => some ([], x)
  | .ok (m, nx) => (mostS m nx K0).bind fun M => (partsA m nx (pairsS m M) m 0 (fun _ => 0)).map fun out => (ilist m (partsB m nx m 0 out), 0)

set_option maxRecDepth 100000 in
set_option maxHeartbeats 2000000 in
theorem partsF_any (w : World) (n : Int) (A : Option Addr) (c : Nat) (es : List (Int × Int)) (hE : RdE w A es) (r0 : List Int) (r1 : Int) (h : partsF n es = some (r0, r1)) :
    Calls Try.prog 99 #[.int .i64 n, .slice A es.length c] w fun e w' => ∃ v, e = .returned (.tuple #[v, .int .i64 r1]) ∧ (w'.ownsRow w.heap.size 3 1 v r0.length (r0.map fun x => Value.int .i64 x) ∧ Below w.heap.size w w') := by
  unfold partsF at h
  have HE := Hd.mk hE
  clear hE
  cases hc : chkS n es with
  | error x =>
    rw [hc] at h
    simp only [Option.some.injEq, Prod.mk.injEq] at h
    obtain ⟨rfl, rfl⟩ := h
    have hx : (x != 0) = true := by rcases chkS_err hc with rfl | rfl <;> rfl
    have HC := Hd.mk hc
    clear hc
    go_enter Try.func99, Try.ntmps99
    go_wp2_with fail
    refine (checked_err w n A c es HE.out x HC.out).mono ?_
    rintro e w1 ⟨rfl, g1⟩
    go_wp2_with fail
    go_ret2
    exact ⟨_, rfl, own_nil_ _ _, g1⟩
  | ok p =>
    obtain ⟨m, nx⟩ := p
    rw [hc] at h
    simp only at h
    obtain ⟨rfl, hm24, _⟩ := chkS_ok hc
    have HC := Hd.mk hc
    clear hc
    obtain ⟨M, hM, h1⟩ := Option.bind_eq_some_iff.1 h
    obtain ⟨out, hml, h2⟩ := Option.map_eq_some_iff.1 h1
    simp only [Prod.mk.injEq] at h2
    obtain ⟨rfl, rfl⟩ := h2
    have HM := Hd.mk hM
    have HML := Hd.mk hml
    have hmk := run_make_row' (P := Try.prog) 28 3 (.int .i64 0) 8 Try.underlying28 tinfo3 rfl .i64 .i64 m (by omega) (by omega)
    clear hM h1 h hml
    go_enter Try.func99, Try.ntmps99
    go_wp2_with fail
    refine (checked_ok w m A c es HE.out m nx HC.out).mono ?_
    rintro e w1 ⟨b, rfl, g1, g2, g3⟩
    have HG := Hd.mk g1
    have HB := Hd.mk g3
    clear g1 g3
    go_wp2_with fail
    refine (most_any w1 b m K0 nx M HG.out HM.out).mono ?_
    rintro e w2 ⟨b2, cap2, rfl, g4, g5, g6⟩
    have HN := Hd.mk g4
    have HG2 := Hd.mk (HG.out.of_heap (w' := w2) (g6.block _ HG.out.lt))
    have HB2 := Hd.mk (HB.out.trans (g6.mono HB.out.size))
    clear g4 g6
    go_wp2_with fail
    refine (pairs_any w2 (some ⟨b2, 0, none⟩) m cap2 M (by omega) HN.out.rd.w (mostS_le HM.out)).mono ?_
    rintro e w3 ⟨rfl, rfl⟩
    go_upto_region 7 with (fail)
    obtain ⟨ob, hob⟩ : ∃ ob, ob = w2.heap.size := ⟨_, rfl⟩
    have HN1 := Hd.mk (NRow_made w2 m (by omega))
    have HG1 := Hd.mk (HG2.out.of_heap (alloc_old w2 (.cells (madeCells #[.int .i64 0] m) 3) _ HG2.out.lt))
    have HB1 := Hd.mk (HB2.out.alloc HB2.out.size (.cells (madeCells #[.int .i64 0] m) 3))
    have hbo : w.heap.size ≤ ob := by rw [hob]; exact HB2.out.size
    have hgo : b ≠ ob := by rw [hob]; have := HG2.out.lt; omega
    have hpm : pairsS m M ≤ m := pairsC_le m M m
    generalize w2.alloc (.cells (madeCells #[.int .i64 0] m) 3) = w4 at HN1 HG1 HB1 ⊢
    rw [← hob] at HN1 ⊢
    clear HN HG2 HB2 HG HB hmk hob HM HC HE
    go_loopg [29] m (fun kq v29 wr => ∃ (i : Nat) (f : Nat → Nat), v29 = .int .i64 i ∧ Hd (i + kq = m) ∧ Hd (partsA m nx (pairsS m M) kq i f = some out) ∧ Hd (NRow wr ob m m f) ∧ Hd (GBlk wr b m nx) ∧ Hd (Below w.heap.size w wr))
    case atStart => exact ⟨0, _, rfl, ⟨by omega⟩, HML, HN1, HG1, HB1⟩
    case round =>
      obtain ⟨i, f, rfl, HK, HX, HN, HG, HB⟩ := hrel
      clear HN1 HG1 HB1
      cases gk with
      | zero =>
        have hi := HK.out
        have hlt : ¬ (i : Int) < m := by omega
        have hx := Option.some.inj (show some f = some out from HX.out)
        subst hx
        clear hi HX
        go_upto_region 14 with (fail)
        go_loopg [49] m (fun kq v49 wr => ∃ (i : Nat) (f2 : Nat → Nat), v49 = .int .i64 i ∧ Hd (i + kq = m) ∧ Hd (partsB m nx kq i f2 = partsB m nx m 0 f) ∧ Hd (NRow wr ob m m f2) ∧ Hd (GBlk wr b m nx) ∧ Hd (Below w.heap.size w wr))
        case atStart => exact ⟨0, f, rfl, ⟨by omega⟩, ⟨rfl⟩, HN, HG, HB⟩
        case round =>
          obtain ⟨i, f2, rfl, HK, HX, HN, HG, HB⟩ := hrel
          cases gk with
          | zero =>
            have hi := HK.out
            have hlt : ¬ (i : Int) < m := by omega
            have hx := HX.out
            simp only [partsB] at hx
            have HN2 := Hd.mk (hx ▸ HN.out)
            clear hi HX hx HN
            go_wp2_with fail
            go_ret2
            exact ⟨_, rfl, HN2.out.own hbo, HB.out⟩
          | succ k1 =>
            have hi := HK.out
            have hlt : (i : Int) < m := by omega
            have hlt' : i < m := by omega
            clear hi
            go_upto_region 17 with (fail)
            go_loopg [53] m (fun kq v53 wq => ∃ (j : Nat) (f3 : Nat → Nat), v53 = .int .i64 j ∧ Hd (j + kq = m) ∧ Hd (partsC nx i kq j f3 = partsC nx i m 0 f2) ∧ Hd (NRow wq ob m m f3) ∧ Hd (GBlk wq b m nx) ∧ Hd (Below w.heap.size w wq))
            case atStart => exact ⟨0, f2, rfl, ⟨by omega⟩, ⟨rfl⟩, HN, HG, HB⟩
            case round =>
              obtain ⟨j, f3, rfl, HK2, HY, HN, HG, HB⟩ := hrel
              cases gk with
              | zero =>
                have hj := HK2.out
                have hlt : ¬ (j : Int) < m := by omega
                have hy := HY.out
                simp only [partsC] at hy
                have HX2 := Hd.mk (show partsB m nx k1 (i + 1) f3 = partsB m nx m 0 f by rw [hy]; exact HX.out)
                clear hj HY hy HX
                go_wp2_with fail
                go_roundg k1
                case measure => omega
                case rel => exact ⟨i + 1, f3, by go_num, ⟨by have := HK.out; omega⟩, HX2, HN, HG, HB⟩
              | succ k2 =>
                have hj := HK2.out
                have hlt2 : (j : Int) < m := by omega
                have hltj : j < m := by omega
                have i1 : (i : Int) < 24 := by omega
                have i2 : (j : Int) < 24 := by omega
                have j1 : (0 : Int) ≤ i := by omega
                have j2 : (0 : Int) ≤ j := by omega
                have cn := HG.out.getNx i j hlt' hltj
                have ci := HN.out.blk.cell i hlt'
                have cj := HN.out.blk.cell j hltj
                have fi := HN.out.blk.frozen i
                have hy := HY.out
                simp only [partsC] at hy
                clear hj HY
                by_cases t1 : f3 i = 2
                case neg =>
                  rw [if_neg (by intro h; exact t1 h.1)] at hy
                  have b1 : ((f3 i : Int) == 2) = false := by simp; omega
                  have HY := Hd.mk hy
                  clear hy t1
                  go_wp2_with fail
                  go_roundg k2
                  case measure => omega
                  case rel => exact ⟨j + 1, f3, by go_num, ⟨by have := HK2.out; omega⟩, HY, HN, HG, HB⟩
                have b1 : ((f3 i : Int) == 2) = true := by simp; omega
                by_cases t2 : f3 j = 0
                case neg =>
                  rw [if_neg (by intro h; exact t2 h.2.1)] at hy
                  have b2 : ((f3 j : Int) == 0) = false := by simp; omega
                  have HY := Hd.mk hy
                  clear hy t1 t2
                  go_wp2_with fail
                  go_roundg k2
                  case measure => omega
                  case rel => exact ⟨j + 1, f3, by go_num, ⟨by have := HK2.out; omega⟩, HY, HN, HG, HB⟩
                have b2 : ((f3 j : Int) == 0) = true := by simp; omega
                cases t3 : nx i j with
                | false =>
                  rw [t3] at cn hy
                  rw [if_neg (by simp)] at hy
                  have HY := Hd.mk hy
                  clear hy t1 t2 t3
                  go_wp2_with fail
                  go_roundg k2
                  case measure => omega
                  case rel => exact ⟨j + 1, f3, by go_num, ⟨by have := HK2.out; omega⟩, HY, HN, HG, HB⟩
                | true =>
                  rw [if_pos ⟨t1, t2, t3⟩] at hy
                  rw [t3] at cn
                  have HY := Hd.mk hy
                  have HN2 := Hd.mk (HN.out.set i hlt' 1)
                  have HG2 := Hd.mk (HG.out.of_heap (w' := wr.setCell ⟨ob, i, none⟩ (.int .i64 1)) (heap_set_ne _ _ _ _ _ hgo))
                  have HB2 := Hd.mk (bel_set HB.out hbo i (.int .i64 1))
                  clear hy t1 t2 t3 HN HG HB
                  go_wp2_with fail
                  go_roundg k2
                  case measure => omega
                  case rel => exact ⟨j + 1, _, by go_num, ⟨by have := HK2.out; omega⟩, HY, HN2, HG2, HB2⟩
      | succ k1 =>
        have hi := HK.out
        have hlt : (i : Int) < m := by omega
        have hlt' : i < m := by omega
        have ci := HN.out.blk.cell i hlt'
        have fi := HN.out.blk.frozen i
        have hx := HX.out
        obtain ⟨M2, hM2, hx2⟩ := Option.bind_eq_some_iff.1 hx
        have HM2 := Hd.mk hM2
        have HX2 := Hd.mk hx2
        have HN2 := Hd.mk (HN.out.set i hlt' 2)
        have HG2 := Hd.mk (HG.out.of_heap (w' := wr.setCell ⟨ob, i, none⟩ (.int .i64 2)) (heap_set_ne _ _ _ _ _ hgo))
        have HB2 := Hd.mk (bel_set HB.out hbo i (.int .i64 2))
        have hps2 : pairsS m M2 ≤ m := pairsC_le m M2 m
        clear hi HN HG HB HX hx hx2 hM2
        go_wp2_with fail
        have HGa := Hd.mk (HG2.out.of_heap (alloc_old (wr.setCell ⟨ob, i, none⟩ (.int .i64 2)) (.cells #[.int .i64 (i : Int)] 3) _ HG2.out.lt))
        have HNa := Hd.mk (HN2.out.of_heap (alloc_old (wr.setCell ⟨ob, i, none⟩ (.int .i64 2)) (.cells #[.int .i64 (i : Int)] 3) _ HN2.out.lt))
        have HBa := Hd.mk (HB2.out.alloc HB2.out.size (.cells #[.int .i64 (i : Int)] 3))
        have HRa := Hd.mk (RdN_one (wr.setCell ⟨ob, i, none⟩ (.int .i64 2)) i)
        rw [size_set] at HRa
        generalize (wr.setCell ⟨ob, i, none⟩ (.int .i64 2)).alloc (.cells #[.int .i64 (i : Int)] 3) = wa at HGa HNa HBa HRa ⊢
        clear HN2 HG2 HB2
        refine (without_any wa b m 1 1 (some ⟨wr.heap.size, 0, none⟩) nx (fun _ => i) HGa.out HRa.out (fun _ _ => hlt') (by omega)).mono ?_
        rintro e w5 ⟨b5, rfl, g1, g2, g3⟩
        have HB5 := Hd.mk (HBa.out.trans (g3.mono HBa.out.size))
        have HG5 := Hd.mk (show GBlk w5 b5 m (woS nx i) from g1)
        have HGo5 := Hd.mk (HGa.out.of_heap (w' := w5) (g3.block _ HGa.out.lt))
        have HN5 := Hd.mk (HNa.out.of_heap (w' := w5) (g3.block _ HNa.out.lt))
        clear g1 g2 g3 HGa HNa HBa HRa
        go_wp2_with fail
        refine (most_any w5 b5 m K0 _ M2 HG5.out HM2.out).mono ?_
        rintro e w6 ⟨b6, cap6, rfl, g4, g5, g6⟩
        have HNm := Hd.mk g4
        have HGo6 := Hd.mk (HGo5.out.of_heap (w' := w6) (g6.block _ HGo5.out.lt))
        have HN6 := Hd.mk (HN5.out.of_heap (w' := w6) (g6.block _ HN5.out.lt))
        have HB6 := Hd.mk (HB5.out.trans (g6.mono HB5.out.size))
        clear g4 g5 g6 HG5 HGo5 HN5 HB5
        go_wp2_with fail
        refine (pairs_any w6 (some ⟨b6, 0, none⟩) m cap6 M2 (by omega) HNm.out.rd.w (mostS_le HM2.out)).mono ?_
        rintro e w7 ⟨rfl, rfl⟩
        by_cases t1 : pairsS m M2 = pairsS m M
        · have b1 : ((pairsS m M2 : Int) == (pairsS m M : Int)) = true := by simp [t1]
          have HX3 := Hd.mk (show partsA m nx (pairsS m M) k1 (i + 1) (upd f i 0) = some out by have := HX2.out; simp only [if_pos t1] at this; exact this)
          have ci6 := HN6.out.blk.cell i hlt'
          have fi6 := HN6.out.blk.frozen i
          have HN7 := Hd.mk ((HN6.out.set i hlt' 0).congr (g := upd f i 0) (fun j hj => by unfold upd; split <;> rfl))
          have HG7 := Hd.mk (HGo6.out.of_heap (w' := w6.setCell ⟨ob, i, none⟩ (.int .i64 0)) (heap_set_ne _ _ _ _ _ hgo))
          have HB7 := Hd.mk (bel_set HB6.out hbo i (.int .i64 0))
          clear t1 HN6 HGo6 HB6 HX2
          go_wp2_with fail
          go_roundg k1
          case measure => omega
          case rel => exact ⟨i + 1, _, by go_num, ⟨by have := HK.out; omega⟩, HX3, HN7, HG7, HB7⟩
        · have b1 : ((pairsS m M2 : Int) == (pairsS m M : Int)) = false := by simp; omega
          have HX3 := Hd.mk (show partsA m nx (pairsS m M) k1 (i + 1) (upd f i 2) = some out by have := HX2.out; simp only [if_neg t1] at this; exact this)
          clear t1 HX2
          go_wp2_with fail
          go_roundg k1
          case measure => omega
          case rel => exact ⟨i + 1, _, by go_num, ⟨by have := HK.out; omega⟩, HX3, HN6, HGo6, HB6⟩
end Go.Proofs.Ytnbdfmdjedakcaa.Pr

