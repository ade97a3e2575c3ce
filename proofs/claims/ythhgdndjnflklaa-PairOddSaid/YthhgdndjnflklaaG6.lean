import Derived.Test.YthhgdndjnflklaaG5
namespace Go.Proofs.Ythhgdndjnflklaa
open Go.RowKit
set_option linter.unusedVariables false
set_option linter.unusedSimpArgs false

/-- A slice of numbers that the call made: a whole row. -/
def NRow (w : World) (b n cap : Nat) (f : Nat → Nat) : Prop :=
  ∃ C, w.heap[b]? = some (.cells C 3 (0, 0)) ∧ C.size = cap ∧ n ≤ cap ∧ cap ≤ maxLen ∧ ∀ j, j < n → C[j]? = some (.int .i64 (f j))
section
variable {w w' : World} {b n cap : Nat} {f g : Nat → Nat}
theorem NRow.blk (h : NRow w b n cap f) : NBlk w b n f := by
  obtain ⟨C, h1, h2, h3, _, h4⟩ := h
  exact ⟨C, h1, by omega, h4⟩
theorem NRow.of_heap (h : NRow w b n cap f) (e : w'.heap[b]? = w.heap[b]?) : NRow w' b n cap f := by
  obtain ⟨C, hC, r⟩ := h
  exact ⟨C, e.trans hC, r⟩
theorem NRow.set (h : NRow w b n cap f) (j : Nat) (hj : j < n) (x : Nat) : NRow (w.setCell ⟨b, j, none⟩ (.int .i64 x)) b n cap (upd f j x) := by
  obtain ⟨C, hC, hs, hn, hm, hf⟩ := h
  refine ⟨_, heap_set w b j _ C _ _ hC, by simpa using hs, hn, hm, fun i hi => ?_⟩
  rw [set_get C j i _ (by omega)]
  unfold upd
  split <;> simp_all
theorem NRow.congr (h : NRow w b n cap f) (e : ∀ j, j < n → f j = g j) : NRow w b n cap g := by
  obtain ⟨C, hC, h1, h2, h3, hf⟩ := h
  exact ⟨C, hC, h1, h2, h3, fun j hj => by rw [hf j hj, e j hj]⟩
theorem NRow.lt (h : NRow w b n cap f) : b < w.heap.size := h.blk.lt
end
def ilist (n : Nat) (f : Nat → Nat) : List Int := (List.range n).map fun j => (f j : Int)
theorem ilist_length (n : Nat) (f : Nat → Nat) : (ilist n f).length = n := by simp [ilist]
theorem NRow.of_own {w : World} {base n : Nat} {v : Value} {f : Nat → Nat} (hn : 0 < n) (h : w.ownsRow base 3 1 v n ((ilist n f).map fun x => Value.int .i64 x)) :
    ∃ b cap, v = .slice (some ⟨b, 0, none⟩) n cap ∧ base ≤ b ∧ NRow w b n cap f := by
  obtain ⟨h1, h2⟩ := h
  rcases h2 with ⟨_, h2⟩ | ⟨g, cap, cur, rfl, hg, hh, h3, h4, h5, h6⟩
  · omega
  · refine ⟨g, cap, rfl, hg, cur, hh, by simpa using h5, h3, h4, fun j hj => ?_⟩
    have e1 : (cur.toList.take (n * 1))[j]? = cur[j]? := by
      rw [List.getElem?_take, if_pos (by simpa using hj)]
      simp
    rw [← e1, h6]
    simp [ilist, hj]

/-- Numbers that are read. -/
def RdN (w : World) (A : Option Addr) (n : Nat) (M : Nat → Nat) : Prop := ∃ ad, A = some ad ∧ ∀ j, j < n → w.cell? (ad.add j) = some (.int .i64 (M j))
theorem RdN.below {w w' : World} {A : Option Addr} {n : Nat} {M : Nat → Nat} (h : RdN w A n M) (hb : Below w.heap.size w w') : RdN w' A n M := by
  obtain ⟨ad, e, h⟩ := h
  exact ⟨ad, e, fun j hj => (hb.cell (World.block_lt_of_cell? w _ (h j hj))).trans (h j hj)⟩
theorem NRow.rd {w : World} {b n cap : Nat} {f : Nat → Nat} (h : NRow w b n cap f) : RdN w (some ⟨b, 0, none⟩) n f :=
  ⟨_, rfl, fun j hj => by rw [Addr.add_lit, Nat.zero_add]; exact h.blk.cell j hj⟩

theorem clone_any (w : World) (A : Option Addr) (n cap : Nat) (M : Nat → Nat) (hn : 0 < n) (hn2 : n ≤ 1000) (h : RdN w A n M) :
    Calls Try.prog 41 #[.slice A n cap] w fun e w' => ∃ b cap', e = .returned (.slice (some ⟨b, 0, none⟩) n cap') ∧ (NRow w' b n cap' M ∧ w.heap.size ≤ b ∧ Below w.heap.size w w') := by
  obtain ⟨ad, rfl, hc⟩ := h
  have hnil : ∀ w : World, (binOp .eql 25 (.slice (some ad) n cap) (.slice none 0 0)).run Try.prog w = .ok (.bool false) w := fun w => Lib.run_eql_slice_nil (P := Try.prog) w 25 3 (some ad) n cap 0 0 Try.underlying25
  obtain ⟨i0, hi, hzz⟩ := Option.map_eq_some_iff.1 tinfo3
  simp only [Prod.mk.injEq] at hzz
  obtain ⟨hz0, hz1, hz2⟩ := hzz
  have hnews : ∀ j u, ((ilist n M).map fun x => Value.int .i64 x)[j]? = some u → (w.alloc (.cells #[] 3)).cell? (ad.add j) = some u := by
    intro j u hj
    have hjl : j < n := by
      have := (List.getElem?_eq_some_iff.1 hj).1
      simpa [ilist] using this
    have hcj := hc j hjl
    have hb := World.block_lt_of_cell? w _ hcj
    rw [show (w.alloc (.cells #[] 3)).cell? (ad.add j) = w.cell? (ad.add j) from by simp only [World.cell?, alloc_old w _ _ hb], hcj]
    simp [ilist, hjl] at hj
    rw [← hj]
  have HN := Hd.mk hnews
  have hone : ∀ u ∈ ((ilist n M).map fun x => Value.int .i64 x), u.oneCell' = true := by
    intro u hu
    obtain ⟨x, _, rfl⟩ := List.mem_map.1 hu
    rfl
  have HO := Hd.mk hone
  have HI := Hd.mk (And.intro hi (And.intro hz0 (And.intro hz1 hz2)))
  clear hnews hone hc hi hz0 hz1 hz2
  go_enter Try.func41, Try.ntmps41
  go_wp2_with (at_builtin; go_must (refine wpList_append_grows _ rfl (.tmp 5) (.tmp 6) 25 rfl 3 i0 (.int .i64 0) 1 8 Try.underlying25 HI.out.1 HI.out.2.1 HI.out.2.2.1 HI.out.2.2.2 rfl (by decide) (some ⟨w.heap.size, 0, none⟩) 0 0 [] rfl (by simp) rfl (by intro b _ j u hj; simp at hj) ad n cap ((ilist n M).map fun x => Value.int .i64 x) rfl (by simp [ilist]) HN.out HO.out (by omega) (by unfold maxLen; omega) (by omega) ?_))
  intro v1 w1 r1 r2
  obtain ⟨b, cap', rfl, hb, hrow⟩ := NRow.of_own hn r1
  have HR := Hd.mk hrow
  have HB := Hd.mk (show Below w.heap.size w w1 from ((Below.refl _ w).alloc (Nat.le_refl _) (.cells #[] 3)).grown r2 (by show w.heap.size ≤ (w.heap.push _).size; simp) (by simp))
  have hb2 : w.heap.size ≤ b := by omega
  clear r1 r2 hrow hnil hb
  go_wp2_with fail
  go_ret
  exact ⟨b, cap', rfl, HR.out, hb2, HB.out⟩
/-- grown's loop: the way's edges change sides. -/
def augS (n : Nat) (pa : Nat → Int) : Nat → Nat → (Nat → Nat) → Option (Nat → Nat)
  | 0, _, _ => none
  | k + 1, v, M =>
    if v < n ∧ 0 ≤ pa v ∧ (pa v).toNat < n ∧ (pa v).toNat ≠ v then
      if M (pa v).toNat = n then some (upd (upd M v (pa v).toNat) (pa v).toNat v)
      else augS n pa k (M (pa v).toNat) (upd (upd M v (pa v).toNat) (pa v).toNat v)
    else none
def grownS (n : Nat) (M : Nat → Nat) (nx : Nat → Nat → Bool) (k root : Nat) : Option (Option (Nat → Nat)) :=
  (searchS n M nx k root).bind fun r => if r.2 < 0 then some none else (augS n r.1.pa k r.2.toNat M).map some

theorem FBlk_new (w : World) (gb n : Nat) (mv : Value) (hn : n ≤ 24) (cs : Array Value) (h : cs = (.pointer (some ⟨gb, 0, none⟩) :: mv :: (List.replicate 48 (Value.int .i64 0) ++ (List.replicate 24 (.bool false) ++ [.slice none 0 0]))).toArray) :
    FBlk (w.alloc (.cells cs 75)) w.heap.size gb n mv (.slice none 0 0) (fun _ => 0) (fun _ => 0) (fun _ => false) := by
  subst h
  refine ⟨hn, _, alloc_new w _, by simp, by simp, by simp, fun i hi => ?_, fun i hi => ?_, fun i hi => ?_, by simp⟩
  · simp only [List.getElem?_toArray]
    rw [show 2 + i = i + 1 + 1 by omega, List.getElem?_cons_succ, List.getElem?_cons_succ, List.getElem?_append_left (by simp; omega)]
    exact (List.getElem?_replicate ..).trans (if_pos (by omega))
  · simp only [List.getElem?_toArray]
    rw [show 26 + i = (24 + i) + 1 + 1 by omega, List.getElem?_cons_succ, List.getElem?_cons_succ, List.getElem?_append_left (by simp; omega)]
    exact (List.getElem?_replicate ..).trans (if_pos (by omega))
  · simp only [List.getElem?_toArray]
    rw [show 50 + i = (48 + i) + 1 + 1 by omega, List.getElem?_cons_succ, List.getElem?_cons_succ, List.getElem?_append_right (by simp), List.length_replicate, List.getElem?_append_left (by simp; omega)]
    exact (List.getElem?_replicate ..).trans (if_pos (by omega))
theorem zero75 : ∀ w : World, (zeroValue 75).run Try.prog w = .ok (.agg #[.pointer none, .slice none 0 0, .int .i64 0, .int .i64 0, .int .i64 0, .int .i64 0, .int .i64 0, .int .i64 0, .int .i64 0, .int .i64 0, .int .i64 0, .int .i64 0, .int .i64 0, .int .i64 0, .int .i64 0, .int .i64 0, .int .i64 0, .int .i64 0, .int .i64 0, .int .i64 0, .int .i64 0, .int .i64 0, .int .i64 0, .int .i64 0, .int .i64 0, .int .i64 0, .int .i64 0, .int .i64 0, .int .i64 0, .int .i64 0, .int .i64 0, .int .i64 0, .int .i64 0, .int .i64 0, .int .i64 0, .int .i64 0, .int .i64 0, .int .i64 0, .int .i64 0, .int .i64 0, .int .i64 0, .int .i64 0, .int .i64 0, .int .i64 0, .int .i64 0, .int .i64 0, .int .i64 0, .int .i64 0, .int .i64 0, .int .i64 0, .bool false, .bool false, .bool false, .bool false, .bool false, .bool false, .bool false, .bool false, .bool false, .bool false, .bool false, .bool false, .bool false, .bool false, .bool false, .bool false, .bool false, .bool false, .bool false, .bool false, .bool false, .bool false, .bool false, .bool false, .slice none 0 0]) w := fun _ => by kernel_rfl

set_option maxHeartbeats 4000000 in
theorem grown_no (w : World) (gb root k n cap : Nat) (A : Option Addr) (nx : Nat → Nat → Bool) (M : Nat → Nat) (hG : GBlk w gb n nx) (hle : ∀ v, v < n → M v ≤ n) (hR : RdN w A n M) (hroot : root < n)
   (hr : grownS n M nx k root = some none) :
    Calls Try.prog 39 #[.pointer (some ⟨gb, 0, none⟩), .slice A n cap, .int .i64 root] w fun e w' => e = .returned (.tuple #[.slice none 0 0, .bool false]) ∧ Below w.heap.size w w' := by
  obtain ⟨⟨S, r⟩, hs, hr2⟩ := Option.bind_eq_some_iff.1 hr
  by_cases hlt : r < 0
  case neg =>
    simp only [if_neg hlt] at hr2
    cases h : augS n S.pa k r.toNat M <;> simp [h] at hr2
  have HS := Hd.mk hs
  have HG := Hd.mk hG
  have HR := Hd.mk hR
  have HL := Hd.mk hle
  have hn := hG.le
  clear hr hr2 hs hG hR hle
  have hz75 := zero75
  go_enter Try.func39, Try.ntmps39
  go_wp2_with fail
  refine (clone_any w A n cap M (by omega) (by omega) HR.out).mono ?_
  rintro e w1 ⟨b, cap', rfl, g1, g2, g3⟩
  have HN1 := Hd.mk g1
  have HG1 := Hd.mk (HG.out.of_heap (w' := w1) (g3.block _ HG.out.lt))
  have HB1 := Hd.mk g3
  clear g1 g3
  go_wp2_with fail
  have hfb := FBlk_new w1 gb n (.slice (some ⟨b, 0, none⟩) n cap') hn _ rfl
  have hFo : Fo _ w1.heap.size gb b n cap' nx M (fun _ => 0) (fun _ => 0) (fun _ => false) (.slice none 0 0) := ⟨hfb, HG1.out.of_heap (alloc_old w1 _ _ HG1.out.lt), HN1.out.blk.of_heap (alloc_old w1 _ _ HN1.out.lt), HL.out⟩
  refine (search_any _ w1.heap.size w1.heap.size gb b n cap' root k nx M _ _ _ S r (Nat.le_refl _) HN1.out.lt HG1.out.lt hFo HS.out).mono ?_
  clear hfb hFo
  rintro e w2 ⟨rfl, g1, g2⟩
  have HB2 := Hd.mk (HB1.out.trans (((Below.refl _ w1).alloc (Nat.le_refl _) _).trans g2 |>.mono HB1.out.size))
  clear g1 g2 hz75 HB1 HG1 HN1
  go_wp2_with fail
  go_ret2
  exact ⟨rfl, HB2.out⟩

set_option maxHeartbeats 4000000 in
theorem grown_yes (w : World) (gb root k n cap : Nat) (A : Option Addr) (nx : Nat → Nat → Bool) (M M' : Nat → Nat) (hG : GBlk w gb n nx) (hle : ∀ v, v < n → M v ≤ n) (hR : RdN w A n M) (hroot : root < n)
   (hr : grownS n M nx k root = some (some M')) :
    Calls Try.prog 39 #[.pointer (some ⟨gb, 0, none⟩), .slice A n cap, .int .i64 root] w fun e w' => ∃ b cap', e = .returned (.tuple #[.slice (some ⟨b, 0, none⟩) n cap', .bool true]) ∧
      (NRow w' b n cap' M' ∧ w.heap.size ≤ b ∧ Below w.heap.size w w') := by
  obtain ⟨⟨S, r⟩, hs, hr2⟩ := Option.bind_eq_some_iff.1 hr
  by_cases hlt : r < 0
  case pos => simp only [if_pos hlt] at hr2; exact absurd hr2 (by simp)
  simp only [if_neg hlt] at hr2
  obtain ⟨M1, haug, hM1⟩ := Option.map_eq_some_iff.1 hr2
  obtain rfl := Option.some.inj hM1
  have HA := Hd.mk haug
  have HS := Hd.mk hs
  have HG := Hd.mk hG
  have HR := Hd.mk hR
  have HL := Hd.mk hle
  have hn := hG.le
  have HZ := Hd.mk (Int.toNat_of_nonneg (Int.not_lt.1 hlt))
  clear hr hr2 hs hG hR hle haug hM1
  have hz75 := zero75
  go_enter Try.func39, Try.ntmps39
  go_wp2_with fail
  refine (clone_any w A n cap M (by omega) (by omega) HR.out).mono ?_
  rintro e w1 ⟨b, cap', rfl, g1, g2, g3⟩
  have HN1 := Hd.mk g1
  have HG1 := Hd.mk (HG.out.of_heap (w' := w1) (g3.block _ HG.out.lt))
  have HB1 := Hd.mk g3
  clear g1 g3
  go_wp2_with fail
  have hfb := FBlk_new w1 gb n (.slice (some ⟨b, 0, none⟩) n cap') hn _ rfl
  have hFo : Fo _ w1.heap.size gb b n cap' nx M (fun _ => 0) (fun _ => 0) (fun _ => false) (.slice none 0 0) := ⟨hfb, HG1.out.of_heap (alloc_old w1 _ _ HG1.out.lt), HN1.out.blk.of_heap (alloc_old w1 _ _ HN1.out.lt), HL.out⟩
  refine (search_any _ w1.heap.size w1.heap.size gb b n cap' root k nx M _ _ _ S r (Nat.le_refl _) HN1.out.lt HG1.out.lt hFo HS.out).mono ?_
  clear hfb hFo
  rintro e w2 ⟨rfl, ⟨_, _, _, qv, qb, g1, g4⟩, g5⟩
  have HF2 := Hd.mk g1
  have HN2 := Hd.mk (HN1.out.of_heap (w' := w2) ((g5.block _ HN1.out.lt).trans (alloc_old w1 _ _ HN1.out.lt)))
  have HB2 := Hd.mk (HB1.out.trans (((Below.refl _ w1).alloc (Nat.le_refl _) _).trans g5 |>.mono HB1.out.size))
  have hwb : w.heap.size ≤ w1.heap.size := HB1.out.size
  have hbf : b < w1.heap.size := HN1.out.lt
  generalize w1.heap.size = bf at HF2 hwb hbf ⊢
  clear g1 g4 g5 hz75 HB1 HG1 HN1 HG
  go_upto_region 5 with (fail)
  go_loopg [9] k (fun kq v9 wr => ∃ (z : Int) (N : Nat → Nat), v9 = .int .i64 z ∧ Hd (if z < 0 then N = M1 else augS n S.pa kq z.toNat N = some M1) ∧ Hd (Fo wr bf gb b n cap' nx N S.pa S.ba S.us qv) ∧ Hd (NRow wr b n cap' N) ∧ Hd (Below w.heap.size w wr))
  case atStart => exact ⟨r, M, rfl, ⟨by rw [if_neg (Int.not_lt.2 hlt)]; exact HA.out⟩, HF2, HN2, HB2⟩
  case round =>
    obtain ⟨z, N, rfl, HX, HF, HN, HB⟩ := hrel
    clear HA HF2 HN2 HB2
    by_cases hz : z < 0
    · have hx := HX.out
      rw [if_pos hz] at hx
      subst hx
      have hm := HF.out.f.mates
      clear HX
      go_wp2_with fail
      go_ret2
      exact ⟨b, cap', rfl, HN.out, g2, HB.out⟩
    · obtain ⟨v, rfl⟩ : ∃ v : Nat, z = v := ⟨z.toNat, (Int.toNat_of_nonneg (Int.not_lt.1 hz)).symm⟩
      have hx := HX.out
      rw [if_neg hz, Int.toNat_natCast] at hx
      clear HX hz
      cases gk with
      | zero => exact absurd hx (by simp [augS])
      | succ k1 =>
        simp only [augS] at hx
        split at hx
        case isFalse => exact absurd hx (by simp)
        rename_i hq
        obtain ⟨hv, hp0, hpn, hpv⟩ := hq
        obtain ⟨p, hp⟩ : ∃ p : Nat, S.pa v = p := ⟨(S.pa v).toNat, (Int.toNat_of_nonneg hp0).symm⟩
        have cpa := HF.out.f.getPa v hv
        rw [hp] at cpa
        rw [hp, Int.toNat_natCast] at hx hpn hpv
        have i1 : (v : Int) < n := by omega
        have i2 : (p : Int) < n := by omega
        have j1 : (0 : Int) ≤ v := by omega
        have j2 : (0 : Int) ≤ p := by omega
        have hnb : b ≠ bf := by omega
        have hpv' : ¬ p = v := hpv
        have HMp : ∃ q : Int, mateS n N p = q ∧ (if q < 0 then upd (upd N v p) p v = M1 else augS n S.pa k1 q.toNat (upd (upd N v p) p v) = some M1) := by
          refine ⟨mateS n N p, rfl, ?_⟩
          unfold mateS
          by_cases e : N p = n
          · rw [if_pos e] at hx
            simp only [if_pos e]
            exact Option.some.inj hx
          · rw [if_neg e] at hx
            simp only [if_neg e]
            rw [if_neg (by omega), Int.toNat_natCast]
            exact hx
        obtain ⟨q, hq1, hq2⟩ := HMp
        have HQ1 := Hd.mk hq1
        have HQ2 := Hd.mk hq2
        clear hx hp0 hp hq1 hq2
        go_wp2_with fail
        refine (mate_fr _ bf gb b n cap' p nx N S.pa S.ba S.us qv HF.out hpn _ HQ1.out).mono ?_
        rintro e w5 ⟨rfl, hh1, hb1⟩
        have HF5 := Hd.mk (HF.out.of_heap (w' := w5) (fun k hk => by rw [hh1]))
        have HN5 := Hd.mk (HN.out.of_heap (w' := w5) (by rw [hh1]))
        have HB5 := Hd.mk (HB.out.trans (hb1.mono HB.out.size))
        have hm := HF5.out.f.mates
        have cv := HN5.out.blk.cell v hv
        have cp := HN5.out.blk.cell p hpn
        have fv := HN5.out.blk.frozen v
        have fp := HN5.out.blk.frozen p
        clear hh1 hb1 HF HN HB cpa
        go_wp2_with fail
        go_region_held3 (fun w' => w'.cell? ⟨bf, 1, none⟩ = some (.slice (some ⟨b, 0, none⟩) n cap')) (go_keep) (fail)
        refine gen_world (fun wq => Fo wq bf gb b n cap' nx (upd (upd N v p) p v) S.pa S.ba S.us qv ∧ NRow wq b n cap' (upd (upd N v p) p v) ∧ Below w.heap.size w wq) ?_ ?_
        · have h1 := ((HN5.out.of_heap (w' := w5.drewN 1) rfl).set v hv p).set p hpn v
          have hgb : gb ≠ b := by
            obtain ⟨_, D, hD, _⟩ := HF5.out.g
            obtain ⟨C, hC, _⟩ := HN5.out
            intro e
            rw [e, hC] at hD
            simp at hD
          refine ⟨⟨HF5.out.f.of_heap ((heap_set_ne _ _ _ _ _ hnb.symm).trans (heap_set_ne _ _ _ _ _ hnb.symm)), HF5.out.g.of_heap ((heap_set_ne _ _ _ _ _ hgb).trans (heap_set_ne _ _ _ _ _ hgb)), h1.blk, fun u hu => ?_⟩, h1, bel_set (bel_set (bel_drewN HB5.out 1) g2 _ _) g2 _ _⟩
          unfold upd
          split
          · omega
          · split
            · omega
            · exact HF5.out.mle u hu
        intro wq ⟨g1, g4, g5⟩
        have HF6 := Hd.mk g1
        have HN6 := Hd.mk g4
        have HB6 := Hd.mk g5
        clear g1 g4 g5 HF5 HN5 HB5 hm cv cp fv fp
        go_wp2_with fail
        go_roundg k1
        case measure => omega
        case rel => exact ⟨q, _, rfl, HQ2, HF6, HN6, HB6⟩
end Go.Proofs.Ythhgdndjnflklaa
