import Derived.Test.YthhgdndjnflklaaG8
namespace Go.Proofs.Ythhgdndjnflklaa
open Go.RowKit
set_option linter.unusedVariables false
set_option linter.unusedSimpArgs false

theorem built66 (n : Int) : Try.prog.built 66 [(0, .int .i64 n)] = some (.int .i64 n :: List.replicate 576 (.bool false)).toArray := by kernel_rfl
theorem GBlk_new (w : World) (n : Nat) (hn : n ≤ 24) : GBlk (w.alloc (.cells ((Try.prog.built 66 [(0, .int .i64 (n : Int))]).getD #[]) 66)) w.heap.size n (fun _ _ => false) := by
  rw [built66]
  refine ⟨hn, _, alloc_new w _, by simp only [Option.getD_some, List.size_toArray, List.length_cons, List.length_replicate], by simp only [Option.getD_some, List.getElem?_toArray, List.getElem?_cons_zero], fun i j hi hj => ?_, fun v hv => ?_⟩
  · simp only [Option.getD_some, List.getElem?_toArray]
    rw [show 1 + i * 24 + j = (i * 24 + j) + 1 by omega, List.getElem?_cons_succ]
    exact (List.getElem?_replicate ..).trans (if_pos (by omega))
  · simp only [Option.getD_some, List.mem_toArray, List.mem_cons] at hv
    rcases hv with rfl | hv
    · rfl
    · rw [(List.mem_replicate.1 hv).2]; rfl

def ChkPost (n : Nat) (w : World) (r : Option (Nat → Nat → Bool)) (e : Ending) (w' : World) : Prop :=
  Below w.heap.size w w' ∧ match r with
    | none => e = .returned (.tuple #[.pointer none, .int .i64 2])
    | some nx => ∃ b, e = .returned (.tuple #[.pointer (some ⟨b, 0, none⟩), .int .i64 0]) ∧ GBlk w' b n nx ∧ w.heap.size ≤ b

set_option maxHeartbeats 4000000 in
theorem checked_any (w : World) (n : Nat) (A : Option Addr) (c : Nat) (es : List (Int × Int)) (hn : n ≤ 24) (hl : es.length ≤ 128) (hE : RdE w A es) :
    Calls Try.prog 34 #[.int .i64 n, .slice A es.length c] w (ChkPost n w (chkL n es (fun _ _ => false))) := by
  have h0 : ¬ (n : Int) < 0 := by omega
  have h1 : ¬ (24 : Int) < n := by omega
  have h2 : ¬ (128 : Int) < es.length := by omega
  have HE := Hd.mk hE
  clear hE
  obtain ⟨r, hr⟩ : ∃ r, chkL n es (fun _ _ => false) = r := ⟨_, rfl⟩
  have HR := Hd.mk hr
  rw [hr]
  clear hr
  go_enter Try.func34, Try.ntmps34
  go_upto_region 5 with (fail)
  go_wp2_with (first | (refine wpList_build rfl 66 #[(0, .tmp 18)] rfl (by kernel_rfl) ?_) | (refine wpList_box66 rfl (.tmp 19) rfl _ rfl ?_))
  have HG1 := Hd.mk (GBlk_new w n hn)
  have HB1 := Hd.mk ((Below.refl w.heap.size w).alloc (Nat.le_refl _) (.cells ((Try.prog.built 66 [(0, .int .i64 (n : Int))]).getD #[]) 66))
  generalize (Try.prog.built 66 [(0, Value.int .i64 (n : Int))]).getD #[] = C0 at HG1 HB1 ⊢
  generalize w.alloc (.cells C0 66) = w0 at HG1 HB1 ⊢
  obtain ⟨b, hbe⟩ : ∃ b, b = w.heap.size := ⟨_, rfl⟩
  rw [← hbe] at HG1 ⊢
  have hb : w.heap.size ≤ b := by omega
  clear hbe
  go_loopg [23] es.length (fun kq v23 wr => ∃ (i : Nat) (nx1 : Nat → Nat → Bool), v23 = .int .i64 i ∧ Hd (i + kq = es.length) ∧ Hd (chkL n (es.drop i) nx1 = r) ∧ Hd (GBlk wr b n nx1) ∧ Hd (Below w.heap.size w wr))
  case atStart => exact ⟨0, _, rfl, ⟨by omega⟩, HR, HG1, HB1⟩
  case round =>
    obtain ⟨i, nx1, rfl, HK, HX, HN, HB⟩ := hrel
    clear HG1 HB1 HR
    cases gk with
    | zero =>
      have hi := HK.out
      have hlt : ¬ (i : Int) < es.length := by omega
      have hx := HX.out
      rw [List.drop_eq_nil_of_le (by omega)] at hx
      simp only [chkL] at hx
      subst hx
      clear hi HX
      go_wp2_with fail
      go_ret2
      exact ⟨HB.out, b, rfl, HN.out, hb⟩
    | succ k1 =>
      have hi := HK.out
      have hlt : (i : Int) < es.length := by omega
      have hlt' : i < es.length := by omega
      obtain ⟨ad, rfl, e1, e2⟩ := HE.out.below HB.out i hlt'
      have hx := HX.out
      rw [List.drop_eq_getElem_cons hlt'] at hx
      have hge : es.getD i (0, 0) = es[i] := by simp [List.getElem?_eq_getElem hlt']
      rw [hge] at e1 e2
      generalize es[i] = pr at e1 e2 hx
      obtain ⟨x, y⟩ := pr
      simp only [chkL] at hx
      clear hi hge HX
      by_cases t1 : x < 0
      · rw [if_pos (.inl t1)] at hx
        subst hx
        go_wp2_with fail
        go_ret2
        exact ⟨HB.out.alloc HB.out.size _, rfl⟩
      by_cases t2 : x ≥ n
      · rw [if_pos (.inr (.inl t2))] at hx
        subst hx
        go_wp2_with fail
        go_ret2
        exact ⟨HB.out.alloc HB.out.size _, rfl⟩
      by_cases t3 : y < 0
      · rw [if_pos (.inr (.inr (.inl t3)))] at hx
        subst hx
        go_wp2_with fail
        go_ret2
        exact ⟨HB.out.alloc HB.out.size _, rfl⟩
      by_cases t4 : y ≥ n
      · rw [if_pos (.inr (.inr (.inr (.inl t4))))] at hx
        subst hx
        go_wp2_with fail
        go_ret2
        exact ⟨HB.out.alloc HB.out.size _, rfl⟩
      by_cases t5 : x = y
      · rw [if_pos (.inr (.inr (.inr (.inr t5))))] at hx
        subst t5
        subst hx
        go_wp2_with fail
        go_ret2
        exact ⟨HB.out.alloc HB.out.size _, rfl⟩
      rw [if_neg (by omega)] at hx
      obtain ⟨a, rfl⟩ : ∃ a : Nat, x = a := ⟨x.toNat, by omega⟩
      obtain ⟨d, rfl⟩ : ∃ d : Nat, y = d := ⟨y.toNat, by omega⟩
      simp only [Int.toNat_natCast] at hx
      have ha : a < n := by omega
      have hd : d < n := by omega
      have b5 : ((a : Int) == (d : Int)) = false := by simp; omega
      have HX := Hd.mk hx
      have hne5 : a ≠ d := by omega
      clear hx t5
      go_upto_region 11 with (fail)
      have hbl := HN.out.lt
      have HNa := Hd.mk (HN.out.of_heap (w' := wr.alloc (.cells #[.int .i64 a, .int .i64 d] 41)) (alloc_old wr _ _ HN.out.lt))
      have HBa := Hd.mk (HB.out.alloc HB.out.size (.cells #[.int .i64 (a : Int), .int .i64 (d : Int)] 41))
      have ce0 : (wr.alloc (.cells #[.int .i64 a, .int .i64 d] 41)).cell? ⟨wr.heap.size, 0, none⟩ = some (.int .i64 a) := by rw [cell_of _ _ _ _ _ _ (alloc_new wr _)]; rfl
      have ce1 : (wr.alloc (.cells #[.int .i64 a, .int .i64 d] 41)).cell? ⟨wr.heap.size, 1, none⟩ = some (.int .i64 d) := by rw [cell_of _ _ _ _ _ _ (alloc_new wr _)]; rfl
      have hebb : wr.heap.size ≠ b := by omega
      generalize wr.alloc (.cells #[.int .i64 (a : Int), .int .i64 (d : Int)] 41) = wa at HNa HBa ce0 ce1 ⊢
      generalize wr.heap.size = eb at ce0 ce1 hebb ⊢
      have c1 := HNa.out.getNx a d ha hd
      have c2 := HNa.out.getNx d a hd ha
      have f1 := HNa.out.frozen (1 + a * 24 + d)
      have f2 := HNa.out.frozen (1 + d * 24 + a)
      have i1 : (a : Int) < 24 := by omega
      have i2 : (d : Int) < 24 := by omega
      have j1 : (0 : Int) ≤ a := by omega
      have j2 : (0 : Int) ≤ d := by omega
      have hne : 1 + a * 24 + d ≠ 1 + d * 24 + a := by omega
      have HNs := Hd.mk (((HNa.out.of_heap (w' := wa.drewN 1) rfl).set a d ha hd true).set d a hd ha true)
      have HNt := Hd.mk (HNs.out.congr (ny := putE nx1 a d) (fun x y hx hy => by
        unfold putE
        by_cases h1 : x = d ∧ y = a
        · rw [if_pos h1, if_pos (by omega)]
        · rw [if_neg h1]
          by_cases h2 : x = a ∧ y = d
          · rw [if_pos h2, if_pos (by omega)]
          · rw [if_neg h2, if_neg (by omega)]))
      have HBt := Hd.mk (bel_set (bel_set (bel_drewN HBa.out 1) hb (1 + a * 24 + d) (.bool true)) hb (1 + d * 24 + a) (.bool true))
      have hbe2 : b ≠ eb := hebb.symm
      clear HN HB HNa HBa HNs e1 e2 hbl
      go_region_held3 (fun w' => w'.cell? ⟨eb, 0, none⟩ = some (.int .i64 a) ∧ w'.cell? ⟨eb, 1, none⟩ = some (.int .i64 d)) ((refine ⟨?_, ?_⟩ <;> (first | (go_simp; done) | (simp [*]; done)))) (fail)
      go_wp2_with fail
      go_roundg k1
      case measure => omega
      case rel => exact ⟨i + 1, _, by go_num, ⟨by have := HK.out; omega⟩, HX, HNt, HBt⟩
end Go.Proofs.Ythhgdndjnflklaa
