import Derived.Test.YthhgdndjnflklaaG10
namespace Go.Proofs.Ythhgdndjnflklaa
open Go.RowKit
set_option linter.unusedVariables false
set_option linter.unusedSimpArgs false

/-- Whole numbers that are read. -/
def RdZ (w : World) (A : Option Addr) (zs : List Int) : Prop := ∀ j, j < zs.length → ∃ ad, A = some ad ∧ w.cell? (ad.add j) = some (.int .i64 (zs.getD j 0))
theorem RdZ.below {w w' : World} {A : Option Addr} {zs : List Int} (h : RdZ w A zs) (hb : Below w.heap.size w w') : RdZ w' A zs := by
  intro j hj
  obtain ⟨ad, e, hc⟩ := h j hj
  exact ⟨ad, e, (hb.cell (World.block_lt_of_cell? w _ hc)).trans hc⟩
/-- Does entry z at i fit? -/
def fitZ (n : Nat) (nx : Nat → Nat → Bool) (zs : List Int) (i : Nat) (z : Int) : Bool :=
  if z < 0 then false else if (n : Int) < z then false else if z.toNat < n then nx i z.toNat && (zs.getD z.toNat 0 == (i : Int)) else true
def fitB (n : Nat) (nx : Nat → Nat → Bool) (zs : List Int) (i : Nat) : Bool := fitZ n nx zs i (zs.getD i 0)
def fitL (n : Nat) (nx : Nat → Nat → Bool) (zs : List Int) : Nat → Nat → Bool
  | 0, _ => true
  | d + 1, i => if fitB n nx zs i = true then fitL n nx zs d (i + 1) else false
def fitsS (n : Nat) (nx : Nat → Nat → Bool) (zs : List Int) : Bool := decide (zs.length = n) && fitL n nx zs n 0

set_option maxHeartbeats 4000000 in
theorem fits_any (w : World) (gb n cap : Nat) (A : Option Addr) (nx : Nat → Nat → Bool) (zs : List Int) (hG : GBlk w gb n nx) (hR : RdZ w A zs) (hlen : zs.length ≤ 1000000) :
    Calls Try.prog 38 #[.pointer (some ⟨gb, 0, none⟩), .slice A zs.length cap] w fun e w' => e = .returned (.bool (fitsS n nx zs)) ∧ w = w' := by
  have hn := hG.le
  have hgn := hG.num
  have HG := Hd.mk hG
  have HR := Hd.mk hR
  clear hG hR
  obtain ⟨r, hr⟩ : ∃ r, fitsS n nx zs = r := ⟨_, rfl⟩
  rw [hr]
  unfold fitsS at hr
  by_cases hl : zs.length = n
  case neg =>
    have hb : ((zs.length : Int) != (n : Int)) = true := by simp; omega
    have hr2 : false = r := by simpa [hl] using hr
    subst hr2
    clear hr hl
    go_enter Try.func38, Try.ntmps38
    go_wp2_with fail
    go_ret
    exact ⟨rfl, rfl⟩
  have hb : ((zs.length : Int) != (n : Int)) = false := by simp [hl]
  have hr2 : fitL n nx zs n 0 = r := by simpa [hl] using hr
  have HRR := Hd.mk hr2
  have HL := Hd.mk hl
  clear hr hr2 hl
  go_enter Try.func38, Try.ntmps38
  go_wp2_with fail
  go_loopg [16] n (fun kq v16 wr => ∃ i : Nat, v16 = .int .i64 i ∧ Hd (i + kq = n) ∧ Hd (fitL n nx zs kq i = r) ∧ Hd (w = wr))
  case atStart => exact ⟨0, rfl, ⟨by omega⟩, HRR, ⟨rfl⟩⟩
  case round =>
    obtain ⟨i, rfl, HK, HX, HW⟩ := hrel
    have hw := HW.out
    subst hw
    clear HRR HW
    cases gk with
    | zero =>
      have hi := HK.out
      have hll := HL.out
      have hlt : ¬ (i : Int) < zs.length := by omega
      have hx := HX.out
      simp only [fitL] at hx
      subst hx
      clear hi HX hll
      go_wp2_with fail
      go_ret
      exact ⟨rfl, rfl⟩
    | succ k1 =>
      have hi := HK.out
      have hll := HL.out
      have hlt : (i : Int) < zs.length := by omega
      have hlt' : i < n := by omega
      have hlt3 : i < zs.length := by omega
      obtain ⟨ad, rfl, hc⟩ := HR.out i hlt3
      have hx : (if fitZ n nx zs i (zs.getD i 0) = true then fitL n nx zs k1 (i + 1) else false) = r := HX.out
      have HH := Hd.mk (show ∀ j, j < zs.length → w.cell? (ad.add j) = some (.int .i64 (zs.getD j 0)) from fun j hj => by obtain ⟨ad', e, h⟩ := HR.out j hj; injection e with e; rw [e]; exact h)
      obtain ⟨z, hz⟩ : ∃ z, z = zs.getD i 0 := ⟨_, rfl⟩
      rw [← hz] at hc hx
      clear hz
      clear hi HX hll
      by_cases t1 : z < 0
      · have hf : fitZ n nx zs i z = false := by simp [fitZ, t1]
        rw [hf, if_neg (by simp)] at hx
        subst hx
        clear hf
        go_wp2_with fail
        go_ret
        exact ⟨rfl, rfl⟩
      by_cases t2 : (n : Int) < z
      · have hf : fitZ n nx zs i z = false := by simp [fitZ, t1, t2]
        rw [hf, if_neg (by simp)] at hx
        subst hx
        clear hf
        go_wp2_with fail
        go_ret
        exact ⟨rfl, rfl⟩
      obtain ⟨j, rfl⟩ : ∃ j : Nat, z = j := ⟨z.toNat, by omega⟩
      by_cases t3 : j < n
      · have b3 : decide (j < n) = true := by simp [t3]
        have hj2 : j < zs.length := by have := HL.out; omega
        have cn := HG.out.getNx i j hlt' t3
        have cj := HH.out j hj2
        have i1 : (i : Int) < 24 := by omega
        have i2 : (j : Int) < 24 := by omega
        have i3 : (j : Int) < zs.length := by omega
        have j1 : (0 : Int) ≤ i := by omega
        have j2 : (0 : Int) ≤ j := by omega
        have hf : fitZ n nx zs i j = (nx i j && (zs.getD j 0 == (i : Int))) := by
          unfold fitZ
          rw [if_neg (by omega), if_neg (by omega), Int.toNat_natCast, if_pos t3]
        rw [hf] at hx
        clear hf
        obtain ⟨y, hy⟩ : ∃ y, y = zs.getD j 0 := ⟨_, rfl⟩
        rw [← hy] at cj hx
        clear hy
        by_cases t4 : nx i j = true
        · rw [t4] at cn
          by_cases t5 : y = i
          · rw [if_pos (by simp [t4, t5])] at hx
            have b5 : (y != (i : Int)) = false := by simp [t5]
            have HX := Hd.mk hx
            clear hx t4 t5
            go_wp2_with fail
            go_roundg k1
            case measure => omega
            case rel => exact ⟨i + 1, by go_num, ⟨by have := HK.out; omega⟩, HX, ⟨rfl⟩⟩
          · rw [if_neg (by simp [t5])] at hx
            have b5 : (y != (i : Int)) = true := by simpa using t5
            subst hx
            clear t4 t5
            go_wp2_with fail
            go_ret
            exact ⟨rfl, rfl⟩
        · have t4' : nx i j = false := by simpa using t4
          rw [t4'] at cn
          rw [if_neg (by simp [t4'])] at hx
          subst hx
          clear t4 t4'
          go_wp2_with fail
          go_ret
          exact ⟨rfl, rfl⟩
      · have b3 : decide (j < n) = false := by simp; omega
        have hf : fitZ n nx zs i j = true := by
          unfold fitZ
          rw [if_neg (by omega), if_neg (by omega), Int.toNat_natCast, if_neg t3]
        rw [hf, if_pos rfl] at hx
        have HX := Hd.mk hx
        clear hx hf
        go_wp2_with fail
        go_roundg k1
        case measure => omega
        case rel => exact ⟨i + 1, by go_num, ⟨by have := HK.out; omega⟩, HX, ⟨rfl⟩⟩
end Go.Proofs.Ythhgdndjnflklaa
