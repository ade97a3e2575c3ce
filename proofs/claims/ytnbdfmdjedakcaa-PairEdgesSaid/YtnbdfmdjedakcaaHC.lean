/- No conditions. -/
import Derived.Test.YtnbdfmdjedakcaaHB
import Derived.Deep.RegionHeld3
import Derived.Laws.MakeOwn
namespace Go.Proofs.Ytnbdfmdjedakcaa
open Go.RowKit Go.Proofs.YtnbdfmdjedakcaaW.PrintWords Go.Proofs.YtnbdfmdjedakcaaW.PrintLast Go.Proofs.YtnbdfmdjedakcaaW.PrintMore PP
attribute [local go_sem high] eqA36
set_option linter.unusedVariables false
set_option linter.unusedSimpArgs false
def OBlk (w : World) (ob : Nat) (A : Option Addr) (n c nb lb : Nat) : Prop :=
 w.heap[ob]? = some (.cells #[.slice A n c, .slice (some ⟨nb, 0, none⟩) n n, .slice (some ⟨lb, 0, none⟩) n n] 81 (0, 0))
theorem OBlk.cells {w : World} {ob : Nat} {A : Option Addr} {n c nb lb : Nat} (h : OBlk w ob A n c nb lb) : w.cell? ⟨ob, 0, none⟩ = some (.slice A n c) ∧ w.cell? ⟨ob, 1, none⟩ = some (.slice (some ⟨nb, 0, none⟩) n n) ∧ w.cell? ⟨ob, 2, none⟩ = some (.slice (some ⟨lb, 0, none⟩) n n) :=
 ⟨(blk_cell h 0).trans rfl, (blk_cell h 1).trans rfl, (blk_cell h 2).trans rfl⟩
theorem bel_drewN' (w : World) (n : Nat) : Below w.heap.size w (w.drewN n) := ⟨rfl, rfl, rfl, Nat.le_refl _, fun _ _ => rfl⟩
theorem bel_drew' (w : World) : Below w.heap.size w w.drew := bel_drewN' w 1
theorem cell_bel {w w1 : World} {a : Addr} {v : Value} (hb : Below w.heap.size w w1) (h : w.cell? a = some v) : w1.cell? a = some v := by
 have hl : a.block < w.heap.size := by
  rcases Nat.lt_or_ge a.block w.heap.size with h1 | h1
  ·exact h1
  ·simp [World.cell?, Array.getElem?_eq_none h1] at h
 rw [World.cell?_of_block (hb.block _ hl)]
 exact h
def befG (l : List S36) (i j : Nat) : Bool := if eqG l[i]! l[j]! = true then decide (i < j) else belowG l[i]! l[j]!
set_option maxRecDepth 100000 in
set_option maxHeartbeats 4000000 in
theorem before_any (w : World) (ob : Nat) (A : Option Addr) (c nb lb : Nat) (l : List S36) (hO : OBlk w ob A l.length c nb lb) (hC : Kd.C k36 w A l.length l) (i j : Nat) (hi : i < l.length) (hj : j < l.length) :
  Calls Try.prog 78 #[.pointer (some ⟨ob, 0, none⟩), .int .i64 i, .int .i64 j] w fun e w' => e = .returned (.bool (befG l i j)) ∧ Below w.heap.size w w' := by
 have hu36 := Try.underlying36
 have c0 := hO.cells.1
 obtain ⟨ad, rfl, x0, x1, x2⟩ := at_T36 hC (i : Int) (by omega) (by omega)
 obtain ⟨ad', e, y0, y1, y2⟩ := at_T36 hC (j : Int) (by omega) (by omega)
 obtain rfl := Option.some.inj e
 rw [getB, Int.toNat_natCast] at x0 x1 x2 y0 y1 y2
 have hli : (i : Int) < (l.length : Int) := by omega
 have hlj : (j : Int) < (l.length : Int) := by omega
 have hB := fun W => rule26 W l[i]! l[j]!
 unfold gv at hB
 obtain ⟨r, hr⟩ : ∃ r, befG l i j = r := ⟨_, rfl⟩
 rw [hr]
 unfold befG at hr
 generalize l[i]! = x at x0 x1 x2 hB hr
 generalize l[j]! = y at y0 y1 y2 hB hr
 clear hC hO e hi hj
 cases hq : eqG x y with
 | true =>
  rw [if_pos hq] at hr
  subst hr
  have hq' := hq
  unfold eqG at hq'
  clear hq hB
  go_enter Try.func78, Try.ntmps78
  go_wp2_with fail
  go_region_held3 (fun w' => w'.cell? ⟨ob, 0, none⟩ = some (.slice (some ad) l.length c) ∧ w'.cell? (ad.add (i * 3)) = some (.int .i64 x.f0) ∧ w'.cell? ⟨(ad.add (i * 3)).block, (ad.add (i * 3)).off + 1, none⟩ = some (.int .i64 x.f1) ∧ w'.cell? ⟨(ad.add (i * 3)).block, (ad.add (i * 3)).off + 2, none⟩ = some (.int .i64 x.f2) ∧ w'.cell? (ad.add (j * 3)) = some (.int .i64 y.f0) ∧ w'.cell? ⟨(ad.add (j * 3)).block, (ad.add (j * 3)).off + 1, none⟩ = some (.int .i64 y.f1) ∧ w'.cell? ⟨(ad.add (j * 3)).block, (ad.add (j * 3)).off + 2, none⟩ = some (.int .i64 y.f2)) (exact ⟨c0, x0, x1, x2, y0, y1, y2⟩) (fail)
  go_wp2
  go_ret
  exact ⟨rfl, bel_drew' w⟩
 | false =>
  rw [if_neg (by rw [hq]; decide)] at hr
  subst hr
  have hq' := hq
  unfold eqG at hq'
  generalize belowG x y = r at hB ⊢
  clear hq
  go_enter Try.func78, Try.ntmps78
  go_wp2_with fail
  go_region_held3 (fun w' => w'.cell? ⟨ob, 0, none⟩ = some (.slice (some ad) l.length c) ∧ w'.cell? (ad.add (i * 3)) = some (.int .i64 x.f0) ∧ w'.cell? ⟨(ad.add (i * 3)).block, (ad.add (i * 3)).off + 1, none⟩ = some (.int .i64 x.f1) ∧ w'.cell? ⟨(ad.add (i * 3)).block, (ad.add (i * 3)).off + 2, none⟩ = some (.int .i64 x.f2) ∧ w'.cell? (ad.add (j * 3)) = some (.int .i64 y.f0) ∧ w'.cell? ⟨(ad.add (j * 3)).block, (ad.add (j * 3)).off + 1, none⟩ = some (.int .i64 y.f1) ∧ w'.cell? ⟨(ad.add (j * 3)).block, (ad.add (j * 3)).off + 2, none⟩ = some (.int .i64 y.f2)) (exact ⟨c0, x0, x1, x2, y0, y1, y2⟩) (fail)
  go_wp2_with fail
  go_region_held3 (fun w' => w'.cell? ⟨ob, 0, none⟩ = some (.slice (some ad) l.length c) ∧ w'.cell? (ad.add (i * 3)) = some (.int .i64 x.f0) ∧ w'.cell? ⟨(ad.add (i * 3)).block, (ad.add (i * 3)).off + 1, none⟩ = some (.int .i64 x.f1) ∧ w'.cell? ⟨(ad.add (i * 3)).block, (ad.add (i * 3)).off + 2, none⟩ = some (.int .i64 x.f2) ∧ w'.cell? (ad.add (j * 3)) = some (.int .i64 y.f0) ∧ w'.cell? ⟨(ad.add (j * 3)).block, (ad.add (j * 3)).off + 1, none⟩ = some (.int .i64 y.f1) ∧ w'.cell? ⟨(ad.add (j * 3)).block, (ad.add (j * 3)).off + 2, none⟩ = some (.int .i64 y.f2)) (first | exact ⟨c0, x0, x1, x2, y0, y1, y2⟩ | exact ⟨cell_bel hb c0, cell_bel hb x0, cell_bel hb x1, cell_bel hb x2, cell_bel hb y0, cell_bel hb y1, cell_bel hb y2⟩) ((go_at_call 26; refine (hB _).mono ?_; rintro e w1 ⟨rfl, hb⟩))
  go_wp2
  go_ret
  exact ⟨rfl, (bel_drewN' w 2).trans (hb.mono (by simp))⟩
end Go.Proofs.Ytnbdfmdjedakcaa
namespace Go.Proofs.Ytnbdfmdjedakcaa
open Go.RowKit Go.Proofs.YtnbdfmdjedakcaaW.PrintWords Go.Proofs.YtnbdfmdjedakcaaW.PrintLast Go.Proofs.YtnbdfmdjedakcaaW.PrintMore PP
set_option linter.unusedVariables false
set_option linter.unusedSimpArgs false
def upd {α : Type} (f : Nat → α) (i : Nat) (x : α) : Nat → α := fun j => if j = i then x else f j
theorem upd_same {α : Type} (f : Nat → α) (i : Nat) (x : α) : upd f i x i = x := by simp [upd]
theorem upd_ne {α : Type} (f : Nat → α) {i j : Nat} (x : α) (h : j ≠ i) : upd f i x j = f j := by simp [upd, h]
theorem set_get (C : Array Value) (k j : Nat) (v : Value) (h : k < C.size) : (C.setIfInBounds k v)[j]? = if j = k then some v else C[j]? := by
 rw [Array.getElem?_setIfInBounds]
 by_cases e : k = j
 ·subst e; simp [h]
 ·rw [if_neg e, if_neg (fun z => e z.symm)]
theorem heap_set (w : World) (b o : Nat) (v : Value) (C : Array Value) (t : TypeId) (fr : Nat × Nat) (h : w.heap[b]? = some (.cells C t fr)) :
  (w.setCell ⟨b, o, none⟩ v).heap[b]? = some (.cells (C.setIfInBounds o v) t fr) := by
 have hb : b < w.heap.size := (Array.getElem?_eq_some_iff.1 h).1
 simp only [World.setCell]
 rw [Array.getElem?_modify]
 simp [h]
theorem heap_set_ne (w : World) (b o k : Nat) (v : Value) (h : k ≠ b) : (w.setCell ⟨b, o, none⟩ v).heap[k]? = w.heap[k]? := by
 simp only [World.setCell]
 rw [Array.getElem?_modify]
 simp [Ne.symm h]
theorem size_set (w : World) (b o : Nat) (v : Value) : (w.setCell ⟨b, o, none⟩ v).heap.size = w.heap.size := by simp [World.setCell]
theorem cell_of (w : World) (b o : Nat) (C : Array Value) (t : TypeId) (fr : Nat × Nat) (h : w.heap[b]? = some (.cells C t fr)) : w.cell? ⟨b, o, none⟩ = C[o]? := by
 simp [World.cell?, h]
theorem frozen_of (w : World) (b o : Nat) (C : Array Value) (t : TypeId) (h : w.heap[b]? = some (.cells C t (0, 0))) : w.frozen? ⟨b, o, none⟩ = false := by
 simp [World.frozen?, h]
theorem bel_set {B : Nat} {a w : World} (h : Below B a w) {b : Nat} (hb : B ≤ b) (o : Nat) (u : Value) : Below B a (w.setCell ⟨b, o, none⟩ u) := Below.setCell h (p := ⟨b, o, none⟩) hb u
theorem bel_drewN {B : Nat} {a w : World} (h : Below B a w) (m : Nat) : Below B a (w.drewN m) := ⟨h.os, h.tape, h.output, h.size, h.block⟩
theorem bel_then {B : Nat} {a w w' : World} (h : Below B a w) (k : Below w.heap.size w w') (hB : B ≤ w.heap.size) : Below B a w' := h.trans (k.mono hB)
theorem gen_world {Q : Exit → Act → World → Prop} {e : Exit} {a : Act} {W : World} (I : World → Prop) (h : I W) (k : ∀ w, I w → Q e a w) : Q e a W := k W h
def VBlk {α : Type} (enc : α → Value) (t : TypeId) (w : World) (b n : Nat) (f : Nat → α) : Prop :=
 ∃ C, w.heap[b]? = some (.cells C t (0, 0)) ∧ C.size = n ∧ ∀ j, j < n → C[j]? = some (enc (f j))
section
variable {α : Type} {enc : α → Value} {t : TypeId} {w w' : World} {b n : Nat} {f : Nat → α}
theorem VBlk.cell (h : VBlk enc t w b n f) (j : Nat) (hj : j < n) : w.cell? ⟨b, j, none⟩ = some (enc (f j)) := by
 obtain ⟨C, hC, _, hf⟩ := h
 rw [cell_of w b j C _ _ hC, hf j hj]
theorem VBlk.frozen (h : VBlk enc t w b n f) (j : Nat) : w.frozen? ⟨b, j, none⟩ = false := by
 obtain ⟨C, hC, _⟩ := h
 exact frozen_of w b j C _ hC
theorem VBlk.set (h : VBlk enc t w b n f) (j : Nat) (hj : j < n) (x : α) : VBlk enc t (w.setCell ⟨b, j, none⟩ (enc x)) b n (upd f j x) := by
 obtain ⟨C, hC, hs, hf⟩ := h
 refine ⟨_, heap_set w b j _ C _ _ hC, by simpa using hs, fun i hi => ?_⟩
 rw [set_get C j i _ (by omega)]
 unfold upd
 split <;> simp_all
theorem VBlk.of_heap (h : VBlk enc t w b n f) (e : w'.heap[b]? = w.heap[b]?) : VBlk enc t w' b n f := by
 obtain ⟨C, hC, r⟩ := h
 exact ⟨C, e.trans hC, r⟩
theorem VBlk.other (h : VBlk enc t w b n f) {g : Nat} (hne : b ≠ g) (o : Nat) (v : Value) : VBlk enc t (w.setCell ⟨g, o, none⟩ v) b n f := h.of_heap (heap_set_ne _ _ _ _ _ hne)
theorem VBlk.lt (h : VBlk enc t w b n f) : b < w.heap.size := by
 obtain ⟨C, hC, r⟩ := h
 exact (Array.getElem?_eq_some_iff.1 hC).1
end
def encI (x : Int) : Value := .int .i64 x
def encB (x : Bool) : Value := .bool x
theorem OBlk.of_heap {w w' : World} {ob : Nat} {A : Option Addr} {n c nb lb : Nat} (h : OBlk w ob A n c nb lb) (e : w'.heap[ob]? = w.heap[ob]?) : OBlk w' ob A n c nb lb := e.trans h
theorem OBlk.lt {w : World} {ob : Nat} {A : Option Addr} {n c nb lb : Nat} (h : OBlk w ob A n c nb lb) : ob < w.heap.size := (Array.getElem?_eq_some_iff.1 h).1
structure LkW (w0 : World) (ob : Nat) (A : Option Addr) (n c nb lb tb : Nat) (w : World) (N L : Nat → Int) (T : Nat → Bool) : Prop where
 B : Below w0.heap.size w0 w
 O : OBlk w ob A n c nb lb
 N : VBlk encI 3 w nb n N
 L : VBlk encI 3 w lb n L
 T : VBlk encB 4 w tb n T
 o0 : w0.heap.size ≤ ob
 n0 : w0.heap.size ≤ nb
 l0 : w0.heap.size ≤ lb
 t0 : w0.heap.size ≤ tb
 on : ob ≠ nb
 ol : ob ≠ lb
 ot : ob ≠ tb
 nl : nb ≠ lb
 nt : nb ≠ tb
 lt : lb ≠ tb
section
variable {w0 w w' : World} {ob n c nb lb tb : Nat} {A : Option Addr} {N L : Nat → Int} {T : Nat → Bool}
theorem LkW.heap (h : LkW w0 ob A n c nb lb tb w N L T) (e : w'.heap = w.heap) (h1 : w'.os = w.os) (h2 : w'.tape = w.tape) (h3 : w'.output = w.output) : LkW w0 ob A n c nb lb tb w' N L T :=
 ⟨⟨h1.trans h.B.os, h2.trans h.B.tape, h3.trans h.B.output, by rw [e]; exact h.B.size, fun k hk => by rw [e]; exact h.B.block k hk⟩, h.O.of_heap (by rw [e]), h.N.of_heap (by rw [e]), h.L.of_heap (by rw [e]), h.T.of_heap (by rw [e]), h.o0, h.n0, h.l0, h.t0, h.on, h.ol, h.ot, h.nl, h.nt, h.lt⟩
theorem LkW.drewN (h : LkW w0 ob A n c nb lb tb w N L T) (k : Nat) : LkW w0 ob A n c nb lb tb (w.drewN k) N L T := h.heap rfl rfl rfl rfl
theorem LkW.below (h : LkW w0 ob A n c nb lb tb w N L T) (hb : Below w.heap.size w w') : LkW w0 ob A n c nb lb tb w' N L T :=
 ⟨h.B.trans (hb.mono h.B.size), h.O.of_heap (hb.block _ h.O.lt), h.N.of_heap (hb.block _ h.N.lt), h.L.of_heap (hb.block _ h.L.lt), h.T.of_heap (hb.block _ h.T.lt), h.o0, h.n0, h.l0, h.t0, h.on, h.ol, h.ot, h.nl, h.nt, h.lt⟩
theorem LkW.setN (h : LkW w0 ob A n c nb lb tb w N L T) (j : Nat) (hj : j < n) (x : Int) : LkW w0 ob A n c nb lb tb (w.setCell ⟨nb, j, none⟩ (.int .i64 x)) (upd N j x) L T :=
 ⟨bel_set h.B h.n0 _ _, h.O.of_heap (heap_set_ne _ _ _ _ _ h.on), h.N.set j hj x, h.L.other h.nl.symm _ _, h.T.other h.nt.symm _ _, h.o0, h.n0, h.l0, h.t0, h.on, h.ol, h.ot, h.nl, h.nt, h.lt⟩
theorem LkW.setL (h : LkW w0 ob A n c nb lb tb w N L T) (j : Nat) (hj : j < n) (x : Int) : LkW w0 ob A n c nb lb tb (w.setCell ⟨lb, j, none⟩ (.int .i64 x)) N (upd L j x) T :=
 ⟨bel_set h.B h.l0 _ _, h.O.of_heap (heap_set_ne _ _ _ _ _ h.ol), h.N.other h.nl _ _, h.L.set j hj x, h.T.other h.lt.symm _ _, h.o0, h.n0, h.l0, h.t0, h.on, h.ol, h.ot, h.nl, h.nt, h.lt⟩
theorem LkW.setT (h : LkW w0 ob A n c nb lb tb w N L T) (j : Nat) (hj : j < n) (x : Bool) : LkW w0 ob A n c nb lb tb (w.setCell ⟨tb, j, none⟩ (.bool x)) N L (upd T j x) :=
 ⟨bel_set h.B h.t0 _ _, h.O.of_heap (heap_set_ne _ _ _ _ _ h.ot), h.N.other h.nt _ _, h.L.other h.lt _ _, h.T.set j hj x, h.o0, h.n0, h.l0, h.t0, h.on, h.ol, h.ot, h.nl, h.nt, h.lt⟩
end
def lk (l : List S36) : Nat → Nat → Nat → (Nat → Int) → (Nat → Int) → (Nat → Bool) → Option (Bool × (Nat → Int) × (Nat → Int) × (Nat → Bool))
 | 0, _, _, _, _, _ => none
 | f + 1, i, j, N, L, T =>
  if j < l.length then
   if befG l i j = false then lk l f i (j + 1) N L T
   else if T j = true then lk l f i (j + 1) N L T
   else if L j < 0 then some (true, upd N i j, upd L j i, upd T j true)
   else if (L j).toNat < l.length then
    match lk l f (L j).toNat 0 N L (upd T j true) with
    | none => none
    | some (true, N', L', T') => some (true, upd N' i j, upd L' j i, T')
    | some (false, N', L', T') => lk l f i (j + 1) N' L' T'
   else none
  else some (false, N, L, T)
set_option maxRecDepth 100000 in
set_option maxHeartbeats 8000000 in
theorem link_any (w0 : World) (ob : Nat) (A : Option Addr) (c nb lb tb tc : Nat) (l : List S36) (hC : ∀ W, Below w0.heap.size w0 W → Kd.C k36 W A l.length l) (hbig : l.length ≤ 9223372036854775807) : ∀ f i (hi : i < l.length) N L T r N' L' T' w,
  lk l f i 0 N L T = some (r, N', L', T') → LkW w0 ob A l.length c nb lb tb w N L T →
  Calls Try.prog 109 #[.pointer (some ⟨ob, 0, none⟩), .int .i64 i, .slice (some ⟨tb, 0, none⟩) l.length tc] w fun e w' => e = .returned (.bool r) ∧ LkW w0 ob A l.length c nb lb tb w' N' L' T' := by
 intro f
 induction f using Nat.strongRecOn with
 | _ f IH =>
 intro i hi N L T r N' L' T' w h hW
 have HI := Hd.mk IH
 have HC := Hd.mk hC
 have HW := Hd.mk hW
 have HL := Hd.mk h
 have hii : (i : Int) < (l.length : Int) := by omega
 clear IH hC hW h
 have k0 := HW.out.O.cells.1
 go_enter Try.func109, Try.ntmps109
 go_wp2
 go_loopg [13] f (fun gg v13 wr => ∃ (jj : Nat) (N L : Nat → Int) (T : Nat → Bool), v13 = .int .i64 jj ∧ jj ≤ l.length ∧ Hd (gg ≤ f ∧ lk l gg i jj N L T = some (r, N', L', T')) ∧ Hd (LkW w0 ob A l.length c nb lb tb wr N L T))
 case atStart => exact ⟨0, N, L, T, rfl, Nat.zero_le _, ⟨Nat.le_refl _, HL.out⟩, HW⟩
 case round =>
  clear HW HL k0
  obtain ⟨jj, N, L, T, rfl, hjj, HL, HW⟩ := hrel
  cases gk with
  | zero => exact absurd HL.out.2 (by simp [lk])
  | succ k1 =>
   have hl := HL.out.2
   have HK := Hd.mk HL.out.1
   rw [lk] at hl
   clear HL
   by_cases hlt : jj < l.length
   ·have hltz : (jj : Int) < (l.length : Int) := by omega
    rw [if_pos hlt] at hl
    have hbe := fun W (hw : LkW w0 ob A l.length c nb lb tb W N L T) => before_any W ob A c nb lb l hw.O (HC.out W hw.B) i jj hi hlt
    have HBE := Hd.mk hbe
    clear hbe
    have t1 := HW.out.T.cell jj hlt
    have f1 := HW.out.T.frozen jj
    cases hb : befG l i jj with
    | false =>
     rw [if_pos hb] at hl
     have HL := Hd.mk hl
     clear hl
     rw [hb] at HBE
     clear hb
     go_wp2_with (go_at_call 78; refine (HBE.out _ HW.out).mono ?_; rintro e w1 ⟨rfl, hb1⟩; have HW1 := Hd.mk (HW.out.below hb1); clear hb1)
     go_roundg k1
     case measure => omega
     case rel => exact ⟨jj + 1, N, L, T, by go_num, by omega, ⟨by have := HK.out; omega, HL.out⟩, HW1⟩
    | true =>
     rw [if_neg (by rw [hb]; decide)] at hl
     rw [hb] at HBE
     clear hb
     cases ht : T jj with
     | true =>
      rw [if_pos ht] at hl
      have HT := Hd.mk ht
      have HL := Hd.mk hl
      clear hl ht t1 f1
      go_wp2_with (go_at_call 78; refine (HBE.out _ HW.out).mono ?_; rintro e w1 ⟨rfl, hb1⟩; have HW1 := Hd.mk (HW.out.below hb1); clear hb1; have t1 := HW1.out.T.cell jj hlt; rw [HT.out] at t1; unfold encB at t1)
      go_roundg k1
      case measure => omega
      case rel => exact ⟨jj + 1, N, L, T, by go_num, by omega, ⟨by have := HK.out; omega, HL.out⟩, HW1⟩
     | false =>
      rw [if_neg (by rw [ht]; decide)] at hl
      have HT := Hd.mk ht
      clear ht t1 f1
      by_cases hlj : L jj < 0
      ·rw [if_pos hlj] at hl
       have HL := Hd.mk hl
       have hd := decide_eq_true hlj
       clear hl hlj
       go_wp2_with fail
       refine (HBE.out _ HW.out).mono ?_
       rintro e w1 ⟨rfl, hb1⟩
       have HW1 := Hd.mk (HW.out.below hb1)
       clear hb1
       have t1 := HW1.out.T.cell jj hlt
       rw [HT.out] at t1
       unfold encB at t1
       have f1 := HW1.out.T.frozen jj
       obtain ⟨_, c1, c2⟩ := HW1.out.O.cells
       have l1 := HW1.out.L.cell jj hlt
       unfold encI at l1
       have n1 := HW1.out.ot
       have n2 := HW1.out.lt
       go_wp2_with fail
       have hW2 := HW1.out.setT jj hlt true
       generalize hq : w1.setCell ⟨tb, jj, none⟩ (.bool true) = w2 at hW2 ⊢
       have HW2 := Hd.mk hW2
       clear hq hW2 t1 f1 c1 c2 l1 n1 n2
       obtain ⟨_, c1, c2⟩ := HW2.out.O.cells
       have n1 := HW2.out.on
       have n2 := HW2.out.ol
       have fn := HW2.out.N.frozen i
       have fl := HW2.out.L.frozen jj
       have gn := HW2.out.N.cell i hi
       have gl := HW2.out.L.cell jj hlt
       have n3 := HW2.out.nl
       go_region_held3 (fun w' => w'.cell? ⟨ob, 1, none⟩ = some (.slice (some ⟨nb, 0, none⟩) l.length l.length) ∧ w'.cell? ⟨ob, 2, none⟩ = some (.slice (some ⟨lb, 0, none⟩) l.length l.length)) ((refine ⟨?_, ?_⟩ <;> (first | assumption | (go_simp; done) | (simp [*]; done)))) (fail)
       refine gen_world (fun wq => LkW w0 ob A l.length c nb lb tb wq (upd N i jj) (upd L jj i) (upd T jj true)) ?_ ?_
       ·first | exact ((HW2.out.drewN _).setN i hi _).setL jj hlt _ | exact ((HW2.out.drewN _).setL jj hlt _).setN i hi _
       intro w3 hW3
       have HW3 := Hd.mk hW3
       clear hW3 c1 c2 n1 n2 fn fl gn gl n3
       go_wp2
       go_ret
       have h9 := Option.some.inj HL.out
       simp only [Prod.mk.injEq] at h9
       obtain ⟨rfl, rfl, rfl, rfl⟩ := h9
       exact ⟨rfl, HW3.out⟩
      ·rw [if_neg hlj] at hl
       by_cases hln : (L jj).toNat < l.length
       ·rw [if_pos hln] at hl
        have hd := decide_eq_false hlj
        have HLN := Hd.mk hln
        have hz : L jj = ((L jj).toNat : Int) := by omega
        obtain ⟨p, hp⟩ : ∃ p, (L jj).toNat = p := ⟨_, rfl⟩
        rw [hp] at hz hl HLN
        have HZ := Hd.mk hz
        clear hlj hln hz hp
        cases hrec : lk l k1 p 0 N L (upd T jj true) with
        | none => rw [hrec] at hl; exact absurd hl (by simp)
        | some q =>
         obtain ⟨r3, N3, L3, T3⟩ := q
         rw [hrec] at hl
         have hcall := fun W hw => HI.out k1 (by have := HK.out; omega) p HLN.out N L (upd T jj true) r3 N3 L3 T3 W hrec hw
         have HCALL := Hd.mk hcall
         clear hrec hcall
         cases r3 with
         | true =>
          have HL := Hd.mk hl
          clear hl
          go_wp2_with fail
          refine (HBE.out _ HW.out).mono ?_
          rintro e w1 ⟨rfl, hb1⟩
          have HW1 := Hd.mk (HW.out.below hb1)
          clear hb1
          have t1 := HW1.out.T.cell jj hlt
          rw [HT.out] at t1
          unfold encB at t1
          have f1 := HW1.out.T.frozen jj
          obtain ⟨_, c1, c2⟩ := HW1.out.O.cells
          have l1 := HW1.out.L.cell jj hlt
          unfold encI at l1
          have n1 := HW1.out.ot
          have n2 := HW1.out.lt
          rw [HZ.out] at l1 hd
          go_wp2_with fail
          refine (HCALL.out _ (HW1.out.setT jj hlt true)).mono ?_
          rintro e w2 ⟨rfl, hW2⟩
          have HW2 := Hd.mk hW2
          clear hW2 t1 f1 c1 c2 l1 n1 n2
          go_wp2_with fail
          obtain ⟨_, c1, c2⟩ := HW2.out.O.cells
          have n1 := HW2.out.on
          have n2 := HW2.out.ol
          have fn := HW2.out.N.frozen i
          have fl := HW2.out.L.frozen jj
          have gn := HW2.out.N.cell i hi
          have gl := HW2.out.L.cell jj hlt
          have n3 := HW2.out.nl
          go_region_held3 (fun w' => w'.cell? ⟨ob, 1, none⟩ = some (.slice (some ⟨nb, 0, none⟩) l.length l.length) ∧ w'.cell? ⟨ob, 2, none⟩ = some (.slice (some ⟨lb, 0, none⟩) l.length l.length)) ((refine ⟨?_, ?_⟩ <;> (first | assumption | (go_simp; done) | (simp [*]; done)))) (fail)
          refine gen_world (fun wq => LkW w0 ob A l.length c nb lb tb wq (upd N3 i jj) (upd L3 jj i) T3) ?_ ?_
          ·first | exact ((HW2.out.drewN _).setN i hi _).setL jj hlt _ | exact ((HW2.out.drewN _).setL jj hlt _).setN i hi _
          intro w3 hW3
          have HW3 := Hd.mk hW3
          clear hW3 c1 c2 n1 n2 fn fl gn gl n3
          go_wp2
          go_ret
          have h9 := Option.some.inj HL.out
          simp only [Prod.mk.injEq] at h9
          obtain ⟨rfl, rfl, rfl, rfl⟩ := h9
          exact ⟨rfl, HW3.out⟩
         | false =>
          have HL := Hd.mk hl
          clear hl
          go_wp2_with fail
          refine (HBE.out _ HW.out).mono ?_
          rintro e w1 ⟨rfl, hb1⟩
          have HW1 := Hd.mk (HW.out.below hb1)
          clear hb1
          have t1 := HW1.out.T.cell jj hlt
          rw [HT.out] at t1
          unfold encB at t1
          have f1 := HW1.out.T.frozen jj
          obtain ⟨_, c1, c2⟩ := HW1.out.O.cells
          have l1 := HW1.out.L.cell jj hlt
          unfold encI at l1
          have n1 := HW1.out.ot
          have n2 := HW1.out.lt
          rw [HZ.out] at l1 hd
          go_wp2_with fail
          refine (HCALL.out _ (HW1.out.setT jj hlt true)).mono ?_
          rintro e w2 ⟨rfl, hW2⟩
          have HW2 := Hd.mk hW2
          clear hW2 t1 f1 c1 c2 l1 n1 n2
          go_wp2_with fail
          go_roundg k1
          case measure => omega
          case rel => exact ⟨jj + 1, N3, L3, T3, by go_num, by omega, ⟨by have := HK.out; omega, HL.out⟩, HW2⟩
       ·rw [if_neg hln] at hl
        exact absurd hl (by simp)
   ·have hltz : ¬ (jj : Int) < (l.length : Int) := by omega
    rw [if_neg hlt] at hl
    have HL := Hd.mk hl
    clear hl hlt
    go_wp2
    go_ret
    have h9 := Option.some.inj HL.out
    simp only [Prod.mk.injEq] at h9
    obtain ⟨rfl, rfl, rfl, rfl⟩ := h9
    exact ⟨rfl, HW.out⟩
end Go.Proofs.Ytnbdfmdjedakcaa
namespace Go.Proofs.Ytnbdfmdjedakcaa
open Go.RowKit Go.Proofs.YtnbdfmdjedakcaaW.PrintWords Go.Proofs.YtnbdfmdjedakcaaW.PrintLast Go.Proofs.YtnbdfmdjedakcaaW.PrintMore PP
set_option linter.unusedVariables false
set_option linter.unusedSimpArgs false
theorem mkI (n : Nat) (hn : n < 1000000000000) (W : World) : (Instr.makeSlice 28 (.int .i64 n) (.int .i64 n)).run Try.prog W = .ok (.slice (some ⟨W.heap.size, 0, none⟩) n n) (W.alloc (.cells (madeCells (Value.int .i64 0).cells (n * 1)) 3)) := by
 obtain ⟨i, hi, hz, hs, hb⟩ := info_parts info3
 have h := run_make (P := Try.prog) W 28 3 i (.int .i64 0) Try.underlying28 hi hz .i64 .i64 (n : Int) (n : Int) (by omega) (Int.le_refl _) (by rw [hb]; omega) (by omega)
 rw [hs, Int.toNat_natCast] at h
 exact h
theorem mkB (n : Nat) (hn : n < 1000000000000) (W : World) : (Instr.makeSlice 53 (.int .i64 n) (.int .i64 n)).run Try.prog W = .ok (.slice (some ⟨W.heap.size, 0, none⟩) n n) (W.alloc (.cells (madeCells (Value.bool false).cells (n * 1)) 4)) := by
 obtain ⟨i, hi, hz, hs, hb⟩ := info_parts info4
 have h := run_make (P := Try.prog) W 53 4 i (.bool false) Try.underlying53 hi hz .i64 .i64 (n : Int) (n : Int) (by omega) (Int.le_refl _) (by rw [hb]; omega) (by omega)
 rw [hs, Int.toNat_natCast] at h
 exact h
def lkd (l : List S36) (F : Nat) : Nat → Option ((Nat → Int) × (Nat → Int))
 | 0 => some (fun _ => -1, fun _ => -1)
 | k + 1 => match lkd l F k with
  | none => none
  | some (N, L) => match lk l F k 0 N L (fun _ => false) with
   | none => none
   | some (_, N', L', _) => some (N', L')
theorem VBlk.congr {α : Type} {enc : α → Value} {t : TypeId} {w : World} {b n : Nat} {f g : Nat → α} (h : VBlk enc t w b n f) (e : ∀ j, j < n → f j = g j) : VBlk enc t w b n g := by
 obtain ⟨C, hC, hn, hf⟩ := h
 exact ⟨C, hC, hn, fun j hj => by rw [hf j hj, e j hj]⟩
theorem made_get (z : Value) (n j : Nat) (hj : j < n) : (madeCells #[z] n)[j]? = some z := by
 simp [madeCells, hj, Nat.mod_one]
theorem VBlk.made {α : Type} {enc : α → Value} {t : TypeId} {w : World} {b n : Nat} {z : α} (h : w.heap[b]? = some (.cells (madeCells #[enc z] n) t (0, 0))) : VBlk enc t w b n (fun _ => z) :=
 ⟨_, h, by simp [madeCells], fun j hj => made_get _ _ _ hj⟩
structure LkO (w0 : World) (ob : Nat) (A : Option Addr) (n c nb lb : Nat) (w : World) (N L : Nat → Int) : Prop where
 B : Below w0.heap.size w0 w
 O : OBlk w ob A n c nb lb
 N : VBlk encI 3 w nb n N
 L : VBlk encI 3 w lb n L
 o0 : w0.heap.size ≤ ob
 n0 : w0.heap.size ≤ nb
 l0 : w0.heap.size ≤ lb
 on : ob ≠ nb
 ol : ob ≠ lb
 nl : nb ≠ lb
section
variable {w0 w w' : World} {ob n c nb lb tb : Nat} {A : Option Addr} {N L : Nat → Int} {T : Nat → Bool}
theorem LkW.toO (h : LkW w0 ob A n c nb lb tb w N L T) : LkO w0 ob A n c nb lb w N L := ⟨h.B, h.O, h.N, h.L, h.o0, h.n0, h.l0, h.on, h.ol, h.nl⟩
theorem LkO.below (h : LkO w0 ob A n c nb lb w N L) (hb : Below w.heap.size w w') : LkO w0 ob A n c nb lb w' N L :=
 ⟨h.B.trans (hb.mono h.B.size), h.O.of_heap (hb.block _ h.O.lt), h.N.of_heap (hb.block _ h.N.lt), h.L.of_heap (hb.block _ h.L.lt), h.o0, h.n0, h.l0, h.on, h.ol, h.nl⟩
theorem LkO.drewN (h : LkO w0 ob A n c nb lb w N L) (k : Nat) : LkO w0 ob A n c nb lb (w.drewN k) N L := h.below (bel_drewN' w k)
theorem LkO.setN (h : LkO w0 ob A n c nb lb w N L) (j : Nat) (hj : j < n) (x : Int) : LkO w0 ob A n c nb lb (w.setCell ⟨nb, j, none⟩ (.int .i64 x)) (upd N j x) L :=
 ⟨bel_set h.B h.n0 _ _, h.O.of_heap (heap_set_ne _ _ _ _ _ h.on), h.N.set j hj x, h.L.other h.nl.symm _ _, h.o0, h.n0, h.l0, h.on, h.ol, h.nl⟩
theorem LkO.setL (h : LkO w0 ob A n c nb lb w N L) (j : Nat) (hj : j < n) (x : Int) : LkO w0 ob A n c nb lb (w.setCell ⟨lb, j, none⟩ (.int .i64 x)) N (upd L j x) :=
 ⟨bel_set h.B h.l0 _ _, h.O.of_heap (heap_set_ne _ _ _ _ _ h.ol), h.N.other h.nl _ _, h.L.set j hj x, h.o0, h.n0, h.l0, h.on, h.ol, h.nl⟩
theorem LkO.withT (h : LkO w0 ob A n c nb lb w N L) : LkW w0 ob A n c nb lb w.heap.size (w.alloc (.cells (madeCells #[.bool false] n) 4)) N L (fun _ => false) := by
 have h2 := h.below ((Below.refl _ w).alloc (Nat.le_refl _) (.cells (madeCells #[.bool false] n) 4))
 have a1 := h.O.lt
 have a2 := h.N.lt
 have a3 := h.L.lt
 exact ⟨h2.B, h2.O, h2.N, h2.L, VBlk.made (enc := encB) (z := false) (blk_new w _), h.o0, h.n0, h.l0, h.B.size, h.on, h.ol, by omega, h.nl, by omega, by omega⟩
end
theorem lkd_some {l : List S36} {F : Nat} : ∀ {n : Nat}, (∃ p, lkd l F n = some p) → ∀ k, k ≤ n → ∃ p, lkd l F k = some p := by
 intro n h k hk
 induction n with
 | zero =>
  obtain rfl : k = 0 := by omega
  exact h
 | succ n ih =>
  by_cases e : k = n + 1
  ·rw [e]; exact h
  ·refine ih ?_ (by omega)
   obtain ⟨p, hp⟩ := h
   rw [lkd] at hp
   cases hq : lkd l F n with
   | none => rw [hq] at hp; exact absurd hp (by simp)
   | some q => exact ⟨q, rfl⟩
set_option maxRecDepth 100000 in
set_option maxHeartbeats 8000000 in
theorem linked_any (w : World) (A : Option Addr) (c : Nat) (l : List S36) (hC : Kd.C k36 w A l.length l) (hl : l.length < 1000000000000) (F : Nat) (N L : Nat → Int) (h : lkd l F l.length = some (N, L)) :
  Calls Try.prog 77 #[.slice A l.length c] w fun e w' => ∃ ob nb lb, e = .returned (.pointer (some ⟨ob, 0, none⟩)) ∧ LkO w ob A l.length c nb lb w' N L := by
 have m1 := mkI l.length hl
 have m2 := mkB l.length hl
 have HC := Hd.mk (fun W (hb : Below w.heap.size w W) => Kd.C_below hC hb)
 have HH := Hd.mk h
 clear hC h
 go_enter Try.func77, Try.ntmps77
 go_wp2_with fail
 go_region_held3 (fun _ => True) (trivial) (fail)
 ·refine gen_world (fun wq => LkO w (w.heap.size + 1 + 1) A l.length c w.heap.size (w.heap.size + 1) wq (fun _ => 0) (fun _ => 0)) ?_ ?_
  ·have e1 : ∀ (a b d : Obj), (((w.alloc a).alloc b).alloc d).heap[w.heap.size]? = some a := fun a b d => by
    show (((w.heap.push a).push b).push d)[w.heap.size]? = _
    rw [Array.getElem?_push, if_neg (by simp; omega), Array.getElem?_push, if_neg (by simp), Array.getElem?_push, if_pos rfl]
   have e2 : ∀ (a b d : Obj), (((w.alloc a).alloc b).alloc d).heap[w.heap.size + 1]? = some b := fun a b d => by
    show (((w.heap.push a).push b).push d)[w.heap.size + 1]? = _
    rw [Array.getElem?_push, if_neg (by simp), Array.getElem?_push, if_pos (by simp)]
   have e3 : ∀ (a b d : Obj), (((w.alloc a).alloc b).alloc d).heap[w.heap.size + 1 + 1]? = some d := fun a b d => by
    show (((w.heap.push a).push b).push d)[w.heap.size + 1 + 1]? = _
    rw [Array.getElem?_push, if_pos (by simp)]
   exact ⟨bel_drewN ((((Below.refl _ w).alloc (Nat.le_refl _) _).alloc (by simp) _).alloc (by simp; omega) _) 1, e3 _ _ _, VBlk.made (enc := encI) (z := 0) (e1 _ _ _), VBlk.made (enc := encI) (z := 0) (e2 _ _ _), by omega, by omega, by omega, by omega, by omega, by omega⟩
  intro w1 hW1
  have HW1 := Hd.mk hW1
  clear hW1
  go_wp2_with fail
  go_loopg [17] l.length (fun gg v17 wr => ∃ (k : Nat) (N L : Nat → Int), v17 = .int .i64 k ∧ k ≤ l.length ∧ l.length - k ≤ gg ∧ Hd (∀ j, j < k → N j = -1 ∧ L j = -1) ∧ Hd (LkO w (w.heap.size + 1 + 1) A l.length c w.heap.size (w.heap.size + 1) wr N L))
  case atStart => exact ⟨0, _, _, rfl, Nat.zero_le _, by omega, ⟨fun j hj => absurd hj (Nat.not_lt_zero _)⟩, HW1⟩
  case round =>
   clear HW1
   obtain ⟨k, N1, L1, rfl, hk, hg, HZ, HW⟩ := hrel
   by_cases hlt : k < l.length
   ·have hltz : (k : Int) < (l.length : Int) := by omega
    obtain ⟨_, c1, c2⟩ := HW.out.O.cells
    have n1 := HW.out.on
    have n2 := HW.out.ol
    have n3 := HW.out.nl
    have fn := HW.out.N.frozen k
    have fl := HW.out.L.frozen k
    have gn := HW.out.N.cell k hlt
    have gl := HW.out.L.cell k hlt
    go_wp2_with fail
    go_region_held3 (fun w' => w'.cell? ⟨(w.heap.size + 1 + 1), 1, none⟩ = some (.slice (some ⟨w.heap.size, 0, none⟩) l.length l.length) ∧ w'.cell? ⟨(w.heap.size + 1 + 1), 2, none⟩ = some (.slice (some ⟨(w.heap.size + 1), 0, none⟩) l.length l.length)) ((refine ⟨?_, ?_⟩ <;> (first | assumption | (go_simp; done) | (simp [*]; done)))) (fail)
    refine gen_world (fun wq => LkO w (w.heap.size + 1 + 1) A l.length c w.heap.size (w.heap.size + 1) wq (upd N1 k (-1)) (upd L1 k (-1))) ?_ ?_
    ·first | exact ((HW.out.drewN _).setN k hlt _).setL k hlt _ | exact ((HW.out.drewN _).setL k hlt _).setN k hlt _
    intro w3 hW3
    have HW3 := Hd.mk hW3
    clear hW3 c1 c2 n1 n2 n3 fn fl gn gl
    go_wp2_with fail
    go_roundg (l.length - (k + 1))
    case measure => omega
    case rel =>
     refine ⟨k + 1, _, _, by go_num, by omega, by omega, ⟨fun j hj => ?_⟩, HW3⟩
     by_cases e : j = k
     ·subst e; rw [upd_same, upd_same]; exact ⟨rfl, rfl⟩
     ·rw [upd_ne _ _ e, upd_ne _ _ e]; exact HZ.out j (by omega)
   ·have hltz : ¬ (k : Int) < (l.length : Int) := by omega
    obtain rfl : k = l.length := by omega
    have HW2 := Hd.mk (show LkO w (w.heap.size + 1 + 1) A l.length c w.heap.size (w.heap.size + 1) wr (fun _ => -1) (fun _ => -1) from ⟨HW.out.B, HW.out.O, HW.out.N.congr (fun j hj => (HZ.out j hj).1), HW.out.L.congr (fun j hj => (HZ.out j hj).2), HW.out.o0, HW.out.n0, HW.out.l0, HW.out.on, HW.out.ol, HW.out.nl⟩)
    clear HW HZ
    go_wp2_with fail
    go_loopg [35] l.length (fun gg v35 wr => ∃ (k : Nat) (N L : Nat → Int), v35 = .int .i64 k ∧ k ≤ l.length ∧ l.length - k ≤ gg ∧ Hd (lkd l F k = some (N, L)) ∧ Hd (LkO w (w.heap.size + 1 + 1) A l.length c w.heap.size (w.heap.size + 1) wr N L))
    case atStart => exact ⟨0, _, _, rfl, Nat.zero_le _, by omega, ⟨rfl⟩, HW2⟩
    case round =>
     clear HW2
     obtain ⟨k, N1, L1, rfl, hk, hg, HD, HW⟩ := hrel
     by_cases hlt : k < l.length
     ·have hltz : (k : Int) < (l.length : Int) := by omega
      obtain ⟨⟨N2, L2⟩, hp⟩ := lkd_some ⟨_, HH.out⟩ (k + 1) (by omega)
      have hp' := hp
      rw [lkd, HD.out] at hp'
      simp only at hp'
      cases hq : lk l F k 0 N1 L1 (fun _ => false) with
      | none => rw [hq] at hp'; exact absurd hp' (by simp)
      | some q =>
       obtain ⟨r, N3, L3, T3⟩ := q
       rw [hq] at hp'
       have h9 := Option.some.inj hp'
       simp only [Prod.mk.injEq] at h9
       obtain ⟨rfl, rfl⟩ := h9
       have HP := Hd.mk hp
       have HQ := Hd.mk hq
       clear hp hq hp'
       go_wp2_with fail
       refine (link_any w (w.heap.size + 1 + 1) A c w.heap.size (w.heap.size + 1) wr.heap.size l.length l HC.out (by omega) F k hlt N1 L1 _ r N3 L3 T3 _ HQ.out HW.out.withT).mono ?_
       rintro e w4 ⟨rfl, hW4⟩
       have HW4 := Hd.mk hW4.toO
       clear hW4
       go_wp2_with fail
       go_roundg (l.length - (k + 1))
       case measure => omega
       case rel => exact ⟨k + 1, N3, L3, by go_num, by omega, by omega, HP, HW4⟩
     ·have hltz : ¬ (k : Int) < (l.length : Int) := by omega
      obtain rfl : k = l.length := by omega
      go_wp2_with fail
      go_ret
      have h9 := Option.some.inj (HD.out.symm.trans HH.out)
      simp only [Prod.mk.injEq] at h9
      obtain ⟨rfl, rfl⟩ := h9
      first
       | exact ⟨_, _, _, rfl, HW.out⟩
       | exact ⟨_, rfl, _, _, HW.out⟩
 ·refine gen_world (fun wq => LkO w (w.heap.size + 1 + 1) A l.length c (w.heap.size + 1) w.heap.size wq (fun _ => 0) (fun _ => 0)) ?_ ?_
  ·have e1 : ∀ (a b d : Obj), (((w.alloc a).alloc b).alloc d).heap[w.heap.size]? = some a := fun a b d => by
    show (((w.heap.push a).push b).push d)[w.heap.size]? = _
    rw [Array.getElem?_push, if_neg (by simp; omega), Array.getElem?_push, if_neg (by simp), Array.getElem?_push, if_pos rfl]
   have e2 : ∀ (a b d : Obj), (((w.alloc a).alloc b).alloc d).heap[w.heap.size + 1]? = some b := fun a b d => by
    show (((w.heap.push a).push b).push d)[w.heap.size + 1]? = _
    rw [Array.getElem?_push, if_neg (by simp), Array.getElem?_push, if_pos (by simp)]
   have e3 : ∀ (a b d : Obj), (((w.alloc a).alloc b).alloc d).heap[w.heap.size + 1 + 1]? = some d := fun a b d => by
    show (((w.heap.push a).push b).push d)[w.heap.size + 1 + 1]? = _
    rw [Array.getElem?_push, if_pos (by simp)]
   exact ⟨bel_drewN ((((Below.refl _ w).alloc (Nat.le_refl _) _).alloc (by simp) _).alloc (by simp; omega) _) 1, e3 _ _ _, VBlk.made (enc := encI) (z := 0) (e2 _ _ _), VBlk.made (enc := encI) (z := 0) (e1 _ _ _), by omega, by omega, by omega, by omega, by omega, by omega⟩
  intro w1 hW1
  have HW1 := Hd.mk hW1
  clear hW1
  go_wp2_with fail
  go_loopg [17] l.length (fun gg v17 wr => ∃ (k : Nat) (N L : Nat → Int), v17 = .int .i64 k ∧ k ≤ l.length ∧ l.length - k ≤ gg ∧ Hd (∀ j, j < k → N j = -1 ∧ L j = -1) ∧ Hd (LkO w (w.heap.size + 1 + 1) A l.length c (w.heap.size + 1) w.heap.size wr N L))
  case atStart => exact ⟨0, _, _, rfl, Nat.zero_le _, by omega, ⟨fun j hj => absurd hj (Nat.not_lt_zero _)⟩, HW1⟩
  case round =>
   clear HW1
   obtain ⟨k, N1, L1, rfl, hk, hg, HZ, HW⟩ := hrel
   by_cases hlt : k < l.length
   ·have hltz : (k : Int) < (l.length : Int) := by omega
    obtain ⟨_, c1, c2⟩ := HW.out.O.cells
    have n1 := HW.out.on
    have n2 := HW.out.ol
    have n3 := HW.out.nl
    have fn := HW.out.N.frozen k
    have fl := HW.out.L.frozen k
    have gn := HW.out.N.cell k hlt
    have gl := HW.out.L.cell k hlt
    go_wp2_with fail
    go_region_held3 (fun w' => w'.cell? ⟨(w.heap.size + 1 + 1), 1, none⟩ = some (.slice (some ⟨(w.heap.size + 1), 0, none⟩) l.length l.length) ∧ w'.cell? ⟨(w.heap.size + 1 + 1), 2, none⟩ = some (.slice (some ⟨w.heap.size, 0, none⟩) l.length l.length)) ((refine ⟨?_, ?_⟩ <;> (first | assumption | (go_simp; done) | (simp [*]; done)))) (fail)
    refine gen_world (fun wq => LkO w (w.heap.size + 1 + 1) A l.length c (w.heap.size + 1) w.heap.size wq (upd N1 k (-1)) (upd L1 k (-1))) ?_ ?_
    ·first | exact ((HW.out.drewN _).setN k hlt _).setL k hlt _ | exact ((HW.out.drewN _).setL k hlt _).setN k hlt _
    intro w3 hW3
    have HW3 := Hd.mk hW3
    clear hW3 c1 c2 n1 n2 n3 fn fl gn gl
    go_wp2_with fail
    go_roundg (l.length - (k + 1))
    case measure => omega
    case rel =>
     refine ⟨k + 1, _, _, by go_num, by omega, by omega, ⟨fun j hj => ?_⟩, HW3⟩
     by_cases e : j = k
     ·subst e; rw [upd_same, upd_same]; exact ⟨rfl, rfl⟩
     ·rw [upd_ne _ _ e, upd_ne _ _ e]; exact HZ.out j (by omega)
   ·have hltz : ¬ (k : Int) < (l.length : Int) := by omega
    obtain rfl : k = l.length := by omega
    have HW2 := Hd.mk (show LkO w (w.heap.size + 1 + 1) A l.length c (w.heap.size + 1) w.heap.size wr (fun _ => -1) (fun _ => -1) from ⟨HW.out.B, HW.out.O, HW.out.N.congr (fun j hj => (HZ.out j hj).1), HW.out.L.congr (fun j hj => (HZ.out j hj).2), HW.out.o0, HW.out.n0, HW.out.l0, HW.out.on, HW.out.ol, HW.out.nl⟩)
    clear HW HZ
    go_wp2_with fail
    go_loopg [35] l.length (fun gg v35 wr => ∃ (k : Nat) (N L : Nat → Int), v35 = .int .i64 k ∧ k ≤ l.length ∧ l.length - k ≤ gg ∧ Hd (lkd l F k = some (N, L)) ∧ Hd (LkO w (w.heap.size + 1 + 1) A l.length c (w.heap.size + 1) w.heap.size wr N L))
    case atStart => exact ⟨0, _, _, rfl, Nat.zero_le _, by omega, ⟨rfl⟩, HW2⟩
    case round =>
     clear HW2
     obtain ⟨k, N1, L1, rfl, hk, hg, HD, HW⟩ := hrel
     by_cases hlt : k < l.length
     ·have hltz : (k : Int) < (l.length : Int) := by omega
      obtain ⟨⟨N2, L2⟩, hp⟩ := lkd_some ⟨_, HH.out⟩ (k + 1) (by omega)
      have hp' := hp
      rw [lkd, HD.out] at hp'
      simp only at hp'
      cases hq : lk l F k 0 N1 L1 (fun _ => false) with
      | none => rw [hq] at hp'; exact absurd hp' (by simp)
      | some q =>
       obtain ⟨r, N3, L3, T3⟩ := q
       rw [hq] at hp'
       have h9 := Option.some.inj hp'
       simp only [Prod.mk.injEq] at h9
       obtain ⟨rfl, rfl⟩ := h9
       have HP := Hd.mk hp
       have HQ := Hd.mk hq
       clear hp hq hp'
       go_wp2_with fail
       refine (link_any w (w.heap.size + 1 + 1) A c (w.heap.size + 1) w.heap.size wr.heap.size l.length l HC.out (by omega) F k hlt N1 L1 _ r N3 L3 T3 _ HQ.out HW.out.withT).mono ?_
       rintro e w4 ⟨rfl, hW4⟩
       have HW4 := Hd.mk hW4.toO
       clear hW4
       go_wp2_with fail
       go_roundg (l.length - (k + 1))
       case measure => omega
       case rel => exact ⟨k + 1, N3, L3, by go_num, by omega, by omega, HP, HW4⟩
     ·have hltz : ¬ (k : Int) < (l.length : Int) := by omega
      obtain rfl : k = l.length := by omega
      go_wp2_with fail
      go_ret
      have h9 := Option.some.inj (HD.out.symm.trans HH.out)
      simp only [Prod.mk.injEq] at h9
      obtain ⟨rfl, rfl⟩ := h9
      first
       | exact ⟨_, _, _, rfl, HW.out⟩
       | exact ⟨_, rfl, _, _, HW.out⟩
end Go.Proofs.Ytnbdfmdjedakcaa
namespace Go.Proofs.Ytnbdfmdjedakcaa
open Go.RowKit Go.Proofs.YtnbdfmdjedakcaaW.PrintWords Go.Proofs.YtnbdfmdjedakcaaW.PrintLast Go.Proofs.YtnbdfmdjedakcaaW.PrintMore PP
set_option linter.unusedVariables false
set_option linter.unusedSimpArgs false
theorem at_I {w : World} {A : Option Addr} {n : Nat} {xs : List Int} (h : Kd.C (Kd.int .i64) w A n xs) (j : Nat) (hj : j < n) : ∃ ad, A = some ad ∧ w.cell? (ad.add j) = some (.int .i64 (xs.getD j 0)) := by
 obtain ⟨ad, c, e, hl, hK, hc⟩ := Kd.C_get h (0 : Int) (j : Int) (by omega) (by omega)
 refine ⟨ad, e, ?_⟩
 have h1 : c = [.int .i64 (xs.getD (j : Int).toNat 0)] := hK
 have h2 := hc 0 (.int .i64 (xs.getD (j : Int).toNat 0)) (by rw [h1]; rfl)
 have h3 : (j : Int).toNat * (Kd.int .i64).sz + 0 = j := by
  show (j : Int).toNat * 1 + 0 = j
  omega
 rw [h3] at h2
 simpa using h2
def okW (ob nb lb db mb : Nat) : Nat → Prop := fun k => (k ≠ ob ∧ k ≠ nb ∧ k ≠ lb) ∧ k ≠ db ∧ k ≠ mb
structure WdB (w0 : World) (ob : Nat) (A : Option Addr) (n c nb lb db mb : Nat) (w : World) (N L : Nat → Int) (D M : Nat → Bool) : Prop where
 O : LkO w0 ob A n c nb lb w N L
 D : VBlk encB 4 w db n D
 M : VBlk encB 4 w mb n M
 d0 : w0.heap.size ≤ db
 m0 : w0.heap.size ≤ mb
 od : ob ≠ db
 nd : nb ≠ db
 ld : lb ≠ db
 om : ob ≠ mb
 nm : nb ≠ mb
 lm : lb ≠ mb
 dm : db ≠ mb
section
variable {w0 w w' : World} {ob n c nb lb db mb : Nat} {A : Option Addr} {N L : Nat → Int} {D M : Nat → Bool}
theorem LkO.other (h : LkO w0 ob A n c nb lb w N L) {g : Nat} (hg : w0.heap.size ≤ g) (h1 : ob ≠ g) (h2 : nb ≠ g) (h3 : lb ≠ g) (o : Nat) (v : Value) : LkO w0 ob A n c nb lb (w.setCell ⟨g, o, none⟩ v) N L :=
 ⟨bel_set h.B hg _ _, h.O.of_heap (heap_set_ne _ _ _ _ _ h1), h.N.other h2 _ _, h.L.other h3 _ _, h.o0, h.n0, h.l0, h.on, h.ol, h.nl⟩
theorem WdB.below (h : WdB w0 ob A n c nb lb db mb w N L D M) (hb : Below w.heap.size w w') : WdB w0 ob A n c nb lb db mb w' N L D M :=
 ⟨h.O.below hb, h.D.of_heap (hb.block _ h.D.lt), h.M.of_heap (hb.block _ h.M.lt), h.d0, h.m0, h.od, h.nd, h.ld, h.om, h.nm, h.lm, h.dm⟩
theorem WdB.setD (h : WdB w0 ob A n c nb lb db mb w N L D M) (j : Nat) (hj : j < n) (x : Bool) : WdB w0 ob A n c nb lb db mb (w.setCell ⟨db, j, none⟩ (.bool x)) N L (upd D j x) M :=
 ⟨h.O.other h.d0 h.od h.nd h.ld _ _, h.D.set j hj x, h.M.other h.dm.symm _ _, h.d0, h.m0, h.od, h.nd, h.ld, h.om, h.nm, h.lm, h.dm⟩
theorem WdB.setM (h : WdB w0 ob A n c nb lb db mb w N L D M) (j : Nat) (hj : j < n) (x : Bool) : WdB w0 ob A n c nb lb db mb (w.setCell ⟨mb, j, none⟩ (.bool x)) N L D (upd M j x) :=
 ⟨h.O.other h.m0 h.om h.nm h.lm _ _, h.D.other h.dm _ _, h.M.set j hj x, h.d0, h.m0, h.od, h.nd, h.ld, h.om, h.nm, h.lm, h.dm⟩
theorem WdB.grown (h : WdB w0 ob A n c nb lb db mb w N L D M) {v : Value} (hv : ∀ k, v.ownBlock = some k → okW ob nb lb db mb k) (hb : Below w0.heap.size w0 w') (hg : w.grownBy w' v.ownBlock) : WdB w0 ob A n c nb lb db mb w' N L D M := by
 have q : ∀ k, k < w.heap.size → ¬ okW ob nb lb db mb k → w'.heap[k]? = w.heap[k]? := fun k hk hn => hg.block k hk (fun e => hn (hv k e.symm))
 exact ⟨⟨hb, h.O.O.of_heap (q _ h.O.O.lt (fun z => z.1.1 rfl)), h.O.N.of_heap (q _ h.O.N.lt (fun z => z.1.2.1 rfl)), h.O.L.of_heap (q _ h.O.L.lt (fun z => z.1.2.2 rfl)), h.O.o0, h.O.n0, h.O.l0, h.O.on, h.O.ol, h.O.nl⟩, h.D.of_heap (q _ h.D.lt (fun z => z.2.1 rfl)), h.M.of_heap (q _ h.M.lt (fun z => z.2.2 rfl)), h.d0, h.m0, h.od, h.nd, h.ld, h.om, h.nm, h.lm, h.dm⟩
theorem WdB.fresh (h : WdB w0 ob A n c nb lb db mb w N L D M) (k : Nat) (hk : w.heap.size ≤ k) : okW ob nb lb db mb k := by
 have a1 := h.O.O.lt
 have a2 := h.O.N.lt
 have a3 := h.O.L.lt
 have a4 := h.D.lt
 have a5 := h.M.lt
 exact ⟨⟨by omega, by omega, by omega⟩, by omega, by omega⟩
theorem LkO.with2 (h : LkO w0 ob A n c nb lb w N L) : WdB w0 ob A n c nb lb w.heap.size (w.heap.size + 1) (((w.alloc (.cells (madeCells #[.bool false] n) 4)).alloc (.cells (madeCells #[.bool false] n) 4)).drew) N L (fun _ => false) (fun _ => false) ∧ WdB w0 ob A n c nb lb (w.heap.size + 1) w.heap.size (((w.alloc (.cells (madeCells #[.bool false] n) 4)).alloc (.cells (madeCells #[.bool false] n) 4)).drew) N L (fun _ => false) (fun _ => false) := by
 have h2 := h.below (w' := (((w.alloc (.cells (madeCells #[.bool false] n) 4)).alloc (.cells (madeCells #[.bool false] n) 4)).drew)) (bel_drewN (((Below.refl _ w).alloc (Nat.le_refl _) _).alloc (by simp) _) 1)
 have a1 := h.O.lt
 have a2 := h.N.lt
 have a3 := h.L.lt
 have a4 := h.B.size
 have e1 : ∀ (a b : Obj), ((w.alloc a).alloc b).heap[w.heap.size]? = some a := fun a b => by
  show ((w.heap.push a).push b)[w.heap.size]? = _
  rw [Array.getElem?_push, if_neg (by simp), Array.getElem?_push, if_pos rfl]
 have e2 : ∀ (a b : Obj), ((w.alloc a).alloc b).heap[w.heap.size + 1]? = some b := fun a b => by
  show ((w.heap.push a).push b)[w.heap.size + 1]? = _
  rw [Array.getElem?_push, if_pos (by simp)]
 exact ⟨⟨h2, VBlk.made (enc := encB) (z := false) (e1 _ _), VBlk.made (enc := encB) (z := false) (e2 _ _), by omega, by omega, by omega, by omega, by omega, by omega, by omega, by omega, by omega⟩,
  ⟨h2, VBlk.made (enc := encB) (z := false) (e2 _ _), VBlk.made (enc := encB) (z := false) (e1 _ _), by omega, by omega, by omega, by omega, by omega, by omega, by omega, by omega, by omega⟩⟩
end
def p1 (N : Nat → Int) : Nat → (Nat → Bool) × List Int
 | 0 => (fun _ => false, [])
 | k + 1 => if N k < 0 then (upd (p1 N k).1 k true, (p1 N k).2 ++ [(k : Int)]) else p1 N k
def p2 (l : List S36) (L : Nat → Int) (i : Nat) (s : (Nat → Bool) × (Nat → Bool) × List Int) : Nat → (Nat → Bool) × (Nat → Bool) × List Int
 | 0 => s
 | j + 1 => let q := p2 l L i s j
  if befG l i j = false then q else if q.2.1 j = true then q
  else if L j < 0 then (q.1, upd q.2.1 j true, q.2.2) else if q.1 (L j).toNat = true then (q.1, upd q.2.1 j true, q.2.2) else (upd q.1 (L j).toNat true, upd q.2.1 j true, q.2.2 ++ [L j])
def p3 (l : List S36) (L : Nat → Int) : Nat → (Nat → Bool) → (Nat → Bool) → List Int → Option ((Nat → Bool) × (Nat → Bool))
 | 0, _, _, _ => none
 | _ + 1, D, M, [] => some (D, M)
 | f + 1, D, M, x :: t => if 0 ≤ x ∧ x < l.length ∧ t.length ≤ 1000000 then p3 l L f (p2 l L x.toNat (D, M, t) l.length).1 (p2 l L x.toNat (D, M, t) l.length).2.1 (p2 l L x.toNat (D, M, t) l.length).2.2 else none
def p4 (D M : Nat → Bool) : Nat → List Int
 | 0 => []
 | k + 1 => if (D k && !M k) = true then p4 D M k ++ [(k : Int)] else p4 D M k
theorem p1_len (N : Nat → Int) : ∀ k, (p1 N k).2.length ≤ k
 | 0 => Nat.le_refl _
 | k + 1 => by
  have := p1_len N k
  rw [p1]
  split
  ·simp; omega
  ·omega
theorem p4_len (D M : Nat → Bool) : ∀ k, (p4 D M k).length ≤ k
 | 0 => Nat.le_refl _
 | k + 1 => by
  have := p4_len D M k
  rw [p4]
  split
  ·simp; omega
  ·omega
theorem p2_len (l : List S36) (L : Nat → Int) (i : Nat) (s : (Nat → Bool) × (Nat → Bool) × List Int) : ∀ j, (p2 l L i s j).2.2.length ≤ s.2.2.length + j
 | 0 => Nat.le_refl _
 | j + 1 => by
  have := p2_len l L i s j
  rw [p2]
  split
  ·omega
  ·split
   ·omega
   ·split
    ·show (p2 l L i s j).2.2.length ≤ _; omega
    ·split
     ·show (p2 l L i s j).2.2.length ≤ _; omega
     ·show ((p2 l L i s j).2.2 ++ [L j]).length ≤ _
      simp; omega
end Go.Proofs.Ytnbdfmdjedakcaa
namespace Go.Proofs.Ytnbdfmdjedakcaa
open Go.RowKit Go.Proofs.YtnbdfmdjedakcaaW.PrintWords Go.Proofs.YtnbdfmdjedakcaaW.PrintLast Go.Proofs.YtnbdfmdjedakcaaW.PrintMore PP
set_option linter.unusedVariables false
set_option linter.unusedSimpArgs false
abbrev qI := Kd.int .i64
theorem Q_cellset {w : World} {base : Nat} {ok : Nat → Prop} {v : Value} {xs : List Int} (h : Kd.Q qI 3 w base ok v xs) {g : Nat} (hg : ∀ k, ok k → k ≠ g) (o : Nat) (u : Value) : Kd.Q qI 3 (w.setCell ⟨g, o, none⟩ u) base ok v xs := Kd.Q_far h (p := ⟨g, o, none⟩) hg u
theorem LkO.rebase {w w1 W : World} {ob n c nb lb : Nat} {A : Option Addr} {N L : Nat → Int} (h : LkO w1 ob A n c nb lb W N L) (hb : Below w.heap.size w w1) : LkO w ob A n c nb lb W N L :=
 ⟨hb.trans (h.B.mono hb.size), h.O, h.N, h.L, Nat.le_trans hb.size h.o0, Nat.le_trans hb.size h.n0, Nat.le_trans hb.size h.l0, h.on, h.ol, h.nl⟩
set_option maxRecDepth 100000 in
set_option maxHeartbeats 32000000 in
theorem width_ok (w : World) (A : Option Addr) (c : Nat) (l : List S36) (hC : Kd.C k36 w A l.length l) (h0 : lsF l 32 = 0) (hl : l.length ≤ 1000000) (F : Nat) (N L : Nat → Int) (hd : lkd l F l.length = some (N, L)) (hL : ∀ j, j < l.length → L j < l.length) (F2 : Nat) (D M : Nat → Bool) (h3 : p3 l L F2 (p1 N l.length).1 (fun _ => false) (p1 N l.length).2 = some (D, M)) :
  Calls Try.prog 41 #[.slice A l.length c] w fun e w' => ∃ v, e = .returned (.tuple #[.int .i64 ((p4 D M l.length).length : Nat), v, .int .i64 0]) ∧ Kd.R qI 3 w' w.heap.size (fun _ => True) v (p4 D M l.length) ∧ Below w.heap.size w w' := by
 have m2 := mkB l.length (by omega)
 obtain ⟨i3, hi3, _, hs3, _⟩ := info_parts info3
 have HLS := Hd.mk (listed_any w A c l 32 hC 0 h0)
 have HLK := Hd.mk (fun W (hb : Below w.heap.size w W) => linked_any W A c l (Kd.C_below hC hb) (by omega) F N L hd)
 have HC := Hd.mk (fun W (hb : Below w.heap.size w W) => Kd.C_below hC hb)
 have HR := Hd.mk hL
 have H3 := Hd.mk h3
 clear hC h0 hd hL h3
 go_enter Try.func41, Try.ntmps41
 go_wp2_with fail
 refine HLS.out.mono ?_
 rintro e w1 ⟨rfl, hb1⟩
 go_wp2_with fail
 refine (HLK.out _ hb1).mono ?_
 rintro e w2 ⟨ob, nb, lb, rfl, hO⟩
 have HO := Hd.mk (hO.rebase hb1)
 clear hO hb1 HLS HLK
 go_wp2_with fail
 go_region_held3 (fun _ => True) (trivial) (fail)
 ·refine gen_world (fun wq => WdB w ob A l.length c nb lb w2.heap.size (w2.heap.size + 1) wq N L (fun _ => false) (fun _ => false)) ?_ ?_
  ·exact HO.out.with2.1
  intro w3 hW
  have HW := Hd.mk hW
  clear hW HO
  generalize w2.heap.size + 1 = mb at HW ⊢
  generalize w2.heap.size = db at HW ⊢
  go_wp2_with fail
  go_loopg [9, 31] l.length (fun gg v9 v31 wr => ∃ (k : Nat), v31 = .int .i64 k ∧ k ≤ l.length ∧ l.length - k ≤ gg ∧ Hd (Kd.Q qI 3 wr w.heap.size (okW ob nb lb db mb) v9 (p1 N k).2) ∧ Hd (WdB w ob A l.length c nb lb db mb wr N L (p1 N k).1 (fun _ => false)))
  case atStart => exact ⟨0, rfl, Nat.zero_le _, by omega, ⟨Kd.Q_nil _ _ _ _ _⟩, HW⟩
  case round =>
   clear HW
   obtain ⟨k, rfl, hk, hg, HQ, HW⟩ := hrel
   by_cases hlt : k < l.length
   ·have hltz : (k : Int) < (l.length : Int) := by omega
    obtain ⟨_, c1, c2⟩ := HW.out.O.O.cells
    have gn := HW.out.O.N.cell k hlt
    unfold encI at gn
    by_cases hn : N k < 0
    ·have hd := decide_eq_true hn
     have hst : p1 N (k + 1) = (upd (p1 N k).1 k true, (p1 N k).2 ++ [(k : Int)]) := by rw [p1, if_pos hn]
     have HS := Hd.mk hst
     clear hst hn
     have fd := HW.out.D.frozen k
     have gd := HW.out.D.cell k hlt
     have HW2 := Hd.mk (HW.out.setD k hlt true)
     have HQ2 := Hd.mk (Q_cellset HQ.out (g := db) (fun _ h => h.2.1) k (.bool true))
     go_wp2_with ((with_reducible refine gate_builtin (b := .append) (xs := #[.tmp 45, .tmp 47]) rfl ?_); at_builtin; refine Kd.Q_append qI (w0 := w) w.heap.size rfl (.tmp 45) (.tmp 47) 28 3 (.int .i64 0) 8 rfl Try.underlying28 info3 rfl (by decide) (by omega) u9 _ (k : Int) [.int .i64 k] (okW ob nb lb db mb) (fun _ => False) rfl ?aX ?aP (fun _ hk => hk.elim) ?aF HQ2.out HW2.out.O.B ?aS ?aL ?_; (case aX => rw [size_set]; rfl); (case aP => exact rfl); (case aF => exact HW2.out.fresh); (case aS => exact HW2.out.O.B.size); (case aL => have := p1_len N k; omega); intro v5 w5 ho hb hg2 hat; have HQ3 := Hd.mk ho; have HW3 := Hd.mk (HW2.out.grown (fun k hk => HQ2.out.1 k hk) hb hg2); clear ho hb hg2 hat HW2 HQ2)
     go_roundg (l.length - (k + 1))
     case measure => omega
     case rel => exact ⟨k + 1, by go_num, by omega, by omega, ⟨by rw [HS.out]; exact HQ3.out⟩, ⟨by rw [HS.out]; exact HW3.out⟩⟩
    ·have hd := decide_eq_false hn
     have hst : p1 N (k + 1) = p1 N k := by rw [p1, if_neg hn]
     have HS := Hd.mk hst
     clear hst hn
     go_wp2_with fail
     go_roundg (l.length - (k + 1))
     case measure => omega
     case rel => exact ⟨k + 1, by go_num, by omega, by omega, ⟨by rw [HS.out]; exact HQ.out⟩, ⟨by rw [HS.out]; exact HW.out⟩⟩
   ·have hltz : ¬ (k : Int) < (l.length : Int) := by omega
    obtain rfl : k = l.length := by omega
    go_wp2_with fail
    have HP := Hd.mk H3.out
    go_loopg [9] F2 (fun gg v9 wr => ∃ (D1 M1 : Nat → Bool) (t : List Int), Hd (gg ≤ F2 ∧ p3 l L gg D1 M1 t = some (D, M)) ∧ Hd (Kd.Q qI 3 wr w.heap.size (okW ob nb lb db mb) v9 t) ∧ Hd (WdB w ob A l.length c nb lb db mb wr N L D1 M1))
    case atStart => exact ⟨_, _, _, ⟨Nat.le_refl _, HP.out⟩, HQ, HW⟩
    case round =>
     clear HQ HW HP
     obtain ⟨D1, M1, t, HP, HQ, HW⟩ := hrel
     cases gk with
     | zero => exact absurd HP.out.2 (by simp [p3])
     | succ g1 =>
      have hp := HP.out.2
      have HG := Hd.mk HP.out.1
      clear HP
      cases t with
      | nil =>
       rw [p3] at hp
       have h9 := Option.some.inj hp
       simp only [Prod.mk.injEq] at h9
       obtain ⟨rfl, rfl⟩ := h9
       clear hp
       obtain ⟨A9, c9, rfl, _⟩ := Kd.Q_slice HQ.out
       have z0 : decide (((([] : List Int).length : Nat) : Int) > 0) = false := rfl
       simp only [List.length_nil]
       clear HQ
       go_wp2_with fail
       go_loopg [14, 103] l.length (fun gg v14 v103 wr => ∃ k : Nat, v103 = .int .i64 k ∧ k ≤ l.length ∧ l.length - k ≤ gg ∧ Hd (Kd.R qI 3 wr w.heap.size (okW ob nb lb db mb) v14 (p4 D1 M1 k)) ∧ Hd (WdB w ob A l.length c nb lb db mb wr N L D1 M1))
       case atStart => exact ⟨0, rfl, Nat.zero_le _, by omega, ⟨Kd.R_nil _ _ _ _ _⟩, HW⟩
       case round =>
        clear HW
        obtain ⟨k, rfl, hk, hg, HO, HW⟩ := hrel
        by_cases hlt : k < l.length
        ·have hltz : (k : Int) < (l.length : Int) := by omega
         have gd := HW.out.D.cell k hlt
         have gm := HW.out.M.cell k hlt
         unfold encB at gd gm
         cases hdk : D1 k with
         | false =>
          have HS := Hd.mk (show p4 D1 M1 (k + 1) = p4 D1 M1 k by rw [p4, if_neg (by rw [hdk]; simp)])
          rw [hdk] at gd
          clear hdk gm
          go_wp2_with fail
          go_roundg (l.length - (k + 1))
          case measure => omega
          case rel => exact ⟨k + 1, by go_num, by omega, by omega, ⟨by rw [HS.out]; exact HO.out⟩, HW⟩
         | true =>
          cases hmk : M1 k with
          | true =>
           have HS := Hd.mk (show p4 D1 M1 (k + 1) = p4 D1 M1 k by rw [p4, if_neg (by rw [hdk, hmk]; decide)])
           rw [hdk] at gd
           rw [hmk] at gm
           clear hdk hmk
           go_wp2_with fail
           go_roundg (l.length - (k + 1))
           case measure => omega
           case rel => exact ⟨k + 1, by go_num, by omega, by omega, ⟨by rw [HS.out]; exact HO.out⟩, HW⟩
          | false =>
           have HS := Hd.mk (show p4 D1 M1 (k + 1) = p4 D1 M1 k ++ [(k : Int)] by rw [p4, if_pos (by rw [hdk, hmk]; decide)])
           rw [hdk] at gd
           rw [hmk] at gm
           clear hdk hmk
           go_wp2_with ((with_reducible refine gate_builtin (b := .append) (xs := #[.tmp 117, .tmp 119]) rfl ?_); at_builtin; refine Kd.R_append qI (w0 := w) w.heap.size rfl (.tmp 117) (.tmp 119) 28 3 (.int .i64 0) 8 rfl Try.underlying28 info3 rfl (by decide) (by omega) u14 _ (k : Int) [.int .i64 k] (okW ob nb lb db mb) (fun _ => False) rfl rfl ?aP (fun _ hk => hk.elim) ?aF HO.out HW.out.O.B ?aS ?aL ?_; (case aP => exact rfl); (case aF => exact HW.out.fresh); (case aS => exact HW.out.O.B.size); (case aL => have := p4_len D1 M1 k; omega); intro v8 w8 ho hb hg2 hat; have HO8 := Hd.mk ho; have HW8 := Hd.mk (HW.out.grown (fun k hk => HO.out.1 k hk) hb hg2); clear ho hb hg2 hat)
           go_roundg (l.length - (k + 1))
           case measure => omega
           case rel => exact ⟨k + 1, by go_num, by omega, by omega, ⟨by rw [HS.out]; exact HO8.out⟩, HW8⟩
        ·have hltz : ¬ (k : Int) < (l.length : Int) := by omega
         obtain rfl : k = l.length := by omega
         have HV := Hd.mk HO.out
         obtain ⟨A8, c8, rfl⟩ := Kd.R_slice HO.out
         clear HO
         go_wp2_with fail
         go_ret3
         exact ⟨_, rfl, Kd.R_mono HV.out (fun _ _ => trivial), HW.out.O.B⟩
      | cons x t =>
       rw [p3] at hp
       by_cases hx : 0 ≤ x ∧ x < l.length ∧ t.length ≤ 1000000
       ·rw [if_pos hx] at hp
        obtain ⟨i, rfl⟩ : ∃ i : Nat, x = (i : Int) := ⟨x.toNat, by omega⟩
        rw [Int.toNat_natCast] at hp
        have hi : i < l.length := by omega
        have htl : t.length ≤ 1000000 := hx.2.2
        have HP := Hd.mk hp
        clear hp hx
        obtain ⟨A9, c9, rfl, hc9⟩ := Kd.Q_slice HQ.out
        obtain ⟨_, _, hC9⟩ := Kd.Q_reads' HQ.out
        obtain ⟨ad, rfl, ce⟩ := at_I hC9 0 (by simp)
        have ce' : wr.cell? ad = some (.int .i64 i) := by rw [show ad.add 0 = ad from by cases ad; simp [Addr.add]] at ce; exact ce
        have hlen : ((i : Int) :: t).length = t.length + 1 := rfl
        have hcut := cut_from (P := Try.prog) 28 3 .i64 Try.underlying28 hi3 1 hs3 (some ad) ((i : Int) :: t).length c9 1 (by omega) (by rw [hlen]; omega)
        have hdrop := Kd.Q_drop (k := 1) HQ.out (by rw [hlen]; omega)
        have hsz1 : qI.sz = 1 := rfl
        rw [hsz1] at hdrop
        have h1n : (1 : Int).toNat = 1 := rfl
        rw [h1n] at hcut
        have hd1 : List.drop 1 ((i : Int) :: t) = t := rfl
        have hl1 : ((i : Int) :: t).length - 1 = t.length := rfl
        rw [hd1, hl1] at hdrop
        rw [hl1] at hcut
        generalize (if c9 = 1 then some ad else (some ad).map (·.add (1 * 1))) = A10 at hcut hdrop
        generalize c9 - 1 = c10 at hcut hdrop
        have HD2 := Hd.mk hdrop
        rw [hlen] at hcut ⊢
        have gt0 : decide ((((t.length + 1 : Nat)) : Int) > 0) = true := decide_eq_true (by omega)
        have lt0 : (0 : Int) < ((t.length + 1 : Nat) : Int) := by omega
        clear hdrop hC9 ce hlen hd1 hl1 HQ
        go_wp2_with fail
        go_loopg [9, 60] l.length (fun gg v9 v60 wr => ∃ j : Nat, v60 = .int .i64 j ∧ j ≤ l.length ∧ l.length - j ≤ gg ∧ Hd (Kd.Q qI 3 wr w.heap.size (okW ob nb lb db mb) v9 (p2 l L i (D1, M1, t) j).2.2) ∧ Hd (WdB w ob A l.length c nb lb db mb wr N L (p2 l L i (D1, M1, t) j).1 (p2 l L i (D1, M1, t) j).2.1))
        case atStart => exact ⟨0, rfl, Nat.zero_le _, by omega, HD2, HW⟩
        case round =>
         clear HD2 HW ce' hcut
         obtain ⟨j, rfl, hj, hg, HQ, HW⟩ := hrel
         by_cases hlt : j < l.length
         ·have hltz : (j : Int) < (l.length : Int) := by omega
          obtain ⟨s, hs⟩ : ∃ s, p2 l L i (D1, M1, t) j = s := ⟨_, rfl⟩
          have hst : p2 l L i (D1, M1, t) (j + 1) = (if befG l i j = false then s else if s.2.1 j = true then s else if L j < 0 then (s.1, upd s.2.1 j true, s.2.2) else if s.1 (L j).toNat = true then (s.1, upd s.2.1 j true, s.2.2) else (upd s.1 (L j).toNat true, upd s.2.1 j true, s.2.2 ++ [L j])) := by rw [p2, hs]
          have hlen := p2_len l L i (D1, M1, t) j
          rw [hs] at hlen HQ HW
          obtain ⟨D3, M3, t3⟩ := s
          simp only at hst hlen HQ HW
          clear hs
          have HBE := Hd.mk (fun W (hw : WdB w ob A l.length c nb lb db mb W N L D3 M3) => before_any W ob A c nb lb l hw.O.O (HC.out W hw.O.B) i j hi hlt)
          cases hb : befG l i j with
          | false =>
           rw [if_pos hb] at hst
           rw [hb] at HBE
           have HS := Hd.mk hst
           clear hst hb
           go_wp2_with (go_at_call 78; refine (HBE.out _ HW.out).mono ?_; rintro e w6 ⟨rfl, hb6⟩; have HW6 := Hd.mk (HW.out.below hb6); have HQ6 := Hd.mk (Kd.Q_below HQ.out hb6); clear hb6)
           go_roundg (l.length - (j + 1))
           case measure => omega
           case rel => exact ⟨j + 1, by go_num, by omega, by omega, ⟨by rw [HS.out]; exact HQ6.out⟩, ⟨by rw [HS.out]; exact HW6.out⟩⟩
          | true =>
           rw [if_neg (by rw [hb]; decide)] at hst
           rw [hb] at HBE
           clear hb
           cases hm : M3 j with
           | true =>
            rw [if_pos hm] at hst
            have HS := Hd.mk hst
            have HM := Hd.mk hm
            clear hst hm
            go_wp2_with (go_at_call 78; refine (HBE.out _ HW.out).mono ?_; rintro e w6 ⟨rfl, hb6⟩; have HW6 := Hd.mk (HW.out.below hb6); have HQ6 := Hd.mk (Kd.Q_below HQ.out hb6); clear hb6; have gm := HW6.out.M.cell j hlt; rw [HM.out] at gm; unfold encB at gm)
            go_roundg (l.length - (j + 1))
            case measure => omega
            case rel => exact ⟨j + 1, by go_num, by omega, by omega, ⟨by rw [HS.out]; exact HQ6.out⟩, ⟨by rw [HS.out]; exact HW6.out⟩⟩
           | false =>
            rw [if_neg (by rw [hm]; decide)] at hst
            have HM := Hd.mk hm
            clear hm
            by_cases hlj : L j < 0
            ·rw [if_pos hlj] at hst
             have HS := Hd.mk hst
             have d1 : decide (L j ≥ 0) = false := decide_eq_false (by omega)
             have d2 : decide (0 ≤ L j) = false := decide_eq_false (by omega)
             clear hst hlj
             go_wp2_with fail
             refine (HBE.out _ HW.out).mono ?_
             rintro e w6 ⟨rfl, hb6⟩
             have HW6 := Hd.mk (HW.out.below hb6)
             have HQ6 := Hd.mk (Kd.Q_below HQ.out hb6)
             clear hb6
             have gm := HW6.out.M.cell j hlt
             rw [HM.out] at gm
             unfold encB at gm
             have fm := HW6.out.M.frozen j
             obtain ⟨_, c1, c2⟩ := HW6.out.O.O.cells
             have gl := HW6.out.O.L.cell j hlt
             unfold encI at gl
             have n1 := HW6.out.om
             have n2 := HW6.out.lm
             have n3 := HW6.out.dm
             have HW7 := Hd.mk (HW6.out.setM j hlt true)
             have HQ7 := Hd.mk (Q_cellset HQ6.out (g := mb) (fun _ h => h.2.2) j (.bool true))
             go_wp2_with fail
             go_roundg (l.length - (j + 1))
             case measure => omega
             case rel => exact ⟨j + 1, by go_num, by omega, by omega, ⟨by rw [HS.out]; exact HQ7.out⟩, ⟨by rw [HS.out]; exact HW7.out⟩⟩
            ·rw [if_neg hlj] at hst
             have hz : L j = ((L j).toNat : Int) := by omega
             obtain ⟨q, hq⟩ : ∃ q, (L j).toNat = q := ⟨_, rfl⟩
             have hqn : q < l.length := by have := HR.out j hlt; omega
             rw [hq] at hz hst
             have HZ := Hd.mk hz
             have hqz : (q : Int) < (l.length : Int) := by omega
             clear hlj hz hq
             cases hdq : D3 q with
             | true =>
              rw [if_pos hdq] at hst
              have HS := Hd.mk hst
              have HDQ := Hd.mk hdq
              clear hst hdq
              go_wp2_with fail
              refine (HBE.out _ HW.out).mono ?_
              rintro e w6 ⟨rfl, hb6⟩
              have HW6 := Hd.mk (HW.out.below hb6)
              have HQ6 := Hd.mk (Kd.Q_below HQ.out hb6)
              clear hb6
              have gm := HW6.out.M.cell j hlt
              rw [HM.out] at gm
              unfold encB at gm
              have fm := HW6.out.M.frozen j
              obtain ⟨_, c1, c2⟩ := HW6.out.O.O.cells
              have gl := HW6.out.O.L.cell j hlt
              unfold encI at gl
              have n1 := HW6.out.om
              have n2 := HW6.out.lm
              have n3 := HW6.out.dm
              rw [HZ.out] at gl
              have gd := HW6.out.D.cell q hqn
              rw [HDQ.out] at gd
              unfold encB at gd
              have HW7 := Hd.mk (HW6.out.setM j hlt true)
              have HQ7 := Hd.mk (Q_cellset HQ6.out (g := mb) (fun _ h => h.2.2) j (.bool true))
              go_wp2_with fail
              go_roundg (l.length - (j + 1))
              case measure => omega
              case rel => exact ⟨j + 1, by go_num, by omega, by omega, ⟨by rw [HS.out]; exact HQ7.out⟩, ⟨by rw [HS.out]; exact HW7.out⟩⟩
             | false =>
              rw [if_neg (by rw [hdq]; decide)] at hst
              rw [HZ.out] at hst
              have HS := Hd.mk hst
              have HDQ := Hd.mk hdq
              clear hst hdq
              go_wp2_with fail
              refine (HBE.out _ HW.out).mono ?_
              rintro e w6 ⟨rfl, hb6⟩
              have HW6 := Hd.mk (HW.out.below hb6)
              have HQ6 := Hd.mk (Kd.Q_below HQ.out hb6)
              clear hb6
              have gm := HW6.out.M.cell j hlt
              rw [HM.out] at gm
              unfold encB at gm
              have fm := HW6.out.M.frozen j
              obtain ⟨_, c1, c2⟩ := HW6.out.O.O.cells
              have gl := HW6.out.O.L.cell j hlt
              unfold encI at gl
              have n1 := HW6.out.om
              have n2 := HW6.out.lm
              have n3 := HW6.out.dm
              rw [HZ.out] at gl
              have gd := HW6.out.D.cell q hqn
              rw [HDQ.out] at gd
              unfold encB at gd
              have fd := HW6.out.D.frozen q
              have HW7 := Hd.mk ((HW6.out.setM j hlt true).setD q hqn true)
              have HQ7 := Hd.mk (Q_cellset (Q_cellset HQ6.out (g := mb) (fun _ h => h.2.2) j (.bool true)) (g := db) (fun _ h => h.2.1) q (.bool true))
              go_wp2_with ((with_reducible refine gate_builtin (b := .append) (xs := #[.tmp 96, .tmp 98]) rfl ?_); at_builtin; refine Kd.Q_append qI (w0 := w) w.heap.size rfl (.tmp 96) (.tmp 98) 28 3 (.int .i64 0) 8 rfl Try.underlying28 info3 rfl (by decide) (by omega) u9 _ (q : Int) [.int .i64 q] (okW ob nb lb db mb) (fun _ => False) rfl ?aX ?aP (fun _ hk => hk.elim) ?aF HQ7.out HW7.out.O.B ?aS ?aL ?_; (case aX => rw [size_set, size_set]; rfl); (case aP => exact rfl); (case aF => exact HW7.out.fresh); (case aS => exact HW7.out.O.B.size); (case aL => omega); intro v8 w8 ho hb hg2 hat; have HQ8 := Hd.mk ho; have HW8 := Hd.mk (HW7.out.grown (fun k hk => HQ7.out.1 k hk) hb hg2); clear ho hb hg2 hat HW7 HQ7)
              go_roundg (l.length - (j + 1))
              case measure => omega
              case rel => exact ⟨j + 1, by go_num, by omega, by omega, ⟨by rw [HS.out]; exact HQ8.out⟩, ⟨by rw [HS.out]; exact HW8.out⟩⟩
         ·have hltz : ¬ (j : Int) < (l.length : Int) := by omega
          obtain rfl : j = l.length := by omega
          go_wp2_with fail
          go_roundg g1
          case measure => omega
          case rel => exact ⟨_, _, _, ⟨by have := HG.out; omega, HP.out⟩, HQ, HW⟩
       ·rw [if_neg hx] at hp
        exact absurd hp (by simp)
 ·refine gen_world (fun wq => WdB w ob A l.length c nb lb (w2.heap.size + 1) w2.heap.size wq N L (fun _ => false) (fun _ => false)) ?_ ?_
  ·exact HO.out.with2.2
  intro w3 hW
  have HW := Hd.mk hW
  clear hW HO
  generalize w2.heap.size + 1 = db at HW ⊢
  generalize w2.heap.size = mb at HW ⊢
  go_wp2_with fail
  go_loopg [9, 31] l.length (fun gg v9 v31 wr => ∃ (k : Nat), v31 = .int .i64 k ∧ k ≤ l.length ∧ l.length - k ≤ gg ∧ Hd (Kd.Q qI 3 wr w.heap.size (okW ob nb lb db mb) v9 (p1 N k).2) ∧ Hd (WdB w ob A l.length c nb lb db mb wr N L (p1 N k).1 (fun _ => false)))
  case atStart => exact ⟨0, rfl, Nat.zero_le _, by omega, ⟨Kd.Q_nil _ _ _ _ _⟩, HW⟩
  case round =>
   clear HW
   obtain ⟨k, rfl, hk, hg, HQ, HW⟩ := hrel
   by_cases hlt : k < l.length
   ·have hltz : (k : Int) < (l.length : Int) := by omega
    obtain ⟨_, c1, c2⟩ := HW.out.O.O.cells
    have gn := HW.out.O.N.cell k hlt
    unfold encI at gn
    by_cases hn : N k < 0
    ·have hd := decide_eq_true hn
     have hst : p1 N (k + 1) = (upd (p1 N k).1 k true, (p1 N k).2 ++ [(k : Int)]) := by rw [p1, if_pos hn]
     have HS := Hd.mk hst
     clear hst hn
     have fd := HW.out.D.frozen k
     have gd := HW.out.D.cell k hlt
     have HW2 := Hd.mk (HW.out.setD k hlt true)
     have HQ2 := Hd.mk (Q_cellset HQ.out (g := db) (fun _ h => h.2.1) k (.bool true))
     go_wp2_with ((with_reducible refine gate_builtin (b := .append) (xs := #[.tmp 45, .tmp 47]) rfl ?_); at_builtin; refine Kd.Q_append qI (w0 := w) w.heap.size rfl (.tmp 45) (.tmp 47) 28 3 (.int .i64 0) 8 rfl Try.underlying28 info3 rfl (by decide) (by omega) u9 _ (k : Int) [.int .i64 k] (okW ob nb lb db mb) (fun _ => False) rfl ?aX ?aP (fun _ hk => hk.elim) ?aF HQ2.out HW2.out.O.B ?aS ?aL ?_; (case aX => rw [size_set]; rfl); (case aP => exact rfl); (case aF => exact HW2.out.fresh); (case aS => exact HW2.out.O.B.size); (case aL => have := p1_len N k; omega); intro v5 w5 ho hb hg2 hat; have HQ3 := Hd.mk ho; have HW3 := Hd.mk (HW2.out.grown (fun k hk => HQ2.out.1 k hk) hb hg2); clear ho hb hg2 hat HW2 HQ2)
     go_roundg (l.length - (k + 1))
     case measure => omega
     case rel => exact ⟨k + 1, by go_num, by omega, by omega, ⟨by rw [HS.out]; exact HQ3.out⟩, ⟨by rw [HS.out]; exact HW3.out⟩⟩
    ·have hd := decide_eq_false hn
     have hst : p1 N (k + 1) = p1 N k := by rw [p1, if_neg hn]
     have HS := Hd.mk hst
     clear hst hn
     go_wp2_with fail
     go_roundg (l.length - (k + 1))
     case measure => omega
     case rel => exact ⟨k + 1, by go_num, by omega, by omega, ⟨by rw [HS.out]; exact HQ.out⟩, ⟨by rw [HS.out]; exact HW.out⟩⟩
   ·have hltz : ¬ (k : Int) < (l.length : Int) := by omega
    obtain rfl : k = l.length := by omega
    go_wp2_with fail
    have HP := Hd.mk H3.out
    go_loopg [9] F2 (fun gg v9 wr => ∃ (D1 M1 : Nat → Bool) (t : List Int), Hd (gg ≤ F2 ∧ p3 l L gg D1 M1 t = some (D, M)) ∧ Hd (Kd.Q qI 3 wr w.heap.size (okW ob nb lb db mb) v9 t) ∧ Hd (WdB w ob A l.length c nb lb db mb wr N L D1 M1))
    case atStart => exact ⟨_, _, _, ⟨Nat.le_refl _, HP.out⟩, HQ, HW⟩
    case round =>
     clear HQ HW HP
     obtain ⟨D1, M1, t, HP, HQ, HW⟩ := hrel
     cases gk with
     | zero => exact absurd HP.out.2 (by simp [p3])
     | succ g1 =>
      have hp := HP.out.2
      have HG := Hd.mk HP.out.1
      clear HP
      cases t with
      | nil =>
       rw [p3] at hp
       have h9 := Option.some.inj hp
       simp only [Prod.mk.injEq] at h9
       obtain ⟨rfl, rfl⟩ := h9
       clear hp
       obtain ⟨A9, c9, rfl, _⟩ := Kd.Q_slice HQ.out
       have z0 : decide (((([] : List Int).length : Nat) : Int) > 0) = false := rfl
       simp only [List.length_nil]
       clear HQ
       go_wp2_with fail
       go_loopg [14, 103] l.length (fun gg v14 v103 wr => ∃ k : Nat, v103 = .int .i64 k ∧ k ≤ l.length ∧ l.length - k ≤ gg ∧ Hd (Kd.R qI 3 wr w.heap.size (okW ob nb lb db mb) v14 (p4 D1 M1 k)) ∧ Hd (WdB w ob A l.length c nb lb db mb wr N L D1 M1))
       case atStart => exact ⟨0, rfl, Nat.zero_le _, by omega, ⟨Kd.R_nil _ _ _ _ _⟩, HW⟩
       case round =>
        clear HW
        obtain ⟨k, rfl, hk, hg, HO, HW⟩ := hrel
        by_cases hlt : k < l.length
        ·have hltz : (k : Int) < (l.length : Int) := by omega
         have gd := HW.out.D.cell k hlt
         have gm := HW.out.M.cell k hlt
         unfold encB at gd gm
         cases hdk : D1 k with
         | false =>
          have HS := Hd.mk (show p4 D1 M1 (k + 1) = p4 D1 M1 k by rw [p4, if_neg (by rw [hdk]; simp)])
          rw [hdk] at gd
          clear hdk gm
          go_wp2_with fail
          go_roundg (l.length - (k + 1))
          case measure => omega
          case rel => exact ⟨k + 1, by go_num, by omega, by omega, ⟨by rw [HS.out]; exact HO.out⟩, HW⟩
         | true =>
          cases hmk : M1 k with
          | true =>
           have HS := Hd.mk (show p4 D1 M1 (k + 1) = p4 D1 M1 k by rw [p4, if_neg (by rw [hdk, hmk]; decide)])
           rw [hdk] at gd
           rw [hmk] at gm
           clear hdk hmk
           go_wp2_with fail
           go_roundg (l.length - (k + 1))
           case measure => omega
           case rel => exact ⟨k + 1, by go_num, by omega, by omega, ⟨by rw [HS.out]; exact HO.out⟩, HW⟩
          | false =>
           have HS := Hd.mk (show p4 D1 M1 (k + 1) = p4 D1 M1 k ++ [(k : Int)] by rw [p4, if_pos (by rw [hdk, hmk]; decide)])
           rw [hdk] at gd
           rw [hmk] at gm
           clear hdk hmk
           go_wp2_with ((with_reducible refine gate_builtin (b := .append) (xs := #[.tmp 117, .tmp 119]) rfl ?_); at_builtin; refine Kd.R_append qI (w0 := w) w.heap.size rfl (.tmp 117) (.tmp 119) 28 3 (.int .i64 0) 8 rfl Try.underlying28 info3 rfl (by decide) (by omega) u14 _ (k : Int) [.int .i64 k] (okW ob nb lb db mb) (fun _ => False) rfl rfl ?aP (fun _ hk => hk.elim) ?aF HO.out HW.out.O.B ?aS ?aL ?_; (case aP => exact rfl); (case aF => exact HW.out.fresh); (case aS => exact HW.out.O.B.size); (case aL => have := p4_len D1 M1 k; omega); intro v8 w8 ho hb hg2 hat; have HO8 := Hd.mk ho; have HW8 := Hd.mk (HW.out.grown (fun k hk => HO.out.1 k hk) hb hg2); clear ho hb hg2 hat)
           go_roundg (l.length - (k + 1))
           case measure => omega
           case rel => exact ⟨k + 1, by go_num, by omega, by omega, ⟨by rw [HS.out]; exact HO8.out⟩, HW8⟩
        ·have hltz : ¬ (k : Int) < (l.length : Int) := by omega
         obtain rfl : k = l.length := by omega
         have HV := Hd.mk HO.out
         obtain ⟨A8, c8, rfl⟩ := Kd.R_slice HO.out
         clear HO
         go_wp2_with fail
         go_ret3
         exact ⟨_, rfl, Kd.R_mono HV.out (fun _ _ => trivial), HW.out.O.B⟩
      | cons x t =>
       rw [p3] at hp
       by_cases hx : 0 ≤ x ∧ x < l.length ∧ t.length ≤ 1000000
       ·rw [if_pos hx] at hp
        obtain ⟨i, rfl⟩ : ∃ i : Nat, x = (i : Int) := ⟨x.toNat, by omega⟩
        rw [Int.toNat_natCast] at hp
        have hi : i < l.length := by omega
        have htl : t.length ≤ 1000000 := hx.2.2
        have HP := Hd.mk hp
        clear hp hx
        obtain ⟨A9, c9, rfl, hc9⟩ := Kd.Q_slice HQ.out
        obtain ⟨_, _, hC9⟩ := Kd.Q_reads' HQ.out
        obtain ⟨ad, rfl, ce⟩ := at_I hC9 0 (by simp)
        have ce' : wr.cell? ad = some (.int .i64 i) := by rw [show ad.add 0 = ad from by cases ad; simp [Addr.add]] at ce; exact ce
        have hlen : ((i : Int) :: t).length = t.length + 1 := rfl
        have hcut := cut_from (P := Try.prog) 28 3 .i64 Try.underlying28 hi3 1 hs3 (some ad) ((i : Int) :: t).length c9 1 (by omega) (by rw [hlen]; omega)
        have hdrop := Kd.Q_drop (k := 1) HQ.out (by rw [hlen]; omega)
        have hsz1 : qI.sz = 1 := rfl
        rw [hsz1] at hdrop
        have h1n : (1 : Int).toNat = 1 := rfl
        rw [h1n] at hcut
        have hd1 : List.drop 1 ((i : Int) :: t) = t := rfl
        have hl1 : ((i : Int) :: t).length - 1 = t.length := rfl
        rw [hd1, hl1] at hdrop
        rw [hl1] at hcut
        generalize (if c9 = 1 then some ad else (some ad).map (·.add (1 * 1))) = A10 at hcut hdrop
        generalize c9 - 1 = c10 at hcut hdrop
        have HD2 := Hd.mk hdrop
        rw [hlen] at hcut ⊢
        have gt0 : decide ((((t.length + 1 : Nat)) : Int) > 0) = true := decide_eq_true (by omega)
        have lt0 : (0 : Int) < ((t.length + 1 : Nat) : Int) := by omega
        clear hdrop hC9 ce hlen hd1 hl1 HQ
        go_wp2_with fail
        go_loopg [9, 60] l.length (fun gg v9 v60 wr => ∃ j : Nat, v60 = .int .i64 j ∧ j ≤ l.length ∧ l.length - j ≤ gg ∧ Hd (Kd.Q qI 3 wr w.heap.size (okW ob nb lb db mb) v9 (p2 l L i (D1, M1, t) j).2.2) ∧ Hd (WdB w ob A l.length c nb lb db mb wr N L (p2 l L i (D1, M1, t) j).1 (p2 l L i (D1, M1, t) j).2.1))
        case atStart => exact ⟨0, rfl, Nat.zero_le _, by omega, HD2, HW⟩
        case round =>
         clear HD2 HW ce' hcut
         obtain ⟨j, rfl, hj, hg, HQ, HW⟩ := hrel
         by_cases hlt : j < l.length
         ·have hltz : (j : Int) < (l.length : Int) := by omega
          obtain ⟨s, hs⟩ : ∃ s, p2 l L i (D1, M1, t) j = s := ⟨_, rfl⟩
          have hst : p2 l L i (D1, M1, t) (j + 1) = (if befG l i j = false then s else if s.2.1 j = true then s else if L j < 0 then (s.1, upd s.2.1 j true, s.2.2) else if s.1 (L j).toNat = true then (s.1, upd s.2.1 j true, s.2.2) else (upd s.1 (L j).toNat true, upd s.2.1 j true, s.2.2 ++ [L j])) := by rw [p2, hs]
          have hlen := p2_len l L i (D1, M1, t) j
          rw [hs] at hlen HQ HW
          obtain ⟨D3, M3, t3⟩ := s
          simp only at hst hlen HQ HW
          clear hs
          have HBE := Hd.mk (fun W (hw : WdB w ob A l.length c nb lb db mb W N L D3 M3) => before_any W ob A c nb lb l hw.O.O (HC.out W hw.O.B) i j hi hlt)
          cases hb : befG l i j with
          | false =>
           rw [if_pos hb] at hst
           rw [hb] at HBE
           have HS := Hd.mk hst
           clear hst hb
           go_wp2_with (go_at_call 78; refine (HBE.out _ HW.out).mono ?_; rintro e w6 ⟨rfl, hb6⟩; have HW6 := Hd.mk (HW.out.below hb6); have HQ6 := Hd.mk (Kd.Q_below HQ.out hb6); clear hb6)
           go_roundg (l.length - (j + 1))
           case measure => omega
           case rel => exact ⟨j + 1, by go_num, by omega, by omega, ⟨by rw [HS.out]; exact HQ6.out⟩, ⟨by rw [HS.out]; exact HW6.out⟩⟩
          | true =>
           rw [if_neg (by rw [hb]; decide)] at hst
           rw [hb] at HBE
           clear hb
           cases hm : M3 j with
           | true =>
            rw [if_pos hm] at hst
            have HS := Hd.mk hst
            have HM := Hd.mk hm
            clear hst hm
            go_wp2_with (go_at_call 78; refine (HBE.out _ HW.out).mono ?_; rintro e w6 ⟨rfl, hb6⟩; have HW6 := Hd.mk (HW.out.below hb6); have HQ6 := Hd.mk (Kd.Q_below HQ.out hb6); clear hb6; have gm := HW6.out.M.cell j hlt; rw [HM.out] at gm; unfold encB at gm)
            go_roundg (l.length - (j + 1))
            case measure => omega
            case rel => exact ⟨j + 1, by go_num, by omega, by omega, ⟨by rw [HS.out]; exact HQ6.out⟩, ⟨by rw [HS.out]; exact HW6.out⟩⟩
           | false =>
            rw [if_neg (by rw [hm]; decide)] at hst
            have HM := Hd.mk hm
            clear hm
            by_cases hlj : L j < 0
            ·rw [if_pos hlj] at hst
             have HS := Hd.mk hst
             have d1 : decide (L j ≥ 0) = false := decide_eq_false (by omega)
             have d2 : decide (0 ≤ L j) = false := decide_eq_false (by omega)
             clear hst hlj
             go_wp2_with fail
             refine (HBE.out _ HW.out).mono ?_
             rintro e w6 ⟨rfl, hb6⟩
             have HW6 := Hd.mk (HW.out.below hb6)
             have HQ6 := Hd.mk (Kd.Q_below HQ.out hb6)
             clear hb6
             have gm := HW6.out.M.cell j hlt
             rw [HM.out] at gm
             unfold encB at gm
             have fm := HW6.out.M.frozen j
             obtain ⟨_, c1, c2⟩ := HW6.out.O.O.cells
             have gl := HW6.out.O.L.cell j hlt
             unfold encI at gl
             have n1 := HW6.out.om
             have n2 := HW6.out.lm
             have n3 := HW6.out.dm
             have HW7 := Hd.mk (HW6.out.setM j hlt true)
             have HQ7 := Hd.mk (Q_cellset HQ6.out (g := mb) (fun _ h => h.2.2) j (.bool true))
             go_wp2_with fail
             go_roundg (l.length - (j + 1))
             case measure => omega
             case rel => exact ⟨j + 1, by go_num, by omega, by omega, ⟨by rw [HS.out]; exact HQ7.out⟩, ⟨by rw [HS.out]; exact HW7.out⟩⟩
            ·rw [if_neg hlj] at hst
             have hz : L j = ((L j).toNat : Int) := by omega
             obtain ⟨q, hq⟩ : ∃ q, (L j).toNat = q := ⟨_, rfl⟩
             have hqn : q < l.length := by have := HR.out j hlt; omega
             rw [hq] at hz hst
             have HZ := Hd.mk hz
             have hqz : (q : Int) < (l.length : Int) := by omega
             clear hlj hz hq
             cases hdq : D3 q with
             | true =>
              rw [if_pos hdq] at hst
              have HS := Hd.mk hst
              have HDQ := Hd.mk hdq
              clear hst hdq
              go_wp2_with fail
              refine (HBE.out _ HW.out).mono ?_
              rintro e w6 ⟨rfl, hb6⟩
              have HW6 := Hd.mk (HW.out.below hb6)
              have HQ6 := Hd.mk (Kd.Q_below HQ.out hb6)
              clear hb6
              have gm := HW6.out.M.cell j hlt
              rw [HM.out] at gm
              unfold encB at gm
              have fm := HW6.out.M.frozen j
              obtain ⟨_, c1, c2⟩ := HW6.out.O.O.cells
              have gl := HW6.out.O.L.cell j hlt
              unfold encI at gl
              have n1 := HW6.out.om
              have n2 := HW6.out.lm
              have n3 := HW6.out.dm
              rw [HZ.out] at gl
              have gd := HW6.out.D.cell q hqn
              rw [HDQ.out] at gd
              unfold encB at gd
              have HW7 := Hd.mk (HW6.out.setM j hlt true)
              have HQ7 := Hd.mk (Q_cellset HQ6.out (g := mb) (fun _ h => h.2.2) j (.bool true))
              go_wp2_with fail
              go_roundg (l.length - (j + 1))
              case measure => omega
              case rel => exact ⟨j + 1, by go_num, by omega, by omega, ⟨by rw [HS.out]; exact HQ7.out⟩, ⟨by rw [HS.out]; exact HW7.out⟩⟩
             | false =>
              rw [if_neg (by rw [hdq]; decide)] at hst
              rw [HZ.out] at hst
              have HS := Hd.mk hst
              have HDQ := Hd.mk hdq
              clear hst hdq
              go_wp2_with fail
              refine (HBE.out _ HW.out).mono ?_
              rintro e w6 ⟨rfl, hb6⟩
              have HW6 := Hd.mk (HW.out.below hb6)
              have HQ6 := Hd.mk (Kd.Q_below HQ.out hb6)
              clear hb6
              have gm := HW6.out.M.cell j hlt
              rw [HM.out] at gm
              unfold encB at gm
              have fm := HW6.out.M.frozen j
              obtain ⟨_, c1, c2⟩ := HW6.out.O.O.cells
              have gl := HW6.out.O.L.cell j hlt
              unfold encI at gl
              have n1 := HW6.out.om
              have n2 := HW6.out.lm
              have n3 := HW6.out.dm
              rw [HZ.out] at gl
              have gd := HW6.out.D.cell q hqn
              rw [HDQ.out] at gd
              unfold encB at gd
              have fd := HW6.out.D.frozen q
              have HW7 := Hd.mk ((HW6.out.setM j hlt true).setD q hqn true)
              have HQ7 := Hd.mk (Q_cellset (Q_cellset HQ6.out (g := mb) (fun _ h => h.2.2) j (.bool true)) (g := db) (fun _ h => h.2.1) q (.bool true))
              go_wp2_with ((with_reducible refine gate_builtin (b := .append) (xs := #[.tmp 96, .tmp 98]) rfl ?_); at_builtin; refine Kd.Q_append qI (w0 := w) w.heap.size rfl (.tmp 96) (.tmp 98) 28 3 (.int .i64 0) 8 rfl Try.underlying28 info3 rfl (by decide) (by omega) u9 _ (q : Int) [.int .i64 q] (okW ob nb lb db mb) (fun _ => False) rfl ?aX ?aP (fun _ hk => hk.elim) ?aF HQ7.out HW7.out.O.B ?aS ?aL ?_; (case aX => rw [size_set, size_set]; rfl); (case aP => exact rfl); (case aF => exact HW7.out.fresh); (case aS => exact HW7.out.O.B.size); (case aL => omega); intro v8 w8 ho hb hg2 hat; have HQ8 := Hd.mk ho; have HW8 := Hd.mk (HW7.out.grown (fun k hk => HQ7.out.1 k hk) hb hg2); clear ho hb hg2 hat HW7 HQ7)
              go_roundg (l.length - (j + 1))
              case measure => omega
              case rel => exact ⟨j + 1, by go_num, by omega, by omega, ⟨by rw [HS.out]; exact HQ8.out⟩, ⟨by rw [HS.out]; exact HW8.out⟩⟩
         ·have hltz : ¬ (j : Int) < (l.length : Int) := by omega
          obtain rfl : j = l.length := by omega
          go_wp2_with fail
          go_roundg g1
          case measure => omega
          case rel => exact ⟨_, _, _, ⟨by have := HG.out; omega, HP.out⟩, HQ, HW⟩
       ·rw [if_neg hx] at hp
        exact absurd hp (by simp)
end Go.Proofs.Ytnbdfmdjedakcaa
namespace Go.Proofs.Ytnbdfmdjedakcaa
open Go.RowKit Go.Proofs.YtnbdfmdjedakcaaW.PrintWords Go.Proofs.YtnbdfmdjedakcaaW.PrintLast Go.Proofs.YtnbdfmdjedakcaaW.PrintMore PP
set_option linter.unusedVariables false
set_option linter.unusedSimpArgs false
theorem lsF_len {l : List S36} {m : Int} (h : lsF l m = 0) : (l.length : Int) ≤ m := by
 unfold lsF at h
 by_cases h1 : m < (l.length : Int)
 ·rw [if_pos h1] at h; exact absurd h (by decide)
 ·omega
def inR (n : Nat) (L : Nat → Int) : Bool := (List.range n).all fun j => decide (L j < n)
theorem inR_iff {n : Nat} {L : Nat → Int} : inR n L = true ↔ ∀ j, j < n → L j < n := by
 unfold inR
 simp
def widthF (l : List S36) : Option (Int × List Int × Int) :=
 if lsF l 32 = 0 then
  match lkd l 2000 l.length with
  | none => none
  | some (N, L) => if inR l.length L = true then
    match p3 l L 100 (p1 N l.length).1 (fun _ => false) (p1 N l.length).2 with
    | none => none
    | some (D, M) => some (((p4 D M l.length).length : Nat), p4 D M l.length, 0)
   else none
 else some (0, [], lsF l 32)
set_option maxHeartbeats 2000000 in
theorem width_any (w : World) (A : Option Addr) (c : Nat) (l : List S36) (hC : Kd.C k36 w A l.length l) (r1 : Int) (r2 : List Int) (r3 : Int) (h : widthF l = some (r1, r2, r3)) :
  Calls Try.prog 41 #[.slice A l.length c] w fun e w' => ∃ v, e = .returned (.tuple #[.int .i64 r1, v, .int .i64 r3]) ∧ Kd.R qI 3 w' w.heap.size (fun _ => True) v r2 ∧ Below w.heap.size w w' := by
 unfold widthF at h
 by_cases h0 : lsF l 32 = 0
 ·rw [if_pos h0] at h
  have hlen := lsF_len h0
  cases hd : lkd l 2000 l.length with
  | none => rw [hd] at h; exact absurd h (by simp)
  | some q =>
   obtain ⟨N, L⟩ := q
   rw [hd] at h
   simp only at h
   by_cases hr : inR l.length L = true
   ·rw [if_pos hr] at h
    cases hp : p3 l L 100 (p1 N l.length).1 (fun _ => false) (p1 N l.length).2 with
    | none => rw [hp] at h; exact absurd h (by simp)
    | some q =>
     obtain ⟨D, M⟩ := q
     rw [hp] at h
     have h9 := Option.some.inj h
     simp only [Prod.mk.injEq] at h9
     obtain ⟨rfl, rfl, rfl⟩ := h9
     exact width_ok w A c l hC h0 (by omega) 2000 N L hd (inR_iff.mp hr) 100 D M hp
   ·rw [if_neg hr] at h
    exact absurd h (by simp)
 ·rw [if_neg h0] at h
  have h9 := Option.some.inj h
  simp only [Prod.mk.injEq] at h9
  obtain ⟨rfl, rfl, rfl⟩ := h9
  have hls := listed_any w A c l 32 hC _ rfl
  obtain ⟨z, hz⟩ : ∃ z, lsF l 32 = z := ⟨_, rfl⟩
  rw [hz] at hls h0 ⊢
  have h1 : (z == 0) = false := by simpa using h0
  have h2 : (z != 0) = true := by simpa using h0
  clear hC hz h h0
  go_enter Try.func41, Try.ntmps41
  go_wp2_with (go_at_call 70; refine hls.mono ?_; rintro e w1 ⟨rfl, hb⟩; have HB0 := Hd.mk hb; clear hb)
  go_ret3
  exact ⟨_, rfl, Kd.R_nil _ _ _ _ _, HB0.out⟩
end Go.Proofs.Ytnbdfmdjedakcaa
