/- Several texts in one: B25 B27 B28 LayR B29 B30 B31. No conditions. -/
import Derived.Test.YtmeaeapopfcmbaaGreatG3
import Derived.Shelf.SlGeneric
import Derived.Shelf.SlSortCmp.InsertionK
import Derived.Sort.Grow
import Derived.Test.YtmeaeapopfcmbaaGreatG4
import Derived.Shelf.SlSortCmp.NoneTotal
import Derived.Shelf.Sort.Plain
import Derived.Shelf.Slices.In.SortNone
import Derived.Shelf.Slices.CompactS
import Derived.Shelf.Slices.Clone
import Derived.Test.YtmeaeapopfcmbaaGreatProg
import Derived.Deep.DeepCutAuto
namespace Go.Proofs.YtmeaeapopfcmbaaGreat
open Go.RowKit Go.Proofs.YtmeaeapopfcmbaaGreatW.PrintWords Go.Proofs.YtmeaeapopfcmbaaGreatW.PrintLast Go.Proofs.YtmeaeapopfcmbaaGreatW.PrintMore PP Go.Sort
set_option linter.unusedVariables false
set_option linter.unusedSimpArgs false
/-- New blocks and draws alone. -/
def Gr (w W : World) : Prop := ∃ q os, W = Sort.grow (w.drewN q) os
theorem Gr.refl (w : World) : Gr w w := ⟨0, #[], by simp [World.drewN]⟩
theorem Gr.drewN {w W : World} (h : Gr w W) (n : Nat) : Gr w (W.drewN n) := by
  obtain ⟨q, os, rfl⟩ := h
  exact ⟨q + n, os, by rw [← World.drewN_drewN]; rfl⟩
theorem Gr.drew {w W : World} (h : Gr w W) : Gr w W.drew := h.drewN 1
theorem Gr.alloc {w W : World} (h : Gr w W) (o : Obj) : Gr w (W.alloc o) := by
  obtain ⟨q, os, rfl⟩ := h
  refine ⟨q, os.push o, ?_⟩
  show ({ (w.drewN q) with heap := ((w.drewN q).heap ++ os).push o } : World) = { (w.drewN q) with heap := (w.drewN q).heap ++ os.push o }
  rw [Array.append_push]
theorem take_of {L e : List Value} {o : Nat} (h : ∀ c, c < e.length → L[o + c]? = e[c]?) : (L.drop o).take e.length = e := by
  refine List.ext_getElem? fun c => ?_
  rw [List.getElem?_take]
  by_cases hc : c < e.length
  · rw [if_pos hc, List.getElem?_drop, h c hc]
  · rw [if_neg hc, List.getElem?_eq_none (by omega)]
theorem of_take {L e : List Value} {o k : Nat} (h : (L.drop o).take k = e) (c : Nat) (hc : c < k) : L[o + c]? = e[c]? := by
  rw [← h, List.getElem?_take, if_pos hc, List.getElem?_drop]
theorem div_at {j k c : Nat} (hk : c < k) : (j * k + c) / k = j ∧ (j * k + c) % k = c := by
  have h0 : 0 < k := by omega
  rw [Nat.mul_comm, Nat.mul_add_div h0, Nat.div_eq_of_lt hk, Nat.mul_add_mod, Nat.mod_eq_of_lt hk]
  exact ⟨by omega, rfl⟩
theorem at_lt {j k c n : Nat} (hc : c < k) (hj : j < n) : j * k + c < n * k := by
  have : (j + 1) * k ≤ n * k := Nat.mul_le_mul_right k hj
  rw [Nat.succ_mul] at this
  omega
section
variable {α : Type} [Inhabited α]
/-- What is asked of a kind of elements, its comparison, its sort. -/
structure SortK (κ : Kd α) (k : Nat) (enc : α → List Value) (c : α → α → Int) (f g : Nat) : Prop where
  sz : κ.sz = k
  len : ∀ x, (enc x).length = k
  k0 : 0 < k
  opn : ∀ {W : World} {b : Nat} {ok : Nat → Prop} {x : α} {cs : List Value}, κ.M W b ok x cs → cs = enc x
  mke : ∀ (W : World) (b : Nat) (ok : Nat → Prop) (x : α), κ.M W b ok x (enc x)
  none : ∀ W, Calls Tryz.prog f #[.slice none 0 0, .func (.func g) #[] #[]] W fun e w' => e = .returned (.tuple #[]) ∧ w' = W
  run : ∀ (blk cap : Nat) (d : Array α) (w : World), HoldsK enc k w blk 0 d → blk < w.heap.size → d.size < 4611686018427387904 →
    Calls Tryz.prog f #[.slice (some ⟨blk, 0, Option.none⟩) d.size cap, .func (.func g) #[] #[]] w fun e w' => e = .returned (.tuple #[]) ∧ ∃ d' n os, PermIn 0 d.size d d' ∧ SortedIn (ltOf c) 0 d.size d' ∧ w' = sortWorldK enc k w blk 0 n d' os
theorem flat_at {enc : α → List Value} {k : Nat} (hlen : ∀ x, (enc x).length = k) (d : Array α) (j c : Nat) (hj : j < d.size) (hc : c < k) : (flatK enc k d).toList[j * k + c]? = (enc d[j]!)[c]? := by
  have ht : j * k + c < d.size * k := at_lt hc hj
  have h1 := get_flatK enc k d (j * k + c) ht
  rw [(div_at hc).1, (div_at hc).2] at h1
  have h2 : j * k + c < (flatK enc k d).size := by rw [size_flatK]; exact ht
  have h3 : c < (enc d[j]!).length := by rw [hlen]; exact hc
  rw [Array.getElem?_toList, Array.getElem?_eq_getElem h2, List.getElem?_eq_getElem h3, ← getElem!_pos (flatK enc k d) (j * k + c) h2, h1, getElem!_pos (enc d[j]!) c h3]
set_option maxHeartbeats 1000000 in
theorem sortK_own {κ : Kd α} {t k : Nat} {enc : α → List Value} {c : α → α → Int} {f g : Nat} (D : SortK κ k enc c f g) {W : World} {base : Nat} {ok : Nat → Prop} {v : Value} {xs : List α} (HO : Kd.R κ t W base ok v xs) (hl : xs.length < 4611686018427387904) :
    Calls Tryz.prog f #[v, .func (.func g) #[] #[]] W fun e w' => e = .returned (.tuple #[]) ∧ ∃ ys : List α, ys.Perm xs ∧ ys.Pairwise (fun x y => ltOf c y x = false) ∧ Kd.R κ t w' base ok v ys ∧ Go.RowKit.Below base W w' ∧ ∀ i, some i ≠ v.ownBlock → i < W.heap.size → w'.heap[i]? = W.heap[i]? := by
  obtain ⟨ho, inner, ⟨h1, h2⟩, hr⟩ := HO
  have hk0 := D.k0
  rw [D.sz] at h1 h2 hr
  rcases h2 with ⟨rfl, hn⟩ | ⟨b, cap, cur, rfl, hg, hh, h3, h4, h5, h6⟩
  · obtain rfl := List.eq_nil_of_length_eq_zero hn
    refine (D.none W).mono ?_
    rintro e w' ⟨rfl, rfl⟩
    exact ⟨rfl, [], .refl _, by simp, Kd.R_nil κ t _ base ok, Go.RowKit.Below.refl _ _, fun _ _ _ => rfl⟩
  · have hgl : b < W.heap.size := (Array.getElem?_eq_some_iff.1 hh).1
    have hin : ∀ j q, j < xs.length → q < k → inner[j * k + q]? = (enc xs[j]!)[q]? := fun j q hj hq => by
      have h7 := hr.2 j xs[j] (List.getElem?_eq_getElem hj)
      have h8 := D.opn h7
      have h9 := of_take h8 q hq
      rw [h9, getElem!_pos xs j hj]
    have hH : HoldsK enc k W b 0 xs.toArray := fun t ht => by
      rw [size_flatK] at ht
      simp only [List.size_toArray] at ht
      have hj : t / k < xs.length := (Nat.div_lt_iff_lt_mul hk0).2 ht
      have hm : t % k < k := Nat.mod_lt _ hk0
      have h7 := hin (t / k) (t % k) hj hm
      have e7 : t / k * k + t % k = t := Nat.div_add_mod' t k
      rw [e7] at h7
      have h8 : cur.toList[t]? = inner[t]? := by
        rw [← h6, List.getElem?_take, if_pos ht]
      have h9 := flat_at D.len xs.toArray (t / k) (t % k) (by simpa using hj) hm
      rw [e7] at h9
      have hts : t < (flatK enc k xs.toArray).size := by rw [size_flatK]; simpa using ht
      rw [Array.getElem?_toList, Array.getElem?_eq_getElem hts, ← getElem!_pos (flatK enc k xs.toArray) t hts] at h9
      have e9 : (xs.toArray)[t / k]! = xs[t / k]! := by simp
      rw [e9] at h9
      refine ⟨?_, ?_⟩
      · have e1 : W.cell? ⟨b, 0 + t, none⟩ = cur[0 + t]? := by simp [World.cell?, hh]
        rw [e1, Nat.zero_add, ← Array.getElem?_toList, h8, h7, ← h9]
        rfl
      · simp [World.frozen?, hh]
    refine (D.run b cap xs.toArray W hH hgl (by simpa using hl)).mono ?_
    rintro e w' ⟨rfl, d', n, os, hp, hso, rfl⟩
    simp only [List.size_toArray] at hp hso
    have hds : d'.size = xs.length := by have := hp.1; simpa using this
    have hpe : d'.toList.Perm xs := by
      have := hp.2.2
      have e1 : d'.extract 0 xs.length = d' := by rw [← hds]; simp
      rw [e1] at this
      simpa using this
    have hlen : d'.toList.length = xs.length := by simpa using hds
    have hsz : (flatK enc k d').size = xs.length * k := by rw [size_flatK, hds]
    have hother : ∀ i, i ≠ b → i < W.heap.size → (sortWorldK enc k W b 0 n d' os).heap[i]? = W.heap[i]? := fun i hi hlt => by
      unfold sortWorldK putRowK putRow mapBlock grow Sort.ahead
      simp only
      rw [Array.getElem?_append_left (by simpa using hlt), Array.getElem?_modify, if_neg (fun e => hi e.symm)]
    have hrow : (sortWorldK enc k W b 0 n d' os).heap[b]? = some (.cells (putCells id 0 (flatK enc k d') cur) t (0, 0)) := by
      unfold sortWorldK putRowK putRow mapBlock grow Sort.ahead
      simp only
      rw [Array.getElem?_append_left (by simpa using hgl), Array.getElem?_modify, if_pos rfl, hh]
      rfl
    have hF : ((putCells id 0 (flatK enc k d') cur).toList.take (xs.length * k)) = (flatK enc k d').toList := by
      refine List.ext_getElem? (fun t => ?_)
      rw [List.getElem?_take]
      by_cases ht : t < xs.length * k
      · have hc : t < cur.size := by
          rw [h5]
          exact Nat.lt_of_lt_of_le ht (Nat.mul_le_mul_right k h3)
        rw [if_pos ht, Array.getElem?_toList, Array.getElem?_toList]
        unfold putCells
        rw [Array.getElem?_mapIdx, Array.getElem?_eq_getElem hc, Option.map_some, if_pos ⟨Nat.zero_le _, by rw [hsz]; omega⟩, Nat.sub_zero, Array.getElem?_eq_getElem (by rw [hsz]; exact ht), getElem!_pos (flatK enc k d') t (by rw [hsz]; exact ht)]
        rfl
      · rw [if_neg ht, List.getElem?_eq_none (by simp [hds]; omega)]
    have hpw : d'.toList.Pairwise (fun x y => ltOf c y x = false) := by
      rw [List.pairwise_iff_getElem]
      intro i j hi hj hij
      have hi' : i < d'.size := by simpa using hi
      have hj' : j < d'.size := by simpa using hj
      have := hso i j (Nat.zero_le _) hij (by rw [← hds]; exact hj')
      rw [getElem!_pos d' j hj', getElem!_pos d' i hi'] at this
      simpa using this
    have hsk : κ.sz = k := D.sz
    refine ⟨rfl, d'.toList, hpe, hpw, ⟨ho, (flatK enc k d').toList, ⟨?_, Or.inr ⟨b, cap, putCells id 0 (flatK enc k d') cur, ?_, hg, hrow, ?_, h4, ?_, ?_⟩⟩, ?_, fun j p hp => ?_⟩, ⟨rfl, rfl, rfl, ?_, fun i hi => hother i (by omega) (by omega)⟩, fun i hi hlt => hother i (fun e => hi (by rw [e]; rfl)) hlt⟩
    · rw [hsk, hlen]; simpa using hsz
    · rw [hlen]
    · rw [hlen]; exact h3
    · rw [hsk]
      unfold putCells
      rw [Array.size_mapIdx]
      exact h5
    · rw [hlen, hsk]; exact hF
    · rw [hsk, hlen]; simpa using hsz
    · have hj : j < d'.size := by
        rcases Nat.lt_or_ge j d'.size with h | h
        · exact h
        · rw [List.getElem?_eq_none (by simpa using h)] at hp; exact absurd hp (by simp)
      have hp2 : d'[j]! = p := by
        rw [Array.getElem?_toList, Array.getElem?_eq_getElem hj] at hp
        rw [getElem!_pos d' j hj]
        exact Option.some.inj hp
      have h7 := fun q hq => flat_at D.len d' j q hj hq
      rw [hp2] at h7
      have h8 := take_of (L := (flatK enc k d').toList) (e := enc p) (o := j * k) (fun q hq => h7 q (by rw [D.len] at hq; exact hq))
      rw [D.len] at h8
      rw [hsk, h8]
      exact D.mke _ _ _ p
    · unfold sortWorldK putRowK putRow mapBlock grow Sort.ahead
      simp
end
theorem ltOf_swo {α : Type} {c : α → α → Int} (h : GC c) : SWO (ltOf c) where
  irrefl x := by have := h.sw x x; unfold ltOf; rw [decide_eq_false_iff_not]; omega
  trans x y z h1 h2 := by unfold ltOf at *; rw [decide_eq_true_eq] at *; exact h.lt_le h1 (by omega)
  ntrans x y z h1 h2 := by
    unfold ltOf at *
    rw [decide_eq_false_iff_not] at *
    have a := h.sw x y
    have b := h.sw y z
    have d := h.sw x z
    have := h.tr z y x (by omega) (by omega)
    omega
/-- What is in order and all unlike is in the one order. -/
theorem sorted_srt {α : Type} {c : α → α → Int} (h : GC c) {xs ys : List α} (hp : ys.Perm xs) (hs : ys.Pairwise (fun x y => ltOf c y x = false)) (hn : xs.Pairwise (fun x y => c x y ≠ 0)) : ys = srt c xs := by
  have hn' : ys.Pairwise (fun x y => c x y ≠ 0) := (hp.symm.pairwise_iff (fun {x y} h1 h2 => h1 (by have := h.sw y x; omega))).1 hn
  have ha : Asc c ys := by
    refine (hs.and hn').imp fun {x y} h1 => ?_
    have h2 := h1.1
    unfold ltOf at h2
    rw [decide_eq_false_iff_not] at h2
    have h3 := h1.2
    have := h.sw x y
    omega
  exact asc_unique h _ _ ha (asc_srt h _ hn) (hp.trans (srt_perm xs).symm)
end Go.Proofs.YtmeaeapopfcmbaaGreat

namespace Go.Proofs.YtmeaeapopfcmbaaGreat
open Go.RowKit Go.Proofs.YtmeaeapopfcmbaaGreatW.PrintWords Go.Proofs.YtmeaeapopfcmbaaGreatW.PrintLast Go.Proofs.YtmeaeapopfcmbaaGreatW.PrintMore PP
set_option linter.unusedVariables false
set_option linter.unusedSimpArgs false
set_option maxHeartbeats 8000000
set_option maxRecDepth 100000
theorem litN (w : World) (xs : List Int) (h : xs.length ≤ 100 := by simp) : Kd.C (Kd.int .i64) (w.alloc (.cells (xs.map (Value.int .i64)).toArray 3)) (some ⟨w.heap.size, 0, none⟩) xs.length xs := by
  refine ⟨rfl, by omega, fun _ => ⟨_, rfl, fun j p hp => ?_⟩⟩
  have hb := blk_new w (.cells (xs.map (Value.int .i64)).toArray 3)
  refine ⟨[.int .i64 p], rfl, rfl, fun i u hu => ?_⟩
  match i, hu with
  | 0, hu =>
    obtain rfl := Option.some.inj hu
    show World.cell? _ (Addr.add ⟨w.heap.size, 0, none⟩ (j * 1 + 0)) = _
    rw [Addr.add_lit]
    refine (blk_cell hb _).trans ?_
    simp [hp]
  | i + 1, hu => exact absurd hu (by simp)
theorem strS (a b : ByteArray) (r : Int) (w : World) (h : strings_Compare.f a b = some r) : Calls Tryz.prog 141 #[.string a, .string b] w fun e w' => e = .returned (.int .i64 r) ∧ w' = w := by
  obtain rfl := Option.some.inj h
  exact stringsCompare_run a b w
theorem compareTags_gr (k : Nat) (a0_0 : Int) (a0_1 : ByteArray) (a0_2 : Int) (a0_3 : Int) (a1_0 : Int) (a1_1 : ByteArray) (a1_2 : Int) (a1_3 : Int) (t118 t119 t120 t121 t125 : Int) (w : World) (h0 : cmp_Compare_int.f a0_0 a1_0 = some t118) (h1 : strings_Compare.f a0_1 a1_1 = some t119) (h2 : cmp_Compare_int.f a0_2 a1_2 = some t120) (h3 : cmp_Compare_int.f a0_3 a1_3 = some t121) (hO : cmp_Or_int.f k [t118, t119, t120, t121] = some t125) :
    Calls Tryz.prog 98 #[.agg #[.int .i64 a0_0, .string a0_1, .int .i64 a0_2, .int .i64 a0_3], .agg #[.int .i64 a1_0, .string a1_1, .int .i64 a1_2, .int .i64 a1_3]] w fun e w' => e = .returned (.int .i64 t125) ∧ Gr w w' := by
  have hu99 := Tryz.underlying99
  have A3 := Aside0.mk h0
  have A4 := Aside0.mk h1
  have A5 := Aside0.mk h2
  have A6 := Aside0.mk h3
  have HO := Aside0.mk hO
  clear hO h0 h1 h2 h3
  have HG0 := Aside0.mk (Gr.refl w)
  go_enter Tryz.func98, Tryz.ntmps98
  go_wp2
  obtain ⟨W0, hW0⟩ : ∃ W0, W0 = (w.alloc (.cells #[.int .i64 a0_0, .string a0_1, .int .i64 a0_2, .int .i64 a0_3] 99)).alloc (.cells #[.int .i64 a1_0, .string a1_1, .int .i64 a1_2, .int .i64 a1_3] 99) := ⟨_, rfl⟩
  obtain ⟨gb116, hgb116⟩ : ∃ g, g = w.heap.size := ⟨_, rfl⟩
  have BK116 : Aside0 (W0.heap[gb116]? = some (.cells #[.int .i64 a0_0, .string a0_1, .int .i64 a0_2, .int .i64 a0_3] 99 (0, 0))) := ⟨by rw [hW0, hgb116]; exact blk_alloc (blk_new w _) _⟩
  have BK117 : Aside0 (W0.heap[gb116 + 1]? = some (.cells #[.int .i64 a1_0, .string a1_1, .int .i64 a1_2, .int .i64 a1_3] 99 (0, 0))) := ⟨by rw [hW0, hgb116]; exact (by simpa using blk_new (w.alloc (.cells #[.int .i64 a0_0, .string a0_1, .int .i64 a0_2, .int .i64 a0_3] 99)) (.cells #[.int .i64 a1_0, .string a1_1, .int .i64 a1_2, .int .i64 a1_3] 99))⟩
  have HG : Aside0 (Gr w W0) := ⟨by rw [hW0]; exact (HG0.out.alloc _).alloc _⟩
  rw [← hW0, ← hgb116]
  clear hW0 HG0 hgb116
  have n0_ := Aside0.mk (blk_drew BK116.out)
  have n1_ := Aside0.mk (blk_drew BK117.out)
  have n2_ := Aside0.mk HG.out.drew
  clear BK116 BK117 HG
  have BK116 := n0_
  have BK117 := n1_
  have HG := n2_
  clear n0_ n1_ n2_
  refine start_ (n := 27) (S := fun w' => w'.cell? ⟨gb116, 0, none⟩ = some (.int .i64 a0_0) ∧ w'.cell? ⟨gb116, 1, none⟩ = some (.string a0_1) ∧ w'.cell? ⟨gb116, 2, none⟩ = some (.int .i64 a0_2) ∧ w'.cell? ⟨gb116, 3, none⟩ = some (.int .i64 a0_3) ∧ w'.cell? ⟨(gb116 + 1), 0, none⟩ = some (.int .i64 a1_0) ∧ w'.cell? ⟨(gb116 + 1), 1, none⟩ = some (.string a1_1) ∧ w'.cell? ⟨(gb116 + 1), 2, none⟩ = some (.int .i64 a1_2) ∧ w'.cell? ⟨(gb116 + 1), 3, none⟩ = some (.int .i64 a1_3)) (ds := []) #[false, false, false, false, false, false, false, false, false, false, false, false, false, false, false, false, false, false, false, false, false, false, false, false, false, false, false] (by kernel_rfl) rfl rfl ⟨(blk_cell BK116.out 0).trans rfl, (blk_cell BK116.out 1).trans rfl, (blk_cell BK116.out 2).trans rfl, (blk_cell BK116.out 3).trans rfl, (blk_cell BK117.out 0).trans rfl, (blk_cell BK117.out 1).trans rfl, (blk_cell BK117.out 2).trans rfl, (blk_cell BK117.out 3).trans rfl⟩ (fun hHeld => ?_); refine with_tabW replica_compareTags.tab1 replica_compareTags.bits1 (fun HT_ HW_ => ?_)
  generalize W0.drew = w10 at BK116 BK117 HG hHeld ⊢
  refine pure_ (i := 0) (N := some 5) (v := ?_) (a' := ?_) #[true, false, false, false, false, false, false, false, false, false, false, false, false, false, false, false, false, false, false, false, false, false, false, false, false, false, false] rfl rfl (any_of HT_.out (by kernel_rfl)) (fun _ _ _ h => h) (Or.inl ⟨by rfl, ?_⟩) ?_ ?_
  rotate_left
  · intro w'
    go_simp
    with_reducible rfl
  rotate_left
  · simp only [Act.put, List.setIfInBounds_toArray, List.set_cons_zero, List.set_cons_succ, i64_w, i32_w]
    rfl
  refine pure_ (i := 2) (N := some 7) (v := ?_) (a' := ?_) #[true, false, true, false, false, false, false, false, false, false, false, false, false, false, false, false, false, false, false, false, false, false, false, false, false, false, false] rfl rfl (any_of HT_.out (by kernel_rfl)) (fun _ _ _ h => h) (Or.inl ⟨by rfl, ?_⟩) ?_ ?_
  rotate_left
  · intro w'
    go_simp
    with_reducible rfl
  rotate_left
  · simp only [Act.put, List.setIfInBounds_toArray, List.set_cons_zero, List.set_cons_succ, i64_w, i32_w]
    rfl
  refine pure_ (i := 5) (N := some 10) (v := ?_) (a' := ?_) #[true, false, true, false, false, true, false, false, false, false, false, false, false, false, false, false, false, false, false, false, false, false, false, false, false, false, false] rfl rfl (any_of HT_.out (by kernel_rfl)) (fun _ _ _ h => h) (Or.inl ⟨by rfl, ?_⟩) ?_ ?_
  rotate_left
  · intro w'
    go_simp
    with_reducible rfl
  rotate_left
  · simp only [Act.put, List.setIfInBounds_toArray, List.set_cons_zero, List.set_cons_succ, i64_w, i32_w]
    rfl
  refine pure_ (i := 7) (N := some 12) (v := ?_) (a' := ?_) #[true, false, true, false, false, true, false, true, false, false, false, false, false, false, false, false, false, false, false, false, false, false, false, false, false, false, false] rfl rfl (any_of HT_.out (by kernel_rfl)) (fun _ _ _ h => h) (Or.inl ⟨by rfl, ?_⟩) ?_ ?_
  rotate_left
  · intro w'
    go_simp
    with_reducible rfl
  rotate_left
  · simp only [Act.put, List.setIfInBounds_toArray, List.set_cons_zero, List.set_cons_succ, i64_w, i32_w]
    rfl
  refine pure_ (i := 10) (N := some 15) (v := ?_) (a' := ?_) #[true, false, true, false, false, true, false, true, false, false, true, false, false, false, false, false, false, false, false, false, false, false, false, false, false, false, false] rfl rfl (any_of HT_.out (by kernel_rfl)) (fun _ _ _ h => h) (Or.inl ⟨by rfl, ?_⟩) ?_ ?_
  rotate_left
  · intro w'
    go_simp
    with_reducible rfl
  rotate_left
  · simp only [Act.put, List.setIfInBounds_toArray, List.set_cons_zero, List.set_cons_succ, i64_w, i32_w]
    rfl
  refine pure_ (i := 11) (N := some 16) (v := ?_) (a' := ?_) #[true, false, true, false, false, true, false, true, false, false, true, true, false, false, false, false, false, false, false, false, false, false, false, false, false, false, false] rfl rfl (any_of HT_.out (by kernel_rfl)) (fun _ _ _ h => h) (Or.inl ⟨by rfl, ?_⟩) ?_ ?_
  rotate_left
  · intro w'
    go_simp
    with_reducible rfl
  rotate_left
  · simp only [Act.put, List.setIfInBounds_toArray, List.set_cons_zero, List.set_cons_succ, i64_w, i32_w]
    rfl
  refine pure_ (i := 13) (N := some 18) (v := ?_) (a' := ?_) #[true, false, true, false, false, true, false, true, false, false, true, true, false, true, false, false, false, false, false, false, false, false, false, false, false, false, false] rfl rfl (any_of HT_.out (by kernel_rfl)) (fun _ _ _ h => h) (Or.inl ⟨by rfl, ?_⟩) ?_ ?_
  rotate_left
  · intro w'
    go_simp
    with_reducible rfl
  rotate_left
  · simp only [Act.put, List.setIfInBounds_toArray, List.set_cons_zero, List.set_cons_succ, i64_w, i32_w]
    rfl
  refine pure_ (i := 14) (N := some 19) (v := ?_) (a' := ?_) #[true, false, true, false, false, true, false, true, false, false, true, true, false, true, true, false, false, false, false, false, false, false, false, false, false, false, false] rfl rfl (any_of HT_.out (by kernel_rfl)) (fun _ _ _ h => h) (Or.inl ⟨by rfl, ?_⟩) ?_ ?_
  rotate_left
  · intro w'
    go_simp
    with_reducible rfl
  rotate_left
  · simp only [Act.put, List.setIfInBounds_toArray, List.set_cons_zero, List.set_cons_succ, i64_w, i32_w]
    rfl
  refine pure_ (i := 17) (N := some 22) (v := ?_) (a' := ?_) #[true, false, true, false, false, true, false, true, false, false, true, true, false, true, true, false, false, true, false, false, false, false, false, false, false, false, false] rfl rfl (any_of HT_.out (by kernel_rfl)) (fun _ _ _ h => h) (Or.inl ⟨by rfl, ?_⟩) ?_ ?_
  rotate_left
  · intro w'
    go_simp
    with_reducible rfl
  rotate_left
  · simp only [Act.put, List.setIfInBounds_toArray, List.set_cons_zero, List.set_cons_succ, i64_w, i32_w]
    rfl
  refine pure_ (i := 18) (N := some 23) (v := ?_) (a' := ?_) #[true, false, true, false, false, true, false, true, false, false, true, true, false, true, true, false, false, true, true, false, false, false, false, false, false, false, false] rfl rfl (any_of HT_.out (by kernel_rfl)) (fun _ _ _ h => h) (Or.inl ⟨by rfl, ?_⟩) ?_ ?_
  rotate_left
  · intro w'
    go_simp
    with_reducible rfl
  rotate_left
  · simp only [Act.put, List.setIfInBounds_toArray, List.set_cons_zero, List.set_cons_succ, i64_w, i32_w]
    rfl
  refine pure_ (i := 20) (N := some 25) (v := ?_) (a' := ?_) #[true, false, true, false, false, true, false, true, false, false, true, true, false, true, true, false, false, true, true, false, true, false, false, false, false, false, false] rfl rfl (any_of HT_.out (by kernel_rfl)) (fun _ _ _ h => h) (Or.inl ⟨by rfl, ?_⟩) ?_ ?_
  rotate_left
  · intro w'
    go_simp
    with_reducible rfl
  rotate_left
  · simp only [Act.put, List.setIfInBounds_toArray, List.set_cons_zero, List.set_cons_succ, i64_w, i32_w]
    rfl
  refine pure_ (i := 21) (N := some 26) (v := ?_) (a' := ?_) #[true, false, true, false, false, true, false, true, false, false, true, true, false, true, true, false, false, true, true, false, true, true, false, false, false, false, false] rfl rfl (any_of HT_.out (by kernel_rfl)) (fun _ _ _ h => h) (Or.inl ⟨by rfl, ?_⟩) ?_ ?_
  rotate_left
  · intro w'
    go_simp
    with_reducible rfl
  rotate_left
  · simp only [Act.put, List.setIfInBounds_toArray, List.set_cons_zero, List.set_cons_succ, i64_w, i32_w]
    rfl
  refine take_ (i := 1) (N := some 6) (v := ?_) (a' := ?_) #[true, true, true, false, false, true, false, true, false, false, true, true, false, true, true, false, false, true, true, false, true, true, false, false, false, false, false] rfl rfl (take_ofW HT_.out HW_.out (by kernel_rfl)) (fun _ _ _ h => h) (Or.inl ⟨by rfl, ?_⟩) hHeld ?_ ?_
  rotate_left
  · rintro w' ⟨s0, s1, s2, s3, s4, s5, s6, s7⟩
    go_simp
    with_reducible rfl
  rotate_left
  · simp only [Act.put, List.setIfInBounds_toArray, List.set_cons_zero, List.set_cons_succ, i64_w, i32_w]
    rfl
  refine take_ (i := 3) (N := some 8) (v := ?_) (a' := ?_) #[true, true, true, true, false, true, false, true, false, false, true, true, false, true, true, false, false, true, true, false, true, true, false, false, false, false, false] rfl rfl (take_ofW HT_.out HW_.out (by kernel_rfl)) (fun _ _ _ h => h) (Or.inl ⟨by rfl, ?_⟩) hHeld ?_ ?_
  rotate_left
  · rintro w' ⟨s0, s1, s2, s3, s4, s5, s6, s7⟩
    go_simp
    with_reducible rfl
  rotate_left
  · simp only [Act.put, List.setIfInBounds_toArray, List.set_cons_zero, List.set_cons_succ, i64_w, i32_w]
    rfl
  refine take_ (i := 6) (N := some 11) (v := ?_) (a' := ?_) #[true, true, true, true, false, true, true, true, false, false, true, true, false, true, true, false, false, true, true, false, true, true, false, false, false, false, false] rfl rfl (take_ofW HT_.out HW_.out (by kernel_rfl)) (fun _ _ _ h => h) (Or.inl ⟨by rfl, ?_⟩) hHeld ?_ ?_
  rotate_left
  · rintro w' ⟨s0, s1, s2, s3, s4, s5, s6, s7⟩
    go_simp
    with_reducible rfl
  rotate_left
  · simp only [Act.put, List.setIfInBounds_toArray, List.set_cons_zero, List.set_cons_succ, i64_w, i32_w]
    rfl
  refine take_ (i := 8) (N := some 13) (v := ?_) (a' := ?_) #[true, true, true, true, false, true, true, true, true, false, true, true, false, true, true, false, false, true, true, false, true, true, false, false, false, false, false] rfl rfl (take_ofW HT_.out HW_.out (by kernel_rfl)) (fun _ _ _ h => h) (Or.inl ⟨by rfl, ?_⟩) hHeld ?_ ?_
  rotate_left
  · rintro w' ⟨s0, s1, s2, s3, s4, s5, s6, s7⟩
    go_simp
    with_reducible rfl
  rotate_left
  · simp only [Act.put, List.setIfInBounds_toArray, List.set_cons_zero, List.set_cons_succ, i64_w, i32_w]
    rfl
  refine take_ (i := 12) (N := some 17) (v := ?_) (a' := ?_) #[true, true, true, true, false, true, true, true, true, false, true, true, true, true, true, false, false, true, true, false, true, true, false, false, false, false, false] rfl rfl (take_ofW HT_.out HW_.out (by kernel_rfl)) (fun _ _ _ h => h) (Or.inl ⟨by rfl, ?_⟩) hHeld ?_ ?_
  rotate_left
  · rintro w' ⟨s0, s1, s2, s3, s4, s5, s6, s7⟩
    go_simp
    with_reducible rfl
  rotate_left
  · simp only [Act.put, List.setIfInBounds_toArray, List.set_cons_zero, List.set_cons_succ, i64_w, i32_w]
    rfl
  refine take_ (i := 15) (N := some 20) (v := ?_) (a' := ?_) #[true, true, true, true, false, true, true, true, true, false, true, true, true, true, true, true, false, true, true, false, true, true, false, false, false, false, false] rfl rfl (take_ofW HT_.out HW_.out (by kernel_rfl)) (fun _ _ _ h => h) (Or.inl ⟨by rfl, ?_⟩) hHeld ?_ ?_
  rotate_left
  · rintro w' ⟨s0, s1, s2, s3, s4, s5, s6, s7⟩
    go_simp
    with_reducible rfl
  rotate_left
  · simp only [Act.put, List.setIfInBounds_toArray, List.set_cons_zero, List.set_cons_succ, i64_w, i32_w]
    rfl
  refine take_ (i := 19) (N := some 24) (v := ?_) (a' := ?_) #[true, true, true, true, false, true, true, true, true, false, true, true, true, true, true, true, false, true, true, true, true, true, false, false, false, false, false] rfl rfl (take_ofW HT_.out HW_.out (by kernel_rfl)) (fun _ _ _ h => h) (Or.inl ⟨by rfl, ?_⟩) hHeld ?_ ?_
  rotate_left
  · rintro w' ⟨s0, s1, s2, s3, s4, s5, s6, s7⟩
    go_simp
    with_reducible rfl
  rotate_left
  · simp only [Act.put, List.setIfInBounds_toArray, List.set_cons_zero, List.set_cons_succ, i64_w, i32_w]
    rfl
  refine take_ (i := 22) (N := some 27) (v := ?_) (a' := ?_) #[true, true, true, true, false, true, true, true, true, false, true, true, true, true, true, true, false, true, true, true, true, true, true, false, false, false, false] rfl rfl (take_ofW HT_.out HW_.out (by kernel_rfl)) (fun _ _ _ h => h) (Or.inl ⟨by rfl, ?_⟩) hHeld ?_ ?_
  rotate_left
  · rintro w' ⟨s0, s1, s2, s3, s4, s5, s6, s7⟩
    go_simp
    with_reducible rfl
  rotate_left
  · simp only [Act.put, List.setIfInBounds_toArray, List.set_cons_zero, List.set_cons_succ, i64_w, i32_w]
    rfl
  refine one_ (i := 4) (N := some 9) #[true, true, true, true, true, true, true, true, true, false, true, true, true, true, true, true, false, true, true, true, true, true, true, false, false, false, false] rfl rfl (one_of HT_.out (by kernel_rfl)) (by decide) (fun K hK => ?_)
  refine goes_ Tryz.func102 (by kernel_rfl) rfl #[.int .i64 a0_0, .int .i64 a1_0] (by rfl) rfl rfl (by (try simp only [List.map_toArray, List.map_cons, List.map_nil]); first | done | rfl | (simp only [List.length_drop, List.length_take]; rfl)) ?_
  with_reducible refine (cmp_Compare_int.calls a0_0 a1_0 t118 _ A3.out).mono ?_
  rintro e w' ⟨rfl, ⟨n0, rfl⟩⟩
  refine ⟨_, rfl, ?_⟩
  refine hK.out _ _ ⟨(blk_cell BK116.out 0).trans rfl, (blk_cell BK116.out 1).trans rfl, (blk_cell BK116.out 2).trans rfl, (blk_cell BK116.out 3).trans rfl, (blk_cell BK117.out 0).trans rfl, (blk_cell BK117.out 1).trans rfl, (blk_cell BK117.out 2).trans rfl, (blk_cell BK117.out 3).trans rfl⟩ (fun hHeld => ?_)
  clear hK K
  refine norm_ (a' := ?_) ?_ ?_
  rotate_left
  · show Act.put _ (some 9) _ = _
    simp only [Act.put, List.setIfInBounds_toArray, List.set_cons_zero, List.set_cons_succ, i64_w, i32_w]
    rfl
  refine one_ (i := 9) (N := some 14) #[true, true, true, true, true, true, true, true, true, true, true, true, true, true, true, true, false, true, true, true, true, true, true, false, false, false, false] rfl rfl (one_of HT_.out (by kernel_rfl)) (by decide) (fun K hK => ?_)
  refine goes_ Tryz.func141 (by kernel_rfl) rfl #[.string a0_1, .string a1_1] (by rfl) rfl rfl (by (try simp only [List.map_toArray, List.map_cons, List.map_nil]); first | done | rfl | (simp only [List.length_drop, List.length_take]; rfl)) ?_
  with_reducible refine (strS a0_1 a1_1 t119 _ A4.out).mono ?_
  rintro e w' ⟨rfl, rfl⟩
  refine ⟨_, rfl, ?_⟩
  refine hK.out _ _ ⟨(blk_cell BK116.out 0).trans rfl, (blk_cell BK116.out 1).trans rfl, (blk_cell BK116.out 2).trans rfl, (blk_cell BK116.out 3).trans rfl, (blk_cell BK117.out 0).trans rfl, (blk_cell BK117.out 1).trans rfl, (blk_cell BK117.out 2).trans rfl, (blk_cell BK117.out 3).trans rfl⟩ (fun hHeld => ?_)
  clear hK K
  refine norm_ (a' := ?_) ?_ ?_
  rotate_left
  · show Act.put _ (some 14) _ = _
    simp only [Act.put, List.setIfInBounds_toArray, List.set_cons_zero, List.set_cons_succ, i64_w, i32_w]
    rfl
  refine one_ (i := 16) (N := some 21) #[true, true, true, true, true, true, true, true, true, true, true, true, true, true, true, true, true, true, true, true, true, true, true, false, false, false, false] rfl rfl (one_of HT_.out (by kernel_rfl)) (by decide) (fun K hK => ?_)
  refine goes_ Tryz.func102 (by kernel_rfl) rfl #[.int .i64 a0_2, .int .i64 a1_2] (by rfl) rfl rfl (by (try simp only [List.map_toArray, List.map_cons, List.map_nil]); first | done | rfl | (simp only [List.length_drop, List.length_take]; rfl)) ?_
  with_reducible refine (cmp_Compare_int.calls a0_2 a1_2 t120 _ A5.out).mono ?_
  rintro e w' ⟨rfl, ⟨n1, rfl⟩⟩
  refine ⟨_, rfl, ?_⟩
  refine hK.out _ _ ⟨(blk_cell BK116.out 0).trans rfl, (blk_cell BK116.out 1).trans rfl, (blk_cell BK116.out 2).trans rfl, (blk_cell BK116.out 3).trans rfl, (blk_cell BK117.out 0).trans rfl, (blk_cell BK117.out 1).trans rfl, (blk_cell BK117.out 2).trans rfl, (blk_cell BK117.out 3).trans rfl⟩ (fun hHeld => ?_)
  clear hK K
  refine norm_ (a' := ?_) ?_ ?_
  rotate_left
  · show Act.put _ (some 21) _ = _
    simp only [Act.put, List.setIfInBounds_toArray, List.set_cons_zero, List.set_cons_succ, i64_w, i32_w]
    rfl
  refine one_ (i := 23) (N := some 28) #[true, true, true, true, true, true, true, true, true, true, true, true, true, true, true, true, true, true, true, true, true, true, true, true, false, false, false] rfl rfl (one_of HT_.out (by kernel_rfl)) (by decide) (fun K hK => ?_)
  refine goes_ Tryz.func102 (by kernel_rfl) rfl #[.int .i64 a0_3, .int .i64 a1_3] (by rfl) rfl rfl (by (try simp only [List.map_toArray, List.map_cons, List.map_nil]); first | done | rfl | (simp only [List.length_drop, List.length_take]; rfl)) ?_
  with_reducible refine (cmp_Compare_int.calls a0_3 a1_3 t121 _ A6.out).mono ?_
  rintro e w' ⟨rfl, ⟨n2, rfl⟩⟩
  refine ⟨_, rfl, ?_⟩
  refine hK.out _ _ ⟨(blk_cell BK116.out 0).trans rfl, (blk_cell BK116.out 1).trans rfl, (blk_cell BK116.out 2).trans rfl, (blk_cell BK116.out 3).trans rfl, (blk_cell BK117.out 0).trans rfl, (blk_cell BK117.out 1).trans rfl, (blk_cell BK117.out 2).trans rfl, (blk_cell BK117.out 3).trans rfl⟩ (fun hHeld => ?_)
  clear hK K
  refine norm_ (a' := ?_) ?_ ?_
  rotate_left
  · show Act.put _ (some 28) _ = _
    simp only [Act.put, List.setIfInBounds_toArray, List.set_cons_zero, List.set_cons_succ, i64_w, i32_w]
    rfl
  refine one_ (i := 24) (N := some 29) #[true, true, true, true, true, true, true, true, true, true, true, true, true, true, true, true, true, true, true, true, true, true, true, true, true, false, false] rfl rfl (one_of HT_.out (by kernel_rfl)) (by decide) (fun K hK => ?_)
  refine event_step (by rfl) (v := .slice (some ⟨w10.heap.size, 0, none⟩) 4 4) (w1 := World.alloc (w10.drewN (n0 + n1 + n2)) (.cells #[.int .i64 t118, .int .i64 t119, .int .i64 t120, .int .i64 t121] 3)) (by first | (go_simp; done) | (go_simp; rfl)) ?_
  have n0_ := Aside0.mk (blk_alloc (blk_drewN BK116.out (n0 + n1 + n2)) (.cells #[.int .i64 t118, .int .i64 t119, .int .i64 t120, .int .i64 t121] 3))
  have n1_ := Aside0.mk (blk_alloc (blk_drewN BK117.out (n0 + n1 + n2)) (.cells #[.int .i64 t118, .int .i64 t119, .int .i64 t120, .int .i64 t121] 3))
  have n2_ := Aside0.mk ((HG.out.drewN (n0 + n1 + n2)).alloc (.cells #[.int .i64 t118, .int .i64 t119, .int .i64 t120, .int .i64 t121] 3))
  have n3_ := Aside0.mk (litN (w10.drewN (n0 + n1 + n2)) [t118, t119, t120, t121])
  clear BK116 BK117 HG
  have BK116 := n0_
  have BK117 := n1_
  have HG := n2_
  have HC3 := n3_
  clear n0_ n1_ n2_ n3_
  refine hK.out _ _ ⟨(blk_cell BK116.out 0).trans rfl, (blk_cell BK116.out 1).trans rfl, (blk_cell BK116.out 2).trans rfl, (blk_cell BK116.out 3).trans rfl, (blk_cell BK117.out 0).trans rfl, (blk_cell BK117.out 1).trans rfl, (blk_cell BK117.out 2).trans rfl, (blk_cell BK117.out 3).trans rfl⟩ (fun hHeld => ?_)
  clear hK K
  refine norm_ (a' := ?_) ?_ ?_
  rotate_left
  · show Act.put _ (some 29) _ = _
    simp only [Act.put, List.setIfInBounds_toArray, List.set_cons_zero, List.set_cons_succ, i64_w, i32_w]
    rfl
  refine one_ (i := 25) (N := some 30) #[true, true, true, true, true, true, true, true, true, true, true, true, true, true, true, true, true, true, true, true, true, true, true, true, true, true, false] rfl rfl (one_of HT_.out (by kernel_rfl)) (by decide) (fun K hK => ?_)
  refine goes_ Tryz.func140 (by kernel_rfl) rfl #[.slice (some ⟨w10.heap.size, 0, none⟩) 4 4] (by rfl) rfl rfl (by first | rfl | (simp only [List.map_toArray, List.map_cons, List.map_nil]; rfl)) ?_
  refine Calls.mono (show Calls Tryz.prog 140 #[.slice (some ⟨w10.heap.size, 0, none⟩) 4 4] (World.alloc (w10.drewN (n0 + n1 + n2)) (.cells #[.int .i64 t118, .int .i64 t119, .int .i64 t120, .int .i64 t121] 3)) (fun e w' => e = .returned (.int .i64 t125) ∧ Drawn0 (World.alloc (w10.drewN (n0 + n1 + n2)) (.cells #[.int .i64 t118, .int .i64 t119, .int .i64 t120, .int .i64 t121] 3)) w') from cmp_Or_int.calls k _ 4 [t118, t119, t120, t121] t125 _ HC3.out (Nat.le_refl _) HO.out) ?_
  rintro e w' ⟨rfl, ⟨n9, rfl⟩⟩
  refine ⟨_, rfl, ?_⟩
  refine hK.out _ _ ⟨(blk_cell BK116.out 0).trans rfl, (blk_cell BK116.out 1).trans rfl, (blk_cell BK116.out 2).trans rfl, (blk_cell BK116.out 3).trans rfl, (blk_cell BK117.out 0).trans rfl, (blk_cell BK117.out 1).trans rfl, (blk_cell BK117.out 2).trans rfl, (blk_cell BK117.out 3).trans rfl⟩ (fun hHeld => ?_)
  clear hK K
  refine norm_ (a' := ?_) ?_ ?_
  rotate_left
  · show Act.put _ (some 30) _ = _
    simp only [Act.put, List.setIfInBounds_toArray, List.set_cons_zero, List.set_cons_succ, i64_w, i32_w]
    rfl
  refine pure_ (i := 26) (N := some 4) (v := ?_) (a' := ?_) #[true, true, true, true, true, true, true, true, true, true, true, true, true, true, true, true, true, true, true, true, true, true, true, true, true, true, true] rfl rfl (any_of HT_.out (by kernel_rfl)) (fun _ _ _ h => h) (Or.inl ⟨by rfl, ?_⟩) ?_ ?_
  rotate_left
  · intro w'
    go_simp
    with_reducible rfl
  rotate_left
  · simp only [Act.put, List.setIfInBounds_toArray, List.set_cons_zero, List.set_cons_succ, i64_w, i32_w]
    rfl
  refine done_ (done_of HT_.out (by kernel_rfl)) ?_
  try go_wp2
  go_ret
  exact ⟨rfl, HG.out.drewN _⟩
theorem compareRights_gr (k : Nat) (a0_0 : Int) (a0_1 : Int) (a0_2 : Int) (a0_3 : Int) (a1_0 : Int) (a1_1 : Int) (a1_2 : Int) (a1_3 : Int) (t128 t129 t130 t134 : Int) (w : World) (h0 : cmp_Compare_int.f a0_0 a1_0 = some t128) (h1 : cmp_Compare_int.f a0_1 a1_1 = some t129) (h2 : cmp_Compare_int.f a0_2 a1_2 = some t130) (hO : cmp_Or_int.f k [t128, t129, t130] = some t134) :
    Calls Tryz.prog 107 #[.agg #[.int .i64 a0_0, .int .i64 a0_1, .int .i64 a0_2, .int .i64 a0_3], .agg #[.int .i64 a1_0, .int .i64 a1_1, .int .i64 a1_2, .int .i64 a1_3]] w fun e w' => e = .returned (.int .i64 t134) ∧ Gr w w' := by
  have hu108 := Tryz.underlying108
  have A3 := Aside0.mk h0
  have A4 := Aside0.mk h1
  have A5 := Aside0.mk h2
  have HO := Aside0.mk hO
  clear hO h0 h1 h2
  have HG0 := Aside0.mk (Gr.refl w)
  go_enter Tryz.func107, Tryz.ntmps107
  go_wp2
  obtain ⟨W0, hW0⟩ : ∃ W0, W0 = (w.alloc (.cells #[.int .i64 a0_0, .int .i64 a0_1, .int .i64 a0_2, .int .i64 a0_3] 108)).alloc (.cells #[.int .i64 a1_0, .int .i64 a1_1, .int .i64 a1_2, .int .i64 a1_3] 108) := ⟨_, rfl⟩
  obtain ⟨gb126, hgb126⟩ : ∃ g, g = w.heap.size := ⟨_, rfl⟩
  have BK126 : Aside0 (W0.heap[gb126]? = some (.cells #[.int .i64 a0_0, .int .i64 a0_1, .int .i64 a0_2, .int .i64 a0_3] 108 (0, 0))) := ⟨by rw [hW0, hgb126]; exact blk_alloc (blk_new w _) _⟩
  have BK127 : Aside0 (W0.heap[gb126 + 1]? = some (.cells #[.int .i64 a1_0, .int .i64 a1_1, .int .i64 a1_2, .int .i64 a1_3] 108 (0, 0))) := ⟨by rw [hW0, hgb126]; exact (by simpa using blk_new (w.alloc (.cells #[.int .i64 a0_0, .int .i64 a0_1, .int .i64 a0_2, .int .i64 a0_3] 108)) (.cells #[.int .i64 a1_0, .int .i64 a1_1, .int .i64 a1_2, .int .i64 a1_3] 108))⟩
  have HG : Aside0 (Gr w W0) := ⟨by rw [hW0]; exact (HG0.out.alloc _).alloc _⟩
  rw [← hW0, ← hgb126]
  clear hW0 HG0 hgb126
  have n0_ := Aside0.mk (blk_drew BK126.out)
  have n1_ := Aside0.mk (blk_drew BK127.out)
  have n2_ := Aside0.mk HG.out.drew
  clear BK126 BK127 HG
  have BK126 := n0_
  have BK127 := n1_
  have HG := n2_
  clear n0_ n1_ n2_
  refine start_ (n := 18) (S := fun w' => w'.cell? ⟨gb126, 0, none⟩ = some (.int .i64 a0_0) ∧ w'.cell? ⟨gb126, 1, none⟩ = some (.int .i64 a0_1) ∧ w'.cell? ⟨gb126, 2, none⟩ = some (.int .i64 a0_2) ∧ w'.cell? ⟨gb126, 3, none⟩ = some (.int .i64 a0_3) ∧ w'.cell? ⟨(gb126 + 1), 0, none⟩ = some (.int .i64 a1_0) ∧ w'.cell? ⟨(gb126 + 1), 1, none⟩ = some (.int .i64 a1_1) ∧ w'.cell? ⟨(gb126 + 1), 2, none⟩ = some (.int .i64 a1_2) ∧ w'.cell? ⟨(gb126 + 1), 3, none⟩ = some (.int .i64 a1_3)) (ds := []) #[false, false, false, false, false, false, false, false, false, false, false, false, false, false, false, false, false, false] (by kernel_rfl) rfl rfl ⟨(blk_cell BK126.out 0).trans rfl, (blk_cell BK126.out 1).trans rfl, (blk_cell BK126.out 2).trans rfl, (blk_cell BK126.out 3).trans rfl, (blk_cell BK127.out 0).trans rfl, (blk_cell BK127.out 1).trans rfl, (blk_cell BK127.out 2).trans rfl, (blk_cell BK127.out 3).trans rfl⟩ (fun hHeld => ?_); refine with_tabW replica_compareRights.tab1 replica_compareRights.bits1 (fun HT_ HW_ => ?_)
  generalize W0.drew = w9 at BK126 BK127 HG hHeld ⊢
  refine pure_ (i := 0) (N := some 5) (v := ?_) (a' := ?_) #[true, false, false, false, false, false, false, false, false, false, false, false, false, false, false, false, false, false] rfl rfl (any_of HT_.out (by kernel_rfl)) (fun _ _ _ h => h) (Or.inl ⟨by rfl, ?_⟩) ?_ ?_
  rotate_left
  · intro w'
    go_simp
    with_reducible rfl
  rotate_left
  · simp only [Act.put, List.setIfInBounds_toArray, List.set_cons_zero, List.set_cons_succ, i64_w, i32_w]
    rfl
  refine pure_ (i := 2) (N := some 7) (v := ?_) (a' := ?_) #[true, false, true, false, false, false, false, false, false, false, false, false, false, false, false, false, false, false] rfl rfl (any_of HT_.out (by kernel_rfl)) (fun _ _ _ h => h) (Or.inl ⟨by rfl, ?_⟩) ?_ ?_
  rotate_left
  · intro w'
    go_simp
    with_reducible rfl
  rotate_left
  · simp only [Act.put, List.setIfInBounds_toArray, List.set_cons_zero, List.set_cons_succ, i64_w, i32_w]
    rfl
  refine pure_ (i := 5) (N := some 10) (v := ?_) (a' := ?_) #[true, false, true, false, false, true, false, false, false, false, false, false, false, false, false, false, false, false] rfl rfl (any_of HT_.out (by kernel_rfl)) (fun _ _ _ h => h) (Or.inl ⟨by rfl, ?_⟩) ?_ ?_
  rotate_left
  · intro w'
    go_simp
    with_reducible rfl
  rotate_left
  · simp only [Act.put, List.setIfInBounds_toArray, List.set_cons_zero, List.set_cons_succ, i64_w, i32_w]
    rfl
  refine pure_ (i := 7) (N := some 12) (v := ?_) (a' := ?_) #[true, false, true, false, false, true, false, true, false, false, false, false, false, false, false, false, false, false] rfl rfl (any_of HT_.out (by kernel_rfl)) (fun _ _ _ h => h) (Or.inl ⟨by rfl, ?_⟩) ?_ ?_
  rotate_left
  · intro w'
    go_simp
    with_reducible rfl
  rotate_left
  · simp only [Act.put, List.setIfInBounds_toArray, List.set_cons_zero, List.set_cons_succ, i64_w, i32_w]
    rfl
  refine pure_ (i := 10) (N := some 15) (v := ?_) (a' := ?_) #[true, false, true, false, false, true, false, true, false, false, true, false, false, false, false, false, false, false] rfl rfl (any_of HT_.out (by kernel_rfl)) (fun _ _ _ h => h) (Or.inl ⟨by rfl, ?_⟩) ?_ ?_
  rotate_left
  · intro w'
    go_simp
    with_reducible rfl
  rotate_left
  · simp only [Act.put, List.setIfInBounds_toArray, List.set_cons_zero, List.set_cons_succ, i64_w, i32_w]
    rfl
  refine pure_ (i := 12) (N := some 17) (v := ?_) (a' := ?_) #[true, false, true, false, false, true, false, true, false, false, true, false, true, false, false, false, false, false] rfl rfl (any_of HT_.out (by kernel_rfl)) (fun _ _ _ h => h) (Or.inl ⟨by rfl, ?_⟩) ?_ ?_
  rotate_left
  · intro w'
    go_simp
    with_reducible rfl
  rotate_left
  · simp only [Act.put, List.setIfInBounds_toArray, List.set_cons_zero, List.set_cons_succ, i64_w, i32_w]
    rfl
  refine take_ (i := 1) (N := some 6) (v := ?_) (a' := ?_) #[true, true, true, false, false, true, false, true, false, false, true, false, true, false, false, false, false, false] rfl rfl (take_ofW HT_.out HW_.out (by kernel_rfl)) (fun _ _ _ h => h) (Or.inl ⟨by rfl, ?_⟩) hHeld ?_ ?_
  rotate_left
  · rintro w' ⟨s0, s1, s2, s3, s4, s5, s6, s7⟩
    go_simp
    with_reducible rfl
  rotate_left
  · simp only [Act.put, List.setIfInBounds_toArray, List.set_cons_zero, List.set_cons_succ, i64_w, i32_w]
    rfl
  refine take_ (i := 3) (N := some 8) (v := ?_) (a' := ?_) #[true, true, true, true, false, true, false, true, false, false, true, false, true, false, false, false, false, false] rfl rfl (take_ofW HT_.out HW_.out (by kernel_rfl)) (fun _ _ _ h => h) (Or.inl ⟨by rfl, ?_⟩) hHeld ?_ ?_
  rotate_left
  · rintro w' ⟨s0, s1, s2, s3, s4, s5, s6, s7⟩
    go_simp
    with_reducible rfl
  rotate_left
  · simp only [Act.put, List.setIfInBounds_toArray, List.set_cons_zero, List.set_cons_succ, i64_w, i32_w]
    rfl
  refine take_ (i := 6) (N := some 11) (v := ?_) (a' := ?_) #[true, true, true, true, false, true, true, true, false, false, true, false, true, false, false, false, false, false] rfl rfl (take_ofW HT_.out HW_.out (by kernel_rfl)) (fun _ _ _ h => h) (Or.inl ⟨by rfl, ?_⟩) hHeld ?_ ?_
  rotate_left
  · rintro w' ⟨s0, s1, s2, s3, s4, s5, s6, s7⟩
    go_simp
    with_reducible rfl
  rotate_left
  · simp only [Act.put, List.setIfInBounds_toArray, List.set_cons_zero, List.set_cons_succ, i64_w, i32_w]
    rfl
  refine take_ (i := 8) (N := some 13) (v := ?_) (a' := ?_) #[true, true, true, true, false, true, true, true, true, false, true, false, true, false, false, false, false, false] rfl rfl (take_ofW HT_.out HW_.out (by kernel_rfl)) (fun _ _ _ h => h) (Or.inl ⟨by rfl, ?_⟩) hHeld ?_ ?_
  rotate_left
  · rintro w' ⟨s0, s1, s2, s3, s4, s5, s6, s7⟩
    go_simp
    with_reducible rfl
  rotate_left
  · simp only [Act.put, List.setIfInBounds_toArray, List.set_cons_zero, List.set_cons_succ, i64_w, i32_w]
    rfl
  refine take_ (i := 11) (N := some 16) (v := ?_) (a' := ?_) #[true, true, true, true, false, true, true, true, true, false, true, true, true, false, false, false, false, false] rfl rfl (take_ofW HT_.out HW_.out (by kernel_rfl)) (fun _ _ _ h => h) (Or.inl ⟨by rfl, ?_⟩) hHeld ?_ ?_
  rotate_left
  · rintro w' ⟨s0, s1, s2, s3, s4, s5, s6, s7⟩
    go_simp
    with_reducible rfl
  rotate_left
  · simp only [Act.put, List.setIfInBounds_toArray, List.set_cons_zero, List.set_cons_succ, i64_w, i32_w]
    rfl
  refine take_ (i := 13) (N := some 18) (v := ?_) (a' := ?_) #[true, true, true, true, false, true, true, true, true, false, true, true, true, true, false, false, false, false] rfl rfl (take_ofW HT_.out HW_.out (by kernel_rfl)) (fun _ _ _ h => h) (Or.inl ⟨by rfl, ?_⟩) hHeld ?_ ?_
  rotate_left
  · rintro w' ⟨s0, s1, s2, s3, s4, s5, s6, s7⟩
    go_simp
    with_reducible rfl
  rotate_left
  · simp only [Act.put, List.setIfInBounds_toArray, List.set_cons_zero, List.set_cons_succ, i64_w, i32_w]
    rfl
  refine one_ (i := 4) (N := some 9) #[true, true, true, true, true, true, true, true, true, false, true, true, true, true, false, false, false, false] rfl rfl (one_of HT_.out (by kernel_rfl)) (by decide) (fun K hK => ?_)
  refine goes_ Tryz.func102 (by kernel_rfl) rfl #[.int .i64 a0_0, .int .i64 a1_0] (by rfl) rfl rfl (by (try simp only [List.map_toArray, List.map_cons, List.map_nil]); first | done | rfl | (simp only [List.length_drop, List.length_take]; rfl)) ?_
  with_reducible refine (cmp_Compare_int.calls a0_0 a1_0 t128 _ A3.out).mono ?_
  rintro e w' ⟨rfl, ⟨n0, rfl⟩⟩
  refine ⟨_, rfl, ?_⟩
  refine hK.out _ _ ⟨(blk_cell BK126.out 0).trans rfl, (blk_cell BK126.out 1).trans rfl, (blk_cell BK126.out 2).trans rfl, (blk_cell BK126.out 3).trans rfl, (blk_cell BK127.out 0).trans rfl, (blk_cell BK127.out 1).trans rfl, (blk_cell BK127.out 2).trans rfl, (blk_cell BK127.out 3).trans rfl⟩ (fun hHeld => ?_)
  clear hK K
  refine norm_ (a' := ?_) ?_ ?_
  rotate_left
  · show Act.put _ (some 9) _ = _
    simp only [Act.put, List.setIfInBounds_toArray, List.set_cons_zero, List.set_cons_succ, i64_w, i32_w]
    rfl
  refine one_ (i := 9) (N := some 14) #[true, true, true, true, true, true, true, true, true, true, true, true, true, true, false, false, false, false] rfl rfl (one_of HT_.out (by kernel_rfl)) (by decide) (fun K hK => ?_)
  refine goes_ Tryz.func102 (by kernel_rfl) rfl #[.int .i64 a0_1, .int .i64 a1_1] (by rfl) rfl rfl (by (try simp only [List.map_toArray, List.map_cons, List.map_nil]); first | done | rfl | (simp only [List.length_drop, List.length_take]; rfl)) ?_
  with_reducible refine (cmp_Compare_int.calls a0_1 a1_1 t129 _ A4.out).mono ?_
  rintro e w' ⟨rfl, ⟨n1, rfl⟩⟩
  refine ⟨_, rfl, ?_⟩
  refine hK.out _ _ ⟨(blk_cell BK126.out 0).trans rfl, (blk_cell BK126.out 1).trans rfl, (blk_cell BK126.out 2).trans rfl, (blk_cell BK126.out 3).trans rfl, (blk_cell BK127.out 0).trans rfl, (blk_cell BK127.out 1).trans rfl, (blk_cell BK127.out 2).trans rfl, (blk_cell BK127.out 3).trans rfl⟩ (fun hHeld => ?_)
  clear hK K
  refine norm_ (a' := ?_) ?_ ?_
  rotate_left
  · show Act.put _ (some 14) _ = _
    simp only [Act.put, List.setIfInBounds_toArray, List.set_cons_zero, List.set_cons_succ, i64_w, i32_w]
    rfl
  refine one_ (i := 14) (N := some 19) #[true, true, true, true, true, true, true, true, true, true, true, true, true, true, true, false, false, false] rfl rfl (one_of HT_.out (by kernel_rfl)) (by decide) (fun K hK => ?_)
  refine goes_ Tryz.func102 (by kernel_rfl) rfl #[.int .i64 a0_2, .int .i64 a1_2] (by rfl) rfl rfl (by (try simp only [List.map_toArray, List.map_cons, List.map_nil]); first | done | rfl | (simp only [List.length_drop, List.length_take]; rfl)) ?_
  with_reducible refine (cmp_Compare_int.calls a0_2 a1_2 t130 _ A5.out).mono ?_
  rintro e w' ⟨rfl, ⟨n2, rfl⟩⟩
  refine ⟨_, rfl, ?_⟩
  refine hK.out _ _ ⟨(blk_cell BK126.out 0).trans rfl, (blk_cell BK126.out 1).trans rfl, (blk_cell BK126.out 2).trans rfl, (blk_cell BK126.out 3).trans rfl, (blk_cell BK127.out 0).trans rfl, (blk_cell BK127.out 1).trans rfl, (blk_cell BK127.out 2).trans rfl, (blk_cell BK127.out 3).trans rfl⟩ (fun hHeld => ?_)
  clear hK K
  refine norm_ (a' := ?_) ?_ ?_
  rotate_left
  · show Act.put _ (some 19) _ = _
    simp only [Act.put, List.setIfInBounds_toArray, List.set_cons_zero, List.set_cons_succ, i64_w, i32_w]
    rfl
  refine one_ (i := 15) (N := some 20) #[true, true, true, true, true, true, true, true, true, true, true, true, true, true, true, true, false, false] rfl rfl (one_of HT_.out (by kernel_rfl)) (by decide) (fun K hK => ?_)
  refine event_step (by rfl) (v := .slice (some ⟨w9.heap.size, 0, none⟩) 3 3) (w1 := World.alloc (w9.drewN (n0 + n1 + n2)) (.cells #[.int .i64 t128, .int .i64 t129, .int .i64 t130] 3)) (by first | (go_simp; done) | (go_simp; rfl)) ?_
  have n0_ := Aside0.mk (blk_alloc (blk_drewN BK126.out (n0 + n1 + n2)) (.cells #[.int .i64 t128, .int .i64 t129, .int .i64 t130] 3))
  have n1_ := Aside0.mk (blk_alloc (blk_drewN BK127.out (n0 + n1 + n2)) (.cells #[.int .i64 t128, .int .i64 t129, .int .i64 t130] 3))
  have n2_ := Aside0.mk ((HG.out.drewN (n0 + n1 + n2)).alloc (.cells #[.int .i64 t128, .int .i64 t129, .int .i64 t130] 3))
  have n3_ := Aside0.mk (litN (w9.drewN (n0 + n1 + n2)) [t128, t129, t130])
  clear BK126 BK127 HG
  have BK126 := n0_
  have BK127 := n1_
  have HG := n2_
  have HC3 := n3_
  clear n0_ n1_ n2_ n3_
  refine hK.out _ _ ⟨(blk_cell BK126.out 0).trans rfl, (blk_cell BK126.out 1).trans rfl, (blk_cell BK126.out 2).trans rfl, (blk_cell BK126.out 3).trans rfl, (blk_cell BK127.out 0).trans rfl, (blk_cell BK127.out 1).trans rfl, (blk_cell BK127.out 2).trans rfl, (blk_cell BK127.out 3).trans rfl⟩ (fun hHeld => ?_)
  clear hK K
  refine norm_ (a' := ?_) ?_ ?_
  rotate_left
  · show Act.put _ (some 20) _ = _
    simp only [Act.put, List.setIfInBounds_toArray, List.set_cons_zero, List.set_cons_succ, i64_w, i32_w]
    rfl
  refine one_ (i := 16) (N := some 21) #[true, true, true, true, true, true, true, true, true, true, true, true, true, true, true, true, true, false] rfl rfl (one_of HT_.out (by kernel_rfl)) (by decide) (fun K hK => ?_)
  refine goes_ Tryz.func140 (by kernel_rfl) rfl #[.slice (some ⟨w9.heap.size, 0, none⟩) 3 3] (by rfl) rfl rfl (by first | rfl | (simp only [List.map_toArray, List.map_cons, List.map_nil]; rfl)) ?_
  refine Calls.mono (show Calls Tryz.prog 140 #[.slice (some ⟨w9.heap.size, 0, none⟩) 3 3] (World.alloc (w9.drewN (n0 + n1 + n2)) (.cells #[.int .i64 t128, .int .i64 t129, .int .i64 t130] 3)) (fun e w' => e = .returned (.int .i64 t134) ∧ Drawn0 (World.alloc (w9.drewN (n0 + n1 + n2)) (.cells #[.int .i64 t128, .int .i64 t129, .int .i64 t130] 3)) w') from cmp_Or_int.calls k _ 3 [t128, t129, t130] t134 _ HC3.out (Nat.le_refl _) HO.out) ?_
  rintro e w' ⟨rfl, ⟨n9, rfl⟩⟩
  refine ⟨_, rfl, ?_⟩
  refine hK.out _ _ ⟨(blk_cell BK126.out 0).trans rfl, (blk_cell BK126.out 1).trans rfl, (blk_cell BK126.out 2).trans rfl, (blk_cell BK126.out 3).trans rfl, (blk_cell BK127.out 0).trans rfl, (blk_cell BK127.out 1).trans rfl, (blk_cell BK127.out 2).trans rfl, (blk_cell BK127.out 3).trans rfl⟩ (fun hHeld => ?_)
  clear hK K
  refine norm_ (a' := ?_) ?_ ?_
  rotate_left
  · show Act.put _ (some 21) _ = _
    simp only [Act.put, List.setIfInBounds_toArray, List.set_cons_zero, List.set_cons_succ, i64_w, i32_w]
    rfl
  refine pure_ (i := 17) (N := some 4) (v := ?_) (a' := ?_) #[true, true, true, true, true, true, true, true, true, true, true, true, true, true, true, true, true, true] rfl rfl (any_of HT_.out (by kernel_rfl)) (fun _ _ _ h => h) (Or.inl ⟨by rfl, ?_⟩) ?_ ?_
  rotate_left
  · intro w'
    go_simp
    with_reducible rfl
  rotate_left
  · simp only [Act.put, List.setIfInBounds_toArray, List.set_cons_zero, List.set_cons_succ, i64_w, i32_w]
    rfl
  refine done_ (done_of HT_.out (by kernel_rfl)) ?_
  try go_wp2
  go_ret
  exact ⟨rfl, HG.out.drewN _⟩
theorem compareUsed_gr (k : Nat) (a0_0 : Int) (a0_1 : Int) (a0_2 : Int) (a1_0 : Int) (a1_1 : Int) (a1_2 : Int) (t137 t138 t142 : Int) (w : World) (h0 : cmp_Compare_int.f a0_0 a1_0 = some t137) (h1 : cmp_Compare_int.f a0_1 a1_1 = some t138) (hO : cmp_Or_int.f k [t137, t138] = some t142) :
    Calls Tryz.prog 111 #[.agg #[.int .i64 a0_0, .int .i64 a0_1, .int .i64 a0_2], .agg #[.int .i64 a1_0, .int .i64 a1_1, .int .i64 a1_2]] w fun e w' => e = .returned (.int .i64 t142) ∧ Gr w w' := by
  have hu111 := Tryz.underlying111
  have A3 := Aside0.mk h0
  have A4 := Aside0.mk h1
  have HO := Aside0.mk hO
  clear hO h0 h1
  have HG0 := Aside0.mk (Gr.refl w)
  go_enter Tryz.func111, Tryz.ntmps111
  go_wp2
  obtain ⟨W0, hW0⟩ : ∃ W0, W0 = (w.alloc (.cells #[.int .i64 a0_0, .int .i64 a0_1, .int .i64 a0_2] 111)).alloc (.cells #[.int .i64 a1_0, .int .i64 a1_1, .int .i64 a1_2] 111) := ⟨_, rfl⟩
  obtain ⟨gb135, hgb135⟩ : ∃ g, g = w.heap.size := ⟨_, rfl⟩
  have BK135 : Aside0 (W0.heap[gb135]? = some (.cells #[.int .i64 a0_0, .int .i64 a0_1, .int .i64 a0_2] 111 (0, 0))) := ⟨by rw [hW0, hgb135]; exact blk_alloc (blk_new w _) _⟩
  have BK136 : Aside0 (W0.heap[gb135 + 1]? = some (.cells #[.int .i64 a1_0, .int .i64 a1_1, .int .i64 a1_2] 111 (0, 0))) := ⟨by rw [hW0, hgb135]; exact (by simpa using blk_new (w.alloc (.cells #[.int .i64 a0_0, .int .i64 a0_1, .int .i64 a0_2] 111)) (.cells #[.int .i64 a1_0, .int .i64 a1_1, .int .i64 a1_2] 111))⟩
  have HG : Aside0 (Gr w W0) := ⟨by rw [hW0]; exact (HG0.out.alloc _).alloc _⟩
  rw [← hW0, ← hgb135]
  clear hW0 HG0 hgb135
  have n0_ := Aside0.mk (blk_drew BK135.out)
  have n1_ := Aside0.mk (blk_drew BK136.out)
  have n2_ := Aside0.mk HG.out.drew
  clear BK135 BK136 HG
  have BK135 := n0_
  have BK136 := n1_
  have HG := n2_
  clear n0_ n1_ n2_
  refine start_ (n := 13) (S := fun w' => w'.cell? ⟨gb135, 0, none⟩ = some (.int .i64 a0_0) ∧ w'.cell? ⟨gb135, 1, none⟩ = some (.int .i64 a0_1) ∧ w'.cell? ⟨gb135, 2, none⟩ = some (.int .i64 a0_2) ∧ w'.cell? ⟨(gb135 + 1), 0, none⟩ = some (.int .i64 a1_0) ∧ w'.cell? ⟨(gb135 + 1), 1, none⟩ = some (.int .i64 a1_1) ∧ w'.cell? ⟨(gb135 + 1), 2, none⟩ = some (.int .i64 a1_2)) (ds := []) #[false, false, false, false, false, false, false, false, false, false, false, false, false] (by kernel_rfl) rfl rfl ⟨(blk_cell BK135.out 0).trans rfl, (blk_cell BK135.out 1).trans rfl, (blk_cell BK135.out 2).trans rfl, (blk_cell BK136.out 0).trans rfl, (blk_cell BK136.out 1).trans rfl, (blk_cell BK136.out 2).trans rfl⟩ (fun hHeld => ?_); refine with_tabW replica_compareUsed.tab1 replica_compareUsed.bits1 (fun HT_ HW_ => ?_)
  generalize W0.drew = w8 at BK135 BK136 HG hHeld ⊢
  refine pure_ (i := 0) (N := some 5) (v := ?_) (a' := ?_) #[true, false, false, false, false, false, false, false, false, false, false, false, false] rfl rfl (any_of HT_.out (by kernel_rfl)) (fun _ _ _ h => h) (Or.inl ⟨by rfl, ?_⟩) ?_ ?_
  rotate_left
  · intro w'
    go_simp
    with_reducible rfl
  rotate_left
  · simp only [Act.put, List.setIfInBounds_toArray, List.set_cons_zero, List.set_cons_succ, i64_w, i32_w]
    rfl
  refine pure_ (i := 2) (N := some 7) (v := ?_) (a' := ?_) #[true, false, true, false, false, false, false, false, false, false, false, false, false] rfl rfl (any_of HT_.out (by kernel_rfl)) (fun _ _ _ h => h) (Or.inl ⟨by rfl, ?_⟩) ?_ ?_
  rotate_left
  · intro w'
    go_simp
    with_reducible rfl
  rotate_left
  · simp only [Act.put, List.setIfInBounds_toArray, List.set_cons_zero, List.set_cons_succ, i64_w, i32_w]
    rfl
  refine pure_ (i := 5) (N := some 10) (v := ?_) (a' := ?_) #[true, false, true, false, false, true, false, false, false, false, false, false, false] rfl rfl (any_of HT_.out (by kernel_rfl)) (fun _ _ _ h => h) (Or.inl ⟨by rfl, ?_⟩) ?_ ?_
  rotate_left
  · intro w'
    go_simp
    with_reducible rfl
  rotate_left
  · simp only [Act.put, List.setIfInBounds_toArray, List.set_cons_zero, List.set_cons_succ, i64_w, i32_w]
    rfl
  refine pure_ (i := 7) (N := some 12) (v := ?_) (a' := ?_) #[true, false, true, false, false, true, false, true, false, false, false, false, false] rfl rfl (any_of HT_.out (by kernel_rfl)) (fun _ _ _ h => h) (Or.inl ⟨by rfl, ?_⟩) ?_ ?_
  rotate_left
  · intro w'
    go_simp
    with_reducible rfl
  rotate_left
  · simp only [Act.put, List.setIfInBounds_toArray, List.set_cons_zero, List.set_cons_succ, i64_w, i32_w]
    rfl
  refine take_ (i := 1) (N := some 6) (v := ?_) (a' := ?_) #[true, true, true, false, false, true, false, true, false, false, false, false, false] rfl rfl (take_ofW HT_.out HW_.out (by kernel_rfl)) (fun _ _ _ h => h) (Or.inl ⟨by rfl, ?_⟩) hHeld ?_ ?_
  rotate_left
  · rintro w' ⟨s0, s1, s2, s3, s4, s5⟩
    go_simp
    with_reducible rfl
  rotate_left
  · simp only [Act.put, List.setIfInBounds_toArray, List.set_cons_zero, List.set_cons_succ, i64_w, i32_w]
    rfl
  refine take_ (i := 3) (N := some 8) (v := ?_) (a' := ?_) #[true, true, true, true, false, true, false, true, false, false, false, false, false] rfl rfl (take_ofW HT_.out HW_.out (by kernel_rfl)) (fun _ _ _ h => h) (Or.inl ⟨by rfl, ?_⟩) hHeld ?_ ?_
  rotate_left
  · rintro w' ⟨s0, s1, s2, s3, s4, s5⟩
    go_simp
    with_reducible rfl
  rotate_left
  · simp only [Act.put, List.setIfInBounds_toArray, List.set_cons_zero, List.set_cons_succ, i64_w, i32_w]
    rfl
  refine take_ (i := 6) (N := some 11) (v := ?_) (a' := ?_) #[true, true, true, true, false, true, true, true, false, false, false, false, false] rfl rfl (take_ofW HT_.out HW_.out (by kernel_rfl)) (fun _ _ _ h => h) (Or.inl ⟨by rfl, ?_⟩) hHeld ?_ ?_
  rotate_left
  · rintro w' ⟨s0, s1, s2, s3, s4, s5⟩
    go_simp
    with_reducible rfl
  rotate_left
  · simp only [Act.put, List.setIfInBounds_toArray, List.set_cons_zero, List.set_cons_succ, i64_w, i32_w]
    rfl
  refine take_ (i := 8) (N := some 13) (v := ?_) (a' := ?_) #[true, true, true, true, false, true, true, true, true, false, false, false, false] rfl rfl (take_ofW HT_.out HW_.out (by kernel_rfl)) (fun _ _ _ h => h) (Or.inl ⟨by rfl, ?_⟩) hHeld ?_ ?_
  rotate_left
  · rintro w' ⟨s0, s1, s2, s3, s4, s5⟩
    go_simp
    with_reducible rfl
  rotate_left
  · simp only [Act.put, List.setIfInBounds_toArray, List.set_cons_zero, List.set_cons_succ, i64_w, i32_w]
    rfl
  refine one_ (i := 4) (N := some 9) #[true, true, true, true, true, true, true, true, true, false, false, false, false] rfl rfl (one_of HT_.out (by kernel_rfl)) (by decide) (fun K hK => ?_)
  refine goes_ Tryz.func102 (by kernel_rfl) rfl #[.int .i64 a0_0, .int .i64 a1_0] (by rfl) rfl rfl (by (try simp only [List.map_toArray, List.map_cons, List.map_nil]); first | done | rfl | (simp only [List.length_drop, List.length_take]; rfl)) ?_
  with_reducible refine (cmp_Compare_int.calls a0_0 a1_0 t137 _ A3.out).mono ?_
  rintro e w' ⟨rfl, ⟨n0, rfl⟩⟩
  refine ⟨_, rfl, ?_⟩
  refine hK.out _ _ ⟨(blk_cell BK135.out 0).trans rfl, (blk_cell BK135.out 1).trans rfl, (blk_cell BK135.out 2).trans rfl, (blk_cell BK136.out 0).trans rfl, (blk_cell BK136.out 1).trans rfl, (blk_cell BK136.out 2).trans rfl⟩ (fun hHeld => ?_)
  clear hK K
  refine norm_ (a' := ?_) ?_ ?_
  rotate_left
  · show Act.put _ (some 9) _ = _
    simp only [Act.put, List.setIfInBounds_toArray, List.set_cons_zero, List.set_cons_succ, i64_w, i32_w]
    rfl
  refine one_ (i := 9) (N := some 14) #[true, true, true, true, true, true, true, true, true, true, false, false, false] rfl rfl (one_of HT_.out (by kernel_rfl)) (by decide) (fun K hK => ?_)
  refine goes_ Tryz.func102 (by kernel_rfl) rfl #[.int .i64 a0_1, .int .i64 a1_1] (by rfl) rfl rfl (by (try simp only [List.map_toArray, List.map_cons, List.map_nil]); first | done | rfl | (simp only [List.length_drop, List.length_take]; rfl)) ?_
  with_reducible refine (cmp_Compare_int.calls a0_1 a1_1 t138 _ A4.out).mono ?_
  rintro e w' ⟨rfl, ⟨n1, rfl⟩⟩
  refine ⟨_, rfl, ?_⟩
  refine hK.out _ _ ⟨(blk_cell BK135.out 0).trans rfl, (blk_cell BK135.out 1).trans rfl, (blk_cell BK135.out 2).trans rfl, (blk_cell BK136.out 0).trans rfl, (blk_cell BK136.out 1).trans rfl, (blk_cell BK136.out 2).trans rfl⟩ (fun hHeld => ?_)
  clear hK K
  refine norm_ (a' := ?_) ?_ ?_
  rotate_left
  · show Act.put _ (some 14) _ = _
    simp only [Act.put, List.setIfInBounds_toArray, List.set_cons_zero, List.set_cons_succ, i64_w, i32_w]
    rfl
  refine one_ (i := 10) (N := some 15) #[true, true, true, true, true, true, true, true, true, true, true, false, false] rfl rfl (one_of HT_.out (by kernel_rfl)) (by decide) (fun K hK => ?_)
  refine event_step (by rfl) (v := .slice (some ⟨w8.heap.size, 0, none⟩) 2 2) (w1 := World.alloc (w8.drewN (n0 + n1)) (.cells #[.int .i64 t137, .int .i64 t138] 3)) (by first | (go_simp; done) | (go_simp; rfl)) ?_
  have n0_ := Aside0.mk (blk_alloc (blk_drewN BK135.out (n0 + n1)) (.cells #[.int .i64 t137, .int .i64 t138] 3))
  have n1_ := Aside0.mk (blk_alloc (blk_drewN BK136.out (n0 + n1)) (.cells #[.int .i64 t137, .int .i64 t138] 3))
  have n2_ := Aside0.mk ((HG.out.drewN (n0 + n1)).alloc (.cells #[.int .i64 t137, .int .i64 t138] 3))
  have n3_ := Aside0.mk (litN (w8.drewN (n0 + n1)) [t137, t138])
  clear BK135 BK136 HG
  have BK135 := n0_
  have BK136 := n1_
  have HG := n2_
  have HC3 := n3_
  clear n0_ n1_ n2_ n3_
  refine hK.out _ _ ⟨(blk_cell BK135.out 0).trans rfl, (blk_cell BK135.out 1).trans rfl, (blk_cell BK135.out 2).trans rfl, (blk_cell BK136.out 0).trans rfl, (blk_cell BK136.out 1).trans rfl, (blk_cell BK136.out 2).trans rfl⟩ (fun hHeld => ?_)
  clear hK K
  refine norm_ (a' := ?_) ?_ ?_
  rotate_left
  · show Act.put _ (some 15) _ = _
    simp only [Act.put, List.setIfInBounds_toArray, List.set_cons_zero, List.set_cons_succ, i64_w, i32_w]
    rfl
  refine one_ (i := 11) (N := some 16) #[true, true, true, true, true, true, true, true, true, true, true, true, false] rfl rfl (one_of HT_.out (by kernel_rfl)) (by decide) (fun K hK => ?_)
  refine goes_ Tryz.func140 (by kernel_rfl) rfl #[.slice (some ⟨w8.heap.size, 0, none⟩) 2 2] (by rfl) rfl rfl (by first | rfl | (simp only [List.map_toArray, List.map_cons, List.map_nil]; rfl)) ?_
  refine Calls.mono (show Calls Tryz.prog 140 #[.slice (some ⟨w8.heap.size, 0, none⟩) 2 2] (World.alloc (w8.drewN (n0 + n1)) (.cells #[.int .i64 t137, .int .i64 t138] 3)) (fun e w' => e = .returned (.int .i64 t142) ∧ Drawn0 (World.alloc (w8.drewN (n0 + n1)) (.cells #[.int .i64 t137, .int .i64 t138] 3)) w') from cmp_Or_int.calls k _ 2 [t137, t138] t142 _ HC3.out (Nat.le_refl _) HO.out) ?_
  rintro e w' ⟨rfl, ⟨n9, rfl⟩⟩
  refine ⟨_, rfl, ?_⟩
  refine hK.out _ _ ⟨(blk_cell BK135.out 0).trans rfl, (blk_cell BK135.out 1).trans rfl, (blk_cell BK135.out 2).trans rfl, (blk_cell BK136.out 0).trans rfl, (blk_cell BK136.out 1).trans rfl, (blk_cell BK136.out 2).trans rfl⟩ (fun hHeld => ?_)
  clear hK K
  refine norm_ (a' := ?_) ?_ ?_
  rotate_left
  · show Act.put _ (some 16) _ = _
    simp only [Act.put, List.setIfInBounds_toArray, List.set_cons_zero, List.set_cons_succ, i64_w, i32_w]
    rfl
  refine pure_ (i := 12) (N := some 4) (v := ?_) (a' := ?_) #[true, true, true, true, true, true, true, true, true, true, true, true, true] rfl rfl (any_of HT_.out (by kernel_rfl)) (fun _ _ _ h => h) (Or.inl ⟨by rfl, ?_⟩) ?_ ?_
  rotate_left
  · intro w'
    go_simp
    with_reducible rfl
  rotate_left
  · simp only [Act.put, List.setIfInBounds_toArray, List.set_cons_zero, List.set_cons_succ, i64_w, i32_w]
    rfl
  refine done_ (done_of HT_.out (by kernel_rfl)) ?_
  try go_wp2
  go_ret
  exact ⟨rfl, HG.out.drewN _⟩
end Go.Proofs.YtmeaeapopfcmbaaGreat

namespace Go.Proofs.YtmeaeapopfcmbaaGreat
open Go.RowKit Go.Proofs.YtmeaeapopfcmbaaGreatW.PrintWords Go.Proofs.YtmeaeapopfcmbaaGreatW.PrintLast Go.Proofs.YtmeaeapopfcmbaaGreatW.PrintMore PP
set_option linter.unusedVariables false
set_option linter.unusedSimpArgs false
theorem R_ty {α : Type} {d : Kd α} {e : Nat} {W W' : World} {base : Nat} {v : Value} {xs : List α} (h : Kd.R d e W base (fun _ => True) v xs) (hE : d.E = []) (hm : ∀ (k : Nat) (cells : Array Value), W.heap[k]? = some (Obj.cells cells e (0, 0)) → W'.heap[k]? = W.heap[k]?) : Kd.R d e W' base (fun _ => True) v xs :=
  Kd.R_mono (Kd.R_move (Kd.R_bound h) (fun k hk => by
    obtain ⟨_, _, _, q, hq, cells, hc⟩ := hk
    rw [hE] at hq
    obtain rfl := List.mem_singleton.1 hq
    exact hm k cells hc)) (fun _ _ => trivial)
/-- Five lists of the call's own. -/
structure StR (base : Nat) (W : World) (v0 v1 v2 v3 v4 : Value) (S : S28) : Prop where
  r0 : Kd.R (Kd.int .i64) 3 W base (fun _ => True) v0 S.f0
  r1 : Kd.R k99 99 W base (fun _ => True) v1 S.f1
  r2 : Kd.R k102 102 W base (fun _ => True) v2 S.f2
  r3 : Kd.R k108 108 W base (fun _ => True) v3 S.f3
  r4 : Kd.R k111 111 W base (fun _ => True) v4 S.f4
section
variable {base : Nat} {W W' : World} {v0 v1 v2 v3 v4 : Value} {S : S28}
theorem StR.keep (h : StR base W v0 v1 v2 v3 v4 S) (hm : ∀ q, (q = 3 ∨ q = 99 ∨ q = 102 ∨ q = 108 ∨ q = 111) → ∀ (k : Nat) (cells : Array Value), W.heap[k]? = some (Obj.cells cells q (0, 0)) → W'.heap[k]? = W.heap[k]?) : StR base W' v0 v1 v2 v3 v4 S :=
  ⟨R_ty h.r0 rfl (hm 3 (by simp)), R_ty h.r1 rfl (hm 99 (by simp)), R_ty h.r2 rfl (hm 102 (by simp)), R_ty h.r3 rfl (hm 108 (by simp)), R_ty h.r4 rfl (hm 111 (by simp))⟩
theorem StR.below (h : StR base W v0 v1 v2 v3 v4 S) (hb : Below W.heap.size W W') : StR base W' v0 v1 v2 v3 v4 S :=
  h.keep fun q _ k cells hc => hb.block k (Array.getElem?_eq_some_iff.1 hc).1
theorem StR.lower {base' : Nat} (h : StR base W v0 v1 v2 v3 v4 S) (hb : base' ≤ base) : StR base' W v0 v1 v2 v3 v4 S :=
  ⟨Kd.R_lower h.r0 hb, Kd.R_lower h.r1 hb, Kd.R_lower h.r2 hb, Kd.R_lower h.r3 hb, Kd.R_lower h.r4 hb⟩
end
/-- The block of a row is of the row's type. -/
theorem R_block {α : Type} {d : Kd α} {e : Nat} {W : World} {base : Nat} {ok : Nat → Prop} {v : Value} {xs : List α} (h : Kd.R d e W base ok v xs) {k : Nat} (hk : v.ownBlock = some k) : ∃ cells, W.heap[k]? = some (Obj.cells cells e (0, 0)) := by
  obtain ⟨_, inner, ho, _⟩ := h
  exact own_typed ho k hk
theorem R_ne_ty {α : Type} {d : Kd α} {e : Nat} {W : World} {base : Nat} {ok : Nat → Prop} {v : Value} {xs : List α} (h : Kd.R d e W base ok v xs) {k q : Nat} {cells : Array Value} (hq : q ≠ e) (hc : W.heap[k]? = some (Obj.cells cells q (0, 0))) : some k ≠ v.ownBlock := by
  intro e1
  obtain ⟨c2, h2⟩ := R_block h e1.symm
  rw [hc] at h2
  injection h2 with h2
  injection h2 with _ h2
  exact hq h2
theorem Rng.notcells {α β : Type} [DecidableEq α] {C : MK Tryz.prog α β} {w : World} {b r cnt : Nat} {L outs : List (α × β)} (h : Rng C w b r L outs cnt) {cs : Array Value} {t : Nat} {z : Nat × Nat} (hc : w.heap[r]? = some (Obj.cells cs t z)) : False := by
  obtain ⟨es, left, ⟨E, clock, since, seen, c0, a1, a2, a3, a4, a5, a6⟩, q⟩ := h
  rw [hc] at a5
  simp at a5
def zeroSt : Array Value := #[.slice none 0 0, .slice none 0 0, .slice none 0 0, .slice none 0 0, .slice none 0 0]
/-- The state s in the making, at block sb; the result's block rb. -/
structure MkSt (w : World) (rb sb : Nat) (W : World) (v0 v1 v2 v3 v4 : Value) (S : S28) : Prop where
  base : Below w.heap.size w W
  lo : w.heap.size ≤ sb
  rlo : w.heap.size ≤ rb
  ne : rb ≠ sb
  blk : W.heap[sb]? = some (Obj.cells #[v0, v1, v2, v3, v4] 28 (0, 0))
  res : W.heap[rb]? = some (Obj.cells zeroSt 28 (0, 0))
  st : StR w.heap.size W v0 v1 v2 v3 v4 S
section
variable {w W W' : World} {rb sb : Nat} {v0 v1 v2 v3 v4 v' : Value} {S : S28}
theorem MkSt.below (h : MkSt w rb sb W v0 v1 v2 v3 v4 S) (hb : Below W.heap.size W W') : MkSt w rb sb W' v0 v1 v2 v3 v4 S :=
  ⟨h.base.trans (hb.mono h.base.size), h.lo, h.rlo, h.ne, (hb.block _ (Array.getElem?_eq_some_iff.1 h.blk).1).trans h.blk, (hb.block _ (Array.getElem?_eq_some_iff.1 h.res).1).trans h.res, h.st.below hb⟩
theorem MkSt.rng {α β : Type} [DecidableEq α] {C : MK Tryz.prog α β} {b r cnt : Nat} {L outs : List (α × β)} (h : MkSt w rb sb W v0 v1 v2 v3 v4 S) (hr : Rng C W b r L outs cnt) (hlo : w.heap.size ≤ r) (hg : W.grownBy W' (some r)) : MkSt w rb sb W' v0 v1 v2 v3 v4 S := by
  have ne : ∀ (k : Nat) (cs : Array Value) (t : Nat) (z : Nat × Nat), W.heap[k]? = some (Obj.cells cs t z) → W'.heap[k]? = W.heap[k]? := fun k cs t z hc =>
    hg.block k (Array.getElem?_eq_some_iff.1 hc).1 (fun e => by injection e with e; subst e; exact hr.notcells hc)
  exact ⟨h.base.grown hg h.base.size (fun k e => by injection e with e; omega), h.lo, h.rlo, h.ne, (ne _ _ _ _ h.blk).trans h.blk, (ne _ _ _ _ h.res).trans h.res, h.st.keep fun q _ k cells hc => ne k cells q _ hc⟩
/-- Cell i of s is written. -/
theorem MkSt.put_ {u0 u1 u2 u3 u4 : Value} {S' : S28} (h : MkSt w rb sb W v0 v1 v2 v3 v4 S) (i : Nat) (hb : Below w.heap.size w W') (hblk : W'.heap[sb]? = W.heap[sb]?) (hres : W'.heap[rb]? = W.heap[rb]?) (hs : (#[v0, v1, v2, v3, v4] : Array Value).setIfInBounds i v' = #[u0, u1, u2, u3, u4]) (st : StR w.heap.size W' u0 u1 u2 u3 u4 S') : MkSt w rb sb (W'.setCell ⟨sb, i, none⟩ v') u0 u1 u2 u3 u4 S' := by
  have e1 := heap_setCell_same W' sb i _ 28 v' (hblk.trans h.blk)
  have o : ∀ k, k ≠ sb → (W'.setCell ⟨sb, i, none⟩ v').heap[k]? = W'.heap[k]? := fun k hk => Below.heap_setCell _ _ _ _ hk
  have hb' : W'.heap[sb]? = some (Obj.cells #[v0, v1, v2, v3, v4] 28 (0, 0)) := hblk.trans h.blk
  refine ⟨hb.setCell (p := ⟨sb, i, none⟩) h.lo _, h.lo, h.rlo, h.ne, by rw [e1, hs], ((o rb h.ne).trans hres).trans h.res, st.keep fun q hq k cells hc => o k ?_⟩
  rintro rfl
  rw [hb'] at hc
  injection hc with hc
  injection hc with _ hc
  rcases hq with rfl | rfl | rfl | rfl | rfl <;> exact absurd hc (by decide)
theorem MkSt.app1 (h : MkSt w rb sb W v0 v1 v2 v3 v4 S) {t : S99} (ho : Kd.R k99 99 W' w.heap.size (fun _ => True) v' (S.f1 ++ [t])) (hb : Below w.heap.size w W') (hg : W.grownBy W' v1.ownBlock) : MkSt w rb sb (W'.setCell ⟨sb, 1, none⟩ v') v0 v' v2 v3 v4 { S with f1 := S.f1 ++ [t] } := by
  have ne : ∀ q : Nat, q ≠ 99 → ∀ (k : Nat) (cs : Array Value), W.heap[k]? = some (Obj.cells cs q (0, 0)) → W'.heap[k]? = W.heap[k]? := fun q hq k cs hc => hg.block k (Array.getElem?_eq_some_iff.1 hc).1 (R_ne_ty h.st.r1 hq hc)
  exact h.put_ 1 hb (ne 28 (by decide) _ _ h.blk) (ne 28 (by decide) _ _ h.res) rfl ⟨R_ty h.st.r0 rfl (ne 3 (by decide)), ho, R_ty h.st.r2 rfl (ne 102 (by decide)), R_ty h.st.r3 rfl (ne 108 (by decide)), R_ty h.st.r4 rfl (ne 111 (by decide))⟩
theorem MkSt.app2 (h : MkSt w rb sb W v0 v1 v2 v3 v4 S) {t : S102} (ho : Kd.R k102 102 W' w.heap.size (fun _ => True) v' (S.f2 ++ [t])) (hb : Below w.heap.size w W') (hg : W.grownBy W' v2.ownBlock) : MkSt w rb sb (W'.setCell ⟨sb, 2, none⟩ v') v0 v1 v' v3 v4 { S with f2 := S.f2 ++ [t] } := by
  have ne : ∀ q : Nat, q ≠ 102 → ∀ (k : Nat) (cs : Array Value), W.heap[k]? = some (Obj.cells cs q (0, 0)) → W'.heap[k]? = W.heap[k]? := fun q hq k cs hc => hg.block k (Array.getElem?_eq_some_iff.1 hc).1 (R_ne_ty h.st.r2 hq hc)
  exact h.put_ 2 hb (ne 28 (by decide) _ _ h.blk) (ne 28 (by decide) _ _ h.res) rfl ⟨R_ty h.st.r0 rfl (ne 3 (by decide)), R_ty h.st.r1 rfl (ne 99 (by decide)), ho, R_ty h.st.r3 rfl (ne 108 (by decide)), R_ty h.st.r4 rfl (ne 111 (by decide))⟩
theorem MkSt.app3 (h : MkSt w rb sb W v0 v1 v2 v3 v4 S) {t : S108} (ho : Kd.R k108 108 W' w.heap.size (fun _ => True) v' (S.f3 ++ [t])) (hb : Below w.heap.size w W') (hg : W.grownBy W' v3.ownBlock) : MkSt w rb sb (W'.setCell ⟨sb, 3, none⟩ v') v0 v1 v2 v' v4 { S with f3 := S.f3 ++ [t] } := by
  have ne : ∀ q : Nat, q ≠ 108 → ∀ (k : Nat) (cs : Array Value), W.heap[k]? = some (Obj.cells cs q (0, 0)) → W'.heap[k]? = W.heap[k]? := fun q hq k cs hc => hg.block k (Array.getElem?_eq_some_iff.1 hc).1 (R_ne_ty h.st.r3 hq hc)
  exact h.put_ 3 hb (ne 28 (by decide) _ _ h.blk) (ne 28 (by decide) _ _ h.res) rfl ⟨R_ty h.st.r0 rfl (ne 3 (by decide)), R_ty h.st.r1 rfl (ne 99 (by decide)), R_ty h.st.r2 rfl (ne 102 (by decide)), ho, R_ty h.st.r4 rfl (ne 111 (by decide))⟩
theorem MkSt.app4 (h : MkSt w rb sb W v0 v1 v2 v3 v4 S) {t : S111} (ho : Kd.R k111 111 W' w.heap.size (fun _ => True) v' (S.f4 ++ [t])) (hb : Below w.heap.size w W') (hg : W.grownBy W' v4.ownBlock) : MkSt w rb sb (W'.setCell ⟨sb, 4, none⟩ v') v0 v1 v2 v3 v' { S with f4 := S.f4 ++ [t] } := by
  have ne : ∀ q : Nat, q ≠ 111 → ∀ (k : Nat) (cs : Array Value), W.heap[k]? = some (Obj.cells cs q (0, 0)) → W'.heap[k]? = W.heap[k]? := fun q hq k cs hc => hg.block k (Array.getElem?_eq_some_iff.1 hc).1 (R_ne_ty h.st.r4 hq hc)
  exact h.put_ 4 hb (ne 28 (by decide) _ _ h.blk) (ne 28 (by decide) _ _ h.res) rfl ⟨R_ty h.st.r0 rfl (ne 3 (by decide)), R_ty h.st.r1 rfl (ne 99 (by decide)), R_ty h.st.r2 rfl (ne 102 (by decide)), R_ty h.st.r3 rfl (ne 108 (by decide)), ho⟩
/-- A row has been sorted in its place. -/
theorem MkSt.row_ {S' : S28} {v : Value} {e : Nat} {α : Type} {d : Kd α} {xs : List α} (h : MkSt w rb sb W v0 v1 v2 v3 v4 S) (hv : Kd.R d e W w.heap.size (fun _ => True) v xs) (he : e ≠ 28) (hb : Below w.heap.size W W') (hk : ∀ i, some i ≠ v.ownBlock → i < W.heap.size → W'.heap[i]? = W.heap[i]?) (st : (∀ q : Nat, q ≠ e → ∀ (k : Nat) (cs : Array Value), W.heap[k]? = some (Obj.cells cs q (0, 0)) → W'.heap[k]? = W.heap[k]?) → StR w.heap.size W' v0 v1 v2 v3 v4 S') : MkSt w rb sb W' v0 v1 v2 v3 v4 S' := by
  have ne : ∀ q : Nat, q ≠ e → ∀ (k : Nat) (cs : Array Value), W.heap[k]? = some (Obj.cells cs q (0, 0)) → W'.heap[k]? = W.heap[k]? := fun q hq k cs hc => hk k (R_ne_ty hv hq hc) (Array.getElem?_eq_some_iff.1 hc).1
  exact ⟨h.base.trans hb, h.lo, h.rlo, h.ne, (ne 28 (Ne.symm he) _ _ h.blk).trans h.blk, (ne 28 (Ne.symm he) _ _ h.res).trans h.res, st ne⟩
theorem MkSt.sort1 {ys : List S99} (h : MkSt w rb sb W v0 v1 v2 v3 v4 S) (ho : Kd.R k99 99 W' w.heap.size (fun _ => True) v1 ys) (hb : Below w.heap.size W W') (hk : ∀ i, some i ≠ v1.ownBlock → i < W.heap.size → W'.heap[i]? = W.heap[i]?) : MkSt w rb sb W' v0 v1 v2 v3 v4 { S with f1 := ys } :=
  h.row_ h.st.r1 (by decide) hb hk fun ne => ⟨R_ty h.st.r0 rfl (ne 3 (by decide)), ho, R_ty h.st.r2 rfl (ne 102 (by decide)), R_ty h.st.r3 rfl (ne 108 (by decide)), R_ty h.st.r4 rfl (ne 111 (by decide))⟩
theorem MkSt.sort2 {ys : List S102} (h : MkSt w rb sb W v0 v1 v2 v3 v4 S) (ho : Kd.R k102 102 W' w.heap.size (fun _ => True) v2 ys) (hb : Below w.heap.size W W') (hk : ∀ i, some i ≠ v2.ownBlock → i < W.heap.size → W'.heap[i]? = W.heap[i]?) : MkSt w rb sb W' v0 v1 v2 v3 v4 { S with f2 := ys } :=
  h.row_ h.st.r2 (by decide) hb hk fun ne => ⟨R_ty h.st.r0 rfl (ne 3 (by decide)), R_ty h.st.r1 rfl (ne 99 (by decide)), ho, R_ty h.st.r3 rfl (ne 108 (by decide)), R_ty h.st.r4 rfl (ne 111 (by decide))⟩
theorem MkSt.sort3 {ys : List S108} (h : MkSt w rb sb W v0 v1 v2 v3 v4 S) (ho : Kd.R k108 108 W' w.heap.size (fun _ => True) v3 ys) (hb : Below w.heap.size W W') (hk : ∀ i, some i ≠ v3.ownBlock → i < W.heap.size → W'.heap[i]? = W.heap[i]?) : MkSt w rb sb W' v0 v1 v2 v3 v4 { S with f3 := ys } :=
  h.row_ h.st.r3 (by decide) hb hk fun ne => ⟨R_ty h.st.r0 rfl (ne 3 (by decide)), R_ty h.st.r1 rfl (ne 99 (by decide)), R_ty h.st.r2 rfl (ne 102 (by decide)), ho, R_ty h.st.r4 rfl (ne 111 (by decide))⟩
theorem MkSt.sort4 {ys : List S111} (h : MkSt w rb sb W v0 v1 v2 v3 v4 S) (ho : Kd.R k111 111 W' w.heap.size (fun _ => True) v4 ys) (hb : Below w.heap.size W W') (hk : ∀ i, some i ≠ v4.ownBlock → i < W.heap.size → W'.heap[i]? = W.heap[i]?) : MkSt w rb sb W' v0 v1 v2 v3 v4 { S with f4 := ys } :=
  h.row_ h.st.r4 (by decide) hb hk fun ne => ⟨R_ty h.st.r0 rfl (ne 3 (by decide)), R_ty h.st.r1 rfl (ne 99 (by decide)), R_ty h.st.r2 rfl (ne 102 (by decide)), R_ty h.st.r3 rfl (ne 108 (by decide)), ho⟩
end
end Go.Proofs.YtmeaeapopfcmbaaGreat

namespace Go.Proofs
open Go.Shelf
def Tryz.sortT_ren : Go.Shelf.Ren := ⟨fun | 6 => 117 | 14 => 143 | 15 => 135 | 28 => 157 | 29 => 158 | 46 => 200 | 47 => 194 | 48 => 195 | 49 => 201 | 50 => 202 | 57 => 213 | 20 => 161 | 21 => 162 | 22 => 163 | 23 => 164 | 24 => 165 | 25 => 166 | 26 => 167 | 27 => 168 | n => n, fun | 39 => 190 | 53 => 212 | 55 => 214 | 46 => 205 | 45 => 204 | 50 => 197 | 66 => 236 | 70 => 240 | 76 => 250 | 77 => 251 | 22 => 23 | 24 => 99 | 25 => 158 | n => n, fun n => n⟩
theorem Tryz.sortT : Go.Proofs.SlLaysF0.n6 Tryz.prog Tryz.sortT_ren := {
 mixed := by kernel_rfl
 f6 := ⟨Tryz.f117.name, by decide, Tryz.func117.trans (congrArg some (by kernel_rfl))⟩
 f14 := ⟨Tryz.f143.name, by decide, Tryz.func143.trans (congrArg some (by kernel_rfl))⟩
 f15 := Tryz.func135.trans (congrArg some (by kernel_rfl))
 f20 := ⟨Tryz.f161.name, by decide, Tryz.func161.trans (congrArg some (by kernel_rfl))⟩
 f21 := ⟨Tryz.f162.name, by decide, Tryz.func162.trans (congrArg some (by kernel_rfl))⟩
 f22 := ⟨Tryz.f163.name, by decide, Tryz.func163.trans (congrArg some (by kernel_rfl))⟩
 f23 := ⟨Tryz.f164.name, by decide, Tryz.func164.trans (congrArg some (by kernel_rfl))⟩
 f24 := ⟨Tryz.f165.name, by decide, Tryz.func165.trans (congrArg some (by kernel_rfl))⟩
 f25 := ⟨Tryz.f166.name, by decide, Tryz.func166.trans (congrArg some (by kernel_rfl))⟩
 f26 := ⟨Tryz.f167.name, by decide, Tryz.func167.trans (congrArg some (by kernel_rfl))⟩
 f27 := ⟨Tryz.f168.name, by decide, Tryz.func168.trans (congrArg some (by kernel_rfl))⟩
 f28 := Tryz.func157.trans (congrArg some (by kernel_rfl))
 f29 := Tryz.func158.trans (congrArg some (by kernel_rfl))
 f46 := ⟨Tryz.f200.name, by decide, Tryz.func200.trans (congrArg some (by kernel_rfl))⟩
 f47 := Tryz.func194.trans (congrArg some (by kernel_rfl))
 f48 := Tryz.func195.trans (congrArg some (by kernel_rfl))
 f49 := ⟨Tryz.f201.name, by decide, Tryz.func201.trans (congrArg some (by kernel_rfl))⟩
 f50 := ⟨Tryz.f202.name, by decide, Tryz.func202.trans (congrArg some (by kernel_rfl))⟩
 f57 := ⟨Tryz.f213.name, by decide, Tryz.func213.trans (congrArg some (by kernel_rfl))⟩
 t0 := Tryz.underlying0
 a0 := Tryz.isAgg0
 z0 := Tryz.sizeOf0
 v0 := Tryz.zeroValue0
 t3 := Tryz.underlying3
 a3 := Tryz.isAgg3
 z3 := Tryz.sizeOf3
 v3 := Tryz.zeroValue3
 t4 := Tryz.underlying4
 a4 := Tryz.isAgg4
 z4 := Tryz.sizeOf4
 v4 := Tryz.zeroValue4
 t5 := Tryz.underlying5
 a5 := Tryz.isAgg5
 z5 := Tryz.sizeOf5
 v5 := Tryz.zeroValue5
 t9 := Tryz.underlying9
 a9 := Tryz.isAgg9
 z9 := Tryz.sizeOf9
 v9 := Tryz.zeroValue9
 t22 := Tryz.underlying23
 a22 := Tryz.isAgg23
 z22 := Tryz.sizeOf23
 v22 := Tryz.zeroValue23
 t25 := Tryz.underlying158
 a25 := Tryz.isAgg158
 z25 := Tryz.sizeOf158
 v25 := Tryz.zeroValue158
 t39 := Tryz.underlying190
 a39 := Tryz.isAgg190
 z39 := Tryz.sizeOf190
 v39 := Tryz.zeroValue190
 t45 := Tryz.underlying204
 a45 := Tryz.isAgg204
 z45 := Tryz.sizeOf204
 v45 := Tryz.zeroValue204
 t46 := Tryz.underlying205
 a46 := Tryz.isAgg205
 z46 := Tryz.sizeOf205
 v46 := Tryz.zeroValue205
 t50 := Tryz.underlying197
 a50 := Tryz.isAgg197
 z50 := Tryz.sizeOf197
 v50 := Tryz.zeroValue197
 t53 := Tryz.underlying212
 a53 := Tryz.isAgg212
 z53 := Tryz.sizeOf212
 v53 := Tryz.zeroValue212
 t55 := Tryz.underlying214
 a55 := Tryz.isAgg214
 z55 := Tryz.sizeOf214
 v55 := Tryz.zeroValue214
 t66 := Tryz.underlying236
 a66 := Tryz.isAgg236
 z66 := Tryz.sizeOf236
 v66 := Tryz.zeroValue236
 t70 := Tryz.underlying240
 a70 := Tryz.isAgg240
 z70 := Tryz.sizeOf240
 v70 := Tryz.zeroValue240
 t76 := Tryz.underlying250
 a76 := Tryz.isAgg250
 z76 := Tryz.sizeOf250
 v76 := Tryz.zeroValue250
 t77 := Tryz.underlying251
 a77 := Tryz.isAgg251
 z77 := Tryz.sizeOf251
 v77 := Tryz.zeroValue251
 }
def Tryz.sortN_ren : Go.Shelf.Ren := ⟨fun | 6 => 118 | 14 => 144 | 15 => 135 | 28 => 157 | 29 => 158 | 46 => 203 | 47 => 194 | 48 => 195 | 49 => 204 | 50 => 205 | 57 => 214 | 20 => 169 | 21 => 170 | 22 => 171 | 23 => 172 | 24 => 173 | 25 => 174 | 26 => 175 | 27 => 176 | n => n, fun | 39 => 190 | 53 => 212 | 55 => 214 | 46 => 205 | 45 => 204 | 50 => 197 | 66 => 236 | 70 => 240 | 76 => 250 | 77 => 251 | 22 => 24 | 24 => 102 | 25 => 121 | n => n, fun n => n⟩
theorem Tryz.sortN : Go.Proofs.SlLaysF0.n6 Tryz.prog Tryz.sortN_ren := {
 mixed := by kernel_rfl
 f6 := ⟨Tryz.f118.name, by decide, Tryz.func118.trans (congrArg some (by kernel_rfl))⟩
 f14 := ⟨Tryz.f144.name, by decide, Tryz.func144.trans (congrArg some (by kernel_rfl))⟩
 f15 := Tryz.func135.trans (congrArg some (by kernel_rfl))
 f20 := ⟨Tryz.f169.name, by decide, Tryz.func169.trans (congrArg some (by kernel_rfl))⟩
 f21 := ⟨Tryz.f170.name, by decide, Tryz.func170.trans (congrArg some (by kernel_rfl))⟩
 f22 := ⟨Tryz.f171.name, by decide, Tryz.func171.trans (congrArg some (by kernel_rfl))⟩
 f23 := ⟨Tryz.f172.name, by decide, Tryz.func172.trans (congrArg some (by kernel_rfl))⟩
 f24 := ⟨Tryz.f173.name, by decide, Tryz.func173.trans (congrArg some (by kernel_rfl))⟩
 f25 := ⟨Tryz.f174.name, by decide, Tryz.func174.trans (congrArg some (by kernel_rfl))⟩
 f26 := ⟨Tryz.f175.name, by decide, Tryz.func175.trans (congrArg some (by kernel_rfl))⟩
 f27 := ⟨Tryz.f176.name, by decide, Tryz.func176.trans (congrArg some (by kernel_rfl))⟩
 f28 := Tryz.func157.trans (congrArg some (by kernel_rfl))
 f29 := Tryz.func158.trans (congrArg some (by kernel_rfl))
 f46 := ⟨Tryz.f203.name, by decide, Tryz.func203.trans (congrArg some (by kernel_rfl))⟩
 f47 := Tryz.func194.trans (congrArg some (by kernel_rfl))
 f48 := Tryz.func195.trans (congrArg some (by kernel_rfl))
 f49 := ⟨Tryz.f204.name, by decide, Tryz.func204.trans (congrArg some (by kernel_rfl))⟩
 f50 := ⟨Tryz.f205.name, by decide, Tryz.func205.trans (congrArg some (by kernel_rfl))⟩
 f57 := ⟨Tryz.f214.name, by decide, Tryz.func214.trans (congrArg some (by kernel_rfl))⟩
 t0 := Tryz.underlying0
 a0 := Tryz.isAgg0
 z0 := Tryz.sizeOf0
 v0 := Tryz.zeroValue0
 t3 := Tryz.underlying3
 a3 := Tryz.isAgg3
 z3 := Tryz.sizeOf3
 v3 := Tryz.zeroValue3
 t4 := Tryz.underlying4
 a4 := Tryz.isAgg4
 z4 := Tryz.sizeOf4
 v4 := Tryz.zeroValue4
 t5 := Tryz.underlying5
 a5 := Tryz.isAgg5
 z5 := Tryz.sizeOf5
 v5 := Tryz.zeroValue5
 t9 := Tryz.underlying9
 a9 := Tryz.isAgg9
 z9 := Tryz.sizeOf9
 v9 := Tryz.zeroValue9
 t22 := Tryz.underlying24
 a22 := Tryz.isAgg24
 z22 := Tryz.sizeOf24
 v22 := Tryz.zeroValue24
 t25 := Tryz.underlying121
 a25 := Tryz.isAgg121
 z25 := Tryz.sizeOf121
 v25 := Tryz.zeroValue121
 t39 := Tryz.underlying190
 a39 := Tryz.isAgg190
 z39 := Tryz.sizeOf190
 v39 := Tryz.zeroValue190
 t45 := Tryz.underlying204
 a45 := Tryz.isAgg204
 z45 := Tryz.sizeOf204
 v45 := Tryz.zeroValue204
 t46 := Tryz.underlying205
 a46 := Tryz.isAgg205
 z46 := Tryz.sizeOf205
 v46 := Tryz.zeroValue205
 t50 := Tryz.underlying197
 a50 := Tryz.isAgg197
 z50 := Tryz.sizeOf197
 v50 := Tryz.zeroValue197
 t53 := Tryz.underlying212
 a53 := Tryz.isAgg212
 z53 := Tryz.sizeOf212
 v53 := Tryz.zeroValue212
 t55 := Tryz.underlying214
 a55 := Tryz.isAgg214
 z55 := Tryz.sizeOf214
 v55 := Tryz.zeroValue214
 t66 := Tryz.underlying236
 a66 := Tryz.isAgg236
 z66 := Tryz.sizeOf236
 v66 := Tryz.zeroValue236
 t70 := Tryz.underlying240
 a70 := Tryz.isAgg240
 z70 := Tryz.sizeOf240
 v70 := Tryz.zeroValue240
 t76 := Tryz.underlying250
 a76 := Tryz.isAgg250
 z76 := Tryz.sizeOf250
 v76 := Tryz.zeroValue250
 t77 := Tryz.underlying251
 a77 := Tryz.isAgg251
 z77 := Tryz.sizeOf251
 v77 := Tryz.zeroValue251
 }
def Tryz.sortR_ren : Go.Shelf.Ren := ⟨fun | 6 => 120 | 14 => 145 | 15 => 135 | 28 => 157 | 29 => 158 | 46 => 206 | 47 => 194 | 48 => 195 | 49 => 207 | 50 => 208 | 57 => 215 | 20 => 177 | 21 => 178 | 22 => 179 | 23 => 180 | 24 => 181 | 25 => 182 | 26 => 183 | 27 => 184 | n => n, fun | 39 => 190 | 53 => 212 | 55 => 214 | 46 => 205 | 45 => 204 | 50 => 197 | 66 => 236 | 70 => 240 | 76 => 250 | 77 => 251 | 22 => 25 | 24 => 108 | 25 => 165 | n => n, fun n => n⟩
theorem Tryz.sortR : Go.Proofs.SlLaysF0.n6 Tryz.prog Tryz.sortR_ren := {
 mixed := by kernel_rfl
 f6 := ⟨Tryz.f120.name, by decide, Tryz.func120.trans (congrArg some (by kernel_rfl))⟩
 f14 := ⟨Tryz.f145.name, by decide, Tryz.func145.trans (congrArg some (by kernel_rfl))⟩
 f15 := Tryz.func135.trans (congrArg some (by kernel_rfl))
 f20 := ⟨Tryz.f177.name, by decide, Tryz.func177.trans (congrArg some (by kernel_rfl))⟩
 f21 := ⟨Tryz.f178.name, by decide, Tryz.func178.trans (congrArg some (by kernel_rfl))⟩
 f22 := ⟨Tryz.f179.name, by decide, Tryz.func179.trans (congrArg some (by kernel_rfl))⟩
 f23 := ⟨Tryz.f180.name, by decide, Tryz.func180.trans (congrArg some (by kernel_rfl))⟩
 f24 := ⟨Tryz.f181.name, by decide, Tryz.func181.trans (congrArg some (by kernel_rfl))⟩
 f25 := ⟨Tryz.f182.name, by decide, Tryz.func182.trans (congrArg some (by kernel_rfl))⟩
 f26 := ⟨Tryz.f183.name, by decide, Tryz.func183.trans (congrArg some (by kernel_rfl))⟩
 f27 := ⟨Tryz.f184.name, by decide, Tryz.func184.trans (congrArg some (by kernel_rfl))⟩
 f28 := Tryz.func157.trans (congrArg some (by kernel_rfl))
 f29 := Tryz.func158.trans (congrArg some (by kernel_rfl))
 f46 := ⟨Tryz.f206.name, by decide, Tryz.func206.trans (congrArg some (by kernel_rfl))⟩
 f47 := Tryz.func194.trans (congrArg some (by kernel_rfl))
 f48 := Tryz.func195.trans (congrArg some (by kernel_rfl))
 f49 := ⟨Tryz.f207.name, by decide, Tryz.func207.trans (congrArg some (by kernel_rfl))⟩
 f50 := ⟨Tryz.f208.name, by decide, Tryz.func208.trans (congrArg some (by kernel_rfl))⟩
 f57 := ⟨Tryz.f215.name, by decide, Tryz.func215.trans (congrArg some (by kernel_rfl))⟩
 t0 := Tryz.underlying0
 a0 := Tryz.isAgg0
 z0 := Tryz.sizeOf0
 v0 := Tryz.zeroValue0
 t3 := Tryz.underlying3
 a3 := Tryz.isAgg3
 z3 := Tryz.sizeOf3
 v3 := Tryz.zeroValue3
 t4 := Tryz.underlying4
 a4 := Tryz.isAgg4
 z4 := Tryz.sizeOf4
 v4 := Tryz.zeroValue4
 t5 := Tryz.underlying5
 a5 := Tryz.isAgg5
 z5 := Tryz.sizeOf5
 v5 := Tryz.zeroValue5
 t9 := Tryz.underlying9
 a9 := Tryz.isAgg9
 z9 := Tryz.sizeOf9
 v9 := Tryz.zeroValue9
 t22 := Tryz.underlying25
 a22 := Tryz.isAgg25
 z22 := Tryz.sizeOf25
 v22 := Tryz.zeroValue25
 t25 := Tryz.underlying165
 a25 := Tryz.isAgg165
 z25 := Tryz.sizeOf165
 v25 := Tryz.zeroValue165
 t39 := Tryz.underlying190
 a39 := Tryz.isAgg190
 z39 := Tryz.sizeOf190
 v39 := Tryz.zeroValue190
 t45 := Tryz.underlying204
 a45 := Tryz.isAgg204
 z45 := Tryz.sizeOf204
 v45 := Tryz.zeroValue204
 t46 := Tryz.underlying205
 a46 := Tryz.isAgg205
 z46 := Tryz.sizeOf205
 v46 := Tryz.zeroValue205
 t50 := Tryz.underlying197
 a50 := Tryz.isAgg197
 z50 := Tryz.sizeOf197
 v50 := Tryz.zeroValue197
 t53 := Tryz.underlying212
 a53 := Tryz.isAgg212
 z53 := Tryz.sizeOf212
 v53 := Tryz.zeroValue212
 t55 := Tryz.underlying214
 a55 := Tryz.isAgg214
 z55 := Tryz.sizeOf214
 v55 := Tryz.zeroValue214
 t66 := Tryz.underlying236
 a66 := Tryz.isAgg236
 z66 := Tryz.sizeOf236
 v66 := Tryz.zeroValue236
 t70 := Tryz.underlying240
 a70 := Tryz.isAgg240
 z70 := Tryz.sizeOf240
 v70 := Tryz.zeroValue240
 t76 := Tryz.underlying250
 a76 := Tryz.isAgg250
 z76 := Tryz.sizeOf250
 v76 := Tryz.zeroValue250
 t77 := Tryz.underlying251
 a77 := Tryz.isAgg251
 z77 := Tryz.sizeOf251
 v77 := Tryz.zeroValue251
 }
def Tryz.sortU_ren : Go.Shelf.Ren := ⟨fun | 6 => 121 | 14 => 146 | 15 => 135 | 28 => 157 | 29 => 158 | 46 => 209 | 47 => 194 | 48 => 195 | 49 => 210 | 50 => 211 | 57 => 216 | 20 => 185 | 21 => 186 | 22 => 187 | 23 => 188 | 24 => 189 | 25 => 190 | 26 => 191 | 27 => 192 | n => n, fun | 39 => 190 | 53 => 212 | 55 => 214 | 46 => 205 | 45 => 204 | 50 => 197 | 66 => 236 | 70 => 240 | 76 => 250 | 77 => 251 | 22 => 26 | 24 => 111 | 25 => 169 | n => n, fun n => n⟩
theorem Tryz.sortU : Go.Proofs.SlLaysF0.n6 Tryz.prog Tryz.sortU_ren := {
 mixed := by kernel_rfl
 f6 := ⟨Tryz.f121.name, by decide, Tryz.func121.trans (congrArg some (by kernel_rfl))⟩
 f14 := ⟨Tryz.f146.name, by decide, Tryz.func146.trans (congrArg some (by kernel_rfl))⟩
 f15 := Tryz.func135.trans (congrArg some (by kernel_rfl))
 f20 := ⟨Tryz.f185.name, by decide, Tryz.func185.trans (congrArg some (by kernel_rfl))⟩
 f21 := ⟨Tryz.f186.name, by decide, Tryz.func186.trans (congrArg some (by kernel_rfl))⟩
 f22 := ⟨Tryz.f187.name, by decide, Tryz.func187.trans (congrArg some (by kernel_rfl))⟩
 f23 := ⟨Tryz.f188.name, by decide, Tryz.func188.trans (congrArg some (by kernel_rfl))⟩
 f24 := ⟨Tryz.f189.name, by decide, Tryz.func189.trans (congrArg some (by kernel_rfl))⟩
 f25 := ⟨Tryz.f190.name, by decide, Tryz.func190.trans (congrArg some (by kernel_rfl))⟩
 f26 := ⟨Tryz.f191.name, by decide, Tryz.func191.trans (congrArg some (by kernel_rfl))⟩
 f27 := ⟨Tryz.f192.name, by decide, Tryz.func192.trans (congrArg some (by kernel_rfl))⟩
 f28 := Tryz.func157.trans (congrArg some (by kernel_rfl))
 f29 := Tryz.func158.trans (congrArg some (by kernel_rfl))
 f46 := ⟨Tryz.f209.name, by decide, Tryz.func209.trans (congrArg some (by kernel_rfl))⟩
 f47 := Tryz.func194.trans (congrArg some (by kernel_rfl))
 f48 := Tryz.func195.trans (congrArg some (by kernel_rfl))
 f49 := ⟨Tryz.f210.name, by decide, Tryz.func210.trans (congrArg some (by kernel_rfl))⟩
 f50 := ⟨Tryz.f211.name, by decide, Tryz.func211.trans (congrArg some (by kernel_rfl))⟩
 f57 := ⟨Tryz.f216.name, by decide, Tryz.func216.trans (congrArg some (by kernel_rfl))⟩
 t0 := Tryz.underlying0
 a0 := Tryz.isAgg0
 z0 := Tryz.sizeOf0
 v0 := Tryz.zeroValue0
 t3 := Tryz.underlying3
 a3 := Tryz.isAgg3
 z3 := Tryz.sizeOf3
 v3 := Tryz.zeroValue3
 t4 := Tryz.underlying4
 a4 := Tryz.isAgg4
 z4 := Tryz.sizeOf4
 v4 := Tryz.zeroValue4
 t5 := Tryz.underlying5
 a5 := Tryz.isAgg5
 z5 := Tryz.sizeOf5
 v5 := Tryz.zeroValue5
 t9 := Tryz.underlying9
 a9 := Tryz.isAgg9
 z9 := Tryz.sizeOf9
 v9 := Tryz.zeroValue9
 t22 := Tryz.underlying26
 a22 := Tryz.isAgg26
 z22 := Tryz.sizeOf26
 v22 := Tryz.zeroValue26
 t25 := Tryz.underlying169
 a25 := Tryz.isAgg169
 z25 := Tryz.sizeOf169
 v25 := Tryz.zeroValue169
 t39 := Tryz.underlying190
 a39 := Tryz.isAgg190
 z39 := Tryz.sizeOf190
 v39 := Tryz.zeroValue190
 t45 := Tryz.underlying204
 a45 := Tryz.isAgg204
 z45 := Tryz.sizeOf204
 v45 := Tryz.zeroValue204
 t46 := Tryz.underlying205
 a46 := Tryz.isAgg205
 z46 := Tryz.sizeOf205
 v46 := Tryz.zeroValue205
 t50 := Tryz.underlying197
 a50 := Tryz.isAgg197
 z50 := Tryz.sizeOf197
 v50 := Tryz.zeroValue197
 t53 := Tryz.underlying212
 a53 := Tryz.isAgg212
 z53 := Tryz.sizeOf212
 v53 := Tryz.zeroValue212
 t55 := Tryz.underlying214
 a55 := Tryz.isAgg214
 z55 := Tryz.sizeOf214
 v55 := Tryz.zeroValue214
 t66 := Tryz.underlying236
 a66 := Tryz.isAgg236
 z66 := Tryz.sizeOf236
 v66 := Tryz.zeroValue236
 t70 := Tryz.underlying240
 a70 := Tryz.isAgg240
 z70 := Tryz.sizeOf240
 v70 := Tryz.zeroValue240
 t76 := Tryz.underlying250
 a76 := Tryz.isAgg250
 z76 := Tryz.sizeOf250
 v76 := Tryz.zeroValue250
 t77 := Tryz.underlying251
 a77 := Tryz.isAgg251
 z77 := Tryz.sizeOf251
 v77 := Tryz.zeroValue251
 }
def Tryz.sortS_ren : Go.Shelf.Ren := ⟨fun | 125 => 135 | 128 => 157 | 129 => 158 | 190 => 90 | 258 => 134 | 329 => 194 | 330 => 195 | 333 => 193 | 334 => 196 | 335 => 197 | 336 => 198 | 344 => 212 | 302 => 148 | 303 => 149 | 304 => 150 | 305 => 151 | 306 => 152 | 307 => 153 | 308 => 154 | 309 => 155 | 310 => 156 | n => n, fun | 31 => 87 | 46 => 190 | 51 => 212 | 53 => 214 | 131 => 197 | 182 => 204 | 183 => 205 | 218 => 236 | 222 => 240 | 228 => 250 | 229 => 251 | n => n, fun n => n⟩
theorem Tryz.sortS : Go.Proofs.Lays.n190 Tryz.prog Tryz.sortS_ren := {
 mixed := by kernel_rfl
 f125 := Tryz.func135.trans (congrArg some (by kernel_rfl))
 f128 := Tryz.func157.trans (congrArg some (by kernel_rfl))
 f129 := Tryz.func158.trans (congrArg some (by kernel_rfl))
 f190 := Tryz.func90.trans (congrArg some (by kernel_rfl))
 f258 := Tryz.func134.trans (congrArg some (by kernel_rfl))
 f302 := Tryz.func148.trans (congrArg some (by kernel_rfl))
 f303 := Tryz.func149.trans (congrArg some (by kernel_rfl))
 f304 := Tryz.func150.trans (congrArg some (by kernel_rfl))
 f305 := Tryz.func151.trans (congrArg some (by kernel_rfl))
 f306 := Tryz.func152.trans (congrArg some (by kernel_rfl))
 f307 := Tryz.func153.trans (congrArg some (by kernel_rfl))
 f308 := Tryz.func154.trans (congrArg some (by kernel_rfl))
 f309 := Tryz.func155.trans (congrArg some (by kernel_rfl))
 f310 := Tryz.func156.trans (congrArg some (by kernel_rfl))
 f329 := Tryz.func194.trans (congrArg some (by kernel_rfl))
 f330 := Tryz.func195.trans (congrArg some (by kernel_rfl))
 f333 := Tryz.func193.trans (congrArg some (by kernel_rfl))
 f334 := Tryz.func196.trans (congrArg some (by kernel_rfl))
 f335 := Tryz.func197.trans (congrArg some (by kernel_rfl))
 f336 := Tryz.func198.trans (congrArg some (by kernel_rfl))
 f344 := Tryz.func212.trans (congrArg some (by kernel_rfl))
 t0 := Tryz.underlying0
 a0 := Tryz.isAgg0
 z0 := Tryz.sizeOf0
 v0 := Tryz.zeroValue0
 t3 := Tryz.underlying3
 a3 := Tryz.isAgg3
 z3 := Tryz.sizeOf3
 v3 := Tryz.zeroValue3
 t4 := Tryz.underlying4
 a4 := Tryz.isAgg4
 z4 := Tryz.sizeOf4
 v4 := Tryz.zeroValue4
 t5 := Tryz.underlying5
 a5 := Tryz.isAgg5
 z5 := Tryz.sizeOf5
 v5 := Tryz.zeroValue5
 t9 := Tryz.underlying9
 a9 := Tryz.isAgg9
 z9 := Tryz.sizeOf9
 v9 := Tryz.zeroValue9
 t31 := Tryz.underlying87
 a31 := Tryz.isAgg87
 z31 := Tryz.sizeOf87
 v31 := Tryz.zeroValue87
 t46 := Tryz.underlying190
 a46 := Tryz.isAgg190
 z46 := Tryz.sizeOf190
 v46 := Tryz.zeroValue190
 t51 := Tryz.underlying212
 a51 := Tryz.isAgg212
 z51 := Tryz.sizeOf212
 v51 := Tryz.zeroValue212
 t53 := Tryz.underlying214
 a53 := Tryz.isAgg214
 z53 := Tryz.sizeOf214
 v53 := Tryz.zeroValue214
 t131 := Tryz.underlying197
 a131 := Tryz.isAgg197
 z131 := Tryz.sizeOf197
 v131 := Tryz.zeroValue197
 t182 := Tryz.underlying204
 a182 := Tryz.isAgg204
 z182 := Tryz.sizeOf204
 v182 := Tryz.zeroValue204
 t183 := Tryz.underlying205
 a183 := Tryz.isAgg205
 z183 := Tryz.sizeOf205
 v183 := Tryz.zeroValue205
 t218 := Tryz.underlying236
 a218 := Tryz.isAgg236
 z218 := Tryz.sizeOf236
 v218 := Tryz.zeroValue236
 t222 := Tryz.underlying240
 a222 := Tryz.isAgg240
 z222 := Tryz.sizeOf240
 v222 := Tryz.zeroValue240
 t228 := Tryz.underlying250
 a228 := Tryz.isAgg250
 z228 := Tryz.sizeOf250
 v228 := Tryz.zeroValue250
 t229 := Tryz.underlying251
 a229 := Tryz.isAgg251
 z229 := Tryz.sizeOf251
 v229 := Tryz.zeroValue251
 }
def Tryz.compS_ren : Go.Shelf.Ren := ⟨fun | 194 => 91 | n => n, fun | 31 => 87 | n => n, fun n => n⟩
theorem Tryz.compS : Go.Proofs.Lays.n194 Tryz.prog Tryz.compS_ren := {
 mixed := by kernel_rfl
 f194 := Tryz.func91.trans (congrArg some (by kernel_rfl))
 t0 := Tryz.underlying0
 a0 := Tryz.isAgg0
 z0 := Tryz.sizeOf0
 v0 := Tryz.zeroValue0
 t3 := Tryz.underlying3
 a3 := Tryz.isAgg3
 z3 := Tryz.sizeOf3
 v3 := Tryz.zeroValue3
 t4 := Tryz.underlying4
 a4 := Tryz.isAgg4
 z4 := Tryz.sizeOf4
 v4 := Tryz.zeroValue4
 t9 := Tryz.underlying9
 a9 := Tryz.isAgg9
 z9 := Tryz.sizeOf9
 v9 := Tryz.zeroValue9
 t31 := Tryz.underlying87
 a31 := Tryz.isAgg87
 z31 := Tryz.sizeOf87
 v31 := Tryz.zeroValue87
 }
def Tryz.cloneI_ren : Go.Shelf.Ren := ⟨fun | 15 => 116 | n => n, fun | n => n, fun n => n⟩
theorem Tryz.cloneI : Go.Proofs.Lays2.n15 Tryz.prog Tryz.cloneI_ren := {
 mixed := by kernel_rfl
 f15 := Tryz.func116.trans (congrArg some (by kernel_rfl))
 t3 := Tryz.underlying3
 a3 := Tryz.isAgg3
 z3 := Tryz.sizeOf3
 v3 := Tryz.zeroValue3
 t4 := Tryz.underlying4
 a4 := Tryz.isAgg4
 z4 := Tryz.sizeOf4
 v4 := Tryz.zeroValue4
 t22 := Tryz.underlying22
 a22 := Tryz.isAgg22
 z22 := Tryz.sizeOf22
 v22 := Tryz.zeroValue22
 i3 := by kernel_rfl
 }
end Go.Proofs

namespace Go.Proofs.YtmeaeapopfcmbaaGreat
open Go.RowKit Go.Proofs.YtmeaeapopfcmbaaGreatW.PrintWords Go.Proofs.YtmeaeapopfcmbaaGreatW.PrintLast Go.Proofs.YtmeaeapopfcmbaaGreatW.PrintMore PP Go.Sort
set_option linter.unusedVariables false
set_option linter.unusedSimpArgs false
set_option maxHeartbeats 4000000
set_option maxRecDepth 100000
def encT (x : S99) : List Value := [.int .i64 x.f0, .string x.f1, .int .i64 x.f2.f0, .int .i64 x.f2.f1]
def encN (x : S102) : List Value := [.int .i64 x.f0, .string x.f1, .int .i64 x.f2, .int .i64 x.f3]
def encR (x : S108) : List Value := [.int .i64 x.f0, .int .i64 x.f1, .int .i64 x.f2, .int .i64 x.f3]
def encU (x : S111) : List Value := [.int .i64 x.f0, .int .i64 x.f1, .int .i64 x.f2]
theorem cmpT_gr (x y : S99) (W : World) : Calls Tryz.prog 98 #[.agg (encT x).toArray, .agg (encT y).toArray] W fun e w' => e = .returned (.int .i64 (cmpT x y)) ∧ Gr W w' :=
  compareTags_gr 9 x.f0 x.f1 x.f2.f0 x.f2.f1 y.f0 y.f1 y.f2.f0 y.f2.f1 _ _ _ _ _ W (compare_f _ _) rfl (compare_f _ _) (compare_f _ _) (or_f4 _ _ _ _)
theorem cmpR_gr (x y : S108) (W : World) : Calls Tryz.prog 107 #[.agg (encR x).toArray, .agg (encR y).toArray] W fun e w' => e = .returned (.int .i64 (cmpR x y)) ∧ Gr W w' :=
  compareRights_gr 9 x.f0 x.f1 x.f2 x.f3 y.f0 y.f1 y.f2 y.f3 _ _ _ _ W (compare_f _ _) (compare_f _ _) (compare_f _ _) (or_f3 _ _ _)
theorem cmpU_gr (x y : S111) (W : World) : Calls Tryz.prog 111 #[.agg (encU x).toArray, .agg (encU y).toArray] W fun e w' => e = .returned (.int .i64 (cmpU x y)) ∧ Gr W w' :=
  compareUsed_gr 9 x.f0 x.f1 x.f2 y.f0 y.f1 y.f2 _ _ _ W (compare_f _ _) (compare_f _ _) (or_f2 _ _)
theorem cmpM_gr (x y : S102) (W : World) : Calls Tryz.prog 119 #[.agg (encN x).toArray, .agg (encN y).toArray] W fun e w' => e = .returned (.int .i64 (cmpM x y)) ∧ Gr W w' := by
  have C := Hd.mk (fun W' => cmp_Compare_int.calls x.f0 y.f0 _ W' (compare_f _ _))
  have E := Hd.mk (show cmpM x y = cmpI x.f0 y.f0 from rfl)
  obtain ⟨x0, x1, x2, x3⟩ := x
  obtain ⟨y0, y1, y2, y3⟩ := y
  generalize cmpM _ _ = r at *
  simp only at C E
  generalize cmpI x0 y0 = q at *
  obtain rfl := E.out
  clear E
  simp only [encN]
  go_enter Tryz.func119, Tryz.ntmps119
  go_wp2_with fail
  refine (C.out _).mono ?_
  rintro e w1 ⟨rfl, n, rfl⟩
  go_wp2_with fail
  go_ret
  exact ⟨rfl, (((Gr.refl _).alloc _).alloc _).drewN n⟩
theorem sortT_k : SortK k99 4 encT cmpT 117 98 where
  sz := rfl
  len := fun _ => rfl
  k0 := by decide
  opn := fun {W b ok x cs} h => by have := k99_openM h; simpa [encT] using this
  mke := fun W b ok x => k99_mkM _ _ _ x
  none := fun W => by
    have h := AnyF.slices_SortFunc_none (P := Tryz.prog) (ρ := Tryz.sortT_ren) { Tryz.sortT with } Option.none 0 (.func (.func 98) #[] #[]) W
    exact h
  run := fun blk cap d w hH hblk hsz => by
    have eg : ∀ args w, (callFunc 98 args).run Tryz.prog w = .ok (.enter 98 args) w := enters_of Tryz.func98 (by kernel_rfl) rfl
    have hcmp : CmpLays Tryz.prog 98 #[] encT 4 cmpT blk 0 d.size w := fun m os dk hs x y => cmpT_gr x y _
    have h := AnyQ.slices_SortFunc Tryz.sortT 4 Tryz.isAgg99 Tryz.sizeOf99 encT (fun _ => rfl) (fun x v hv => by simp [encT] at hv; rcases hv with rfl | rfl | rfl | rfl <;> rfl) cmpT (ltOf_swo gcT) 98 #[] blk 0 cap d w eg hcmp hH hblk hsz
    exact h
theorem sortN_k : SortK k102 4 encN cmpM 118 119 where
  sz := rfl
  len := fun _ => rfl
  k0 := by decide
  opn := fun {W b ok x cs} h => by have := k102_openM h; simpa [encN] using this
  mke := fun W b ok x => k102_mkM _ _ _ x
  none := fun W => by
    have h := AnyF.slices_SortFunc_none (P := Tryz.prog) (ρ := Tryz.sortN_ren) { Tryz.sortN with } Option.none 0 (.func (.func 119) #[] #[]) W
    exact h
  run := fun blk cap d w hH hblk hsz => by
    have eg : ∀ args w, (callFunc 119 args).run Tryz.prog w = .ok (.enter 119 args) w := enters_of Tryz.func119 (by kernel_rfl) rfl
    have hcmp : CmpLays Tryz.prog 119 #[] encN 4 cmpM blk 0 d.size w := fun m os dk hs x y => cmpM_gr x y _
    have h := AnyQ.slices_SortFunc Tryz.sortN 4 Tryz.isAgg102 Tryz.sizeOf102 encN (fun _ => rfl) (fun x v hv => by simp [encN] at hv; rcases hv with rfl | rfl | rfl | rfl <;> rfl) cmpM (ltOf_swo gcM) 119 #[] blk 0 cap d w eg hcmp hH hblk hsz
    exact h
theorem sortR_k : SortK k108 4 encR cmpR 120 107 where
  sz := rfl
  len := fun _ => rfl
  k0 := by decide
  opn := fun {W b ok x cs} h => by have := k108_openM h; simpa [encR] using this
  mke := fun W b ok x => k108_mkM _ _ _ x
  none := fun W => by
    have h := AnyF.slices_SortFunc_none (P := Tryz.prog) (ρ := Tryz.sortR_ren) { Tryz.sortR with } Option.none 0 (.func (.func 107) #[] #[]) W
    exact h
  run := fun blk cap d w hH hblk hsz => by
    have eg : ∀ args w, (callFunc 107 args).run Tryz.prog w = .ok (.enter 107 args) w := enters_of Tryz.func107 (by kernel_rfl) rfl
    have hcmp : CmpLays Tryz.prog 107 #[] encR 4 cmpR blk 0 d.size w := fun m os dk hs x y => cmpR_gr x y _
    have h := AnyQ.slices_SortFunc Tryz.sortR 4 Tryz.isAgg108 Tryz.sizeOf108 encR (fun _ => rfl) (fun x v hv => by simp [encR] at hv; rcases hv with rfl | rfl | rfl | rfl <;> rfl) cmpR (ltOf_swo gcR) 107 #[] blk 0 cap d w eg hcmp hH hblk hsz
    exact h
theorem sortU_k : SortK k111 3 encU cmpU 121 111 where
  sz := rfl
  len := fun _ => rfl
  k0 := by decide
  opn := fun {W b ok x cs} h => by have := k111_openM h; simpa [encU] using this
  mke := fun W b ok x => k111_mkM _ _ _ x
  none := fun W => by
    have h := AnyF.slices_SortFunc_none (P := Tryz.prog) (ρ := Tryz.sortU_ren) { Tryz.sortU with } Option.none 0 (.func (.func 111) #[] #[]) W
    exact h
  run := fun blk cap d w hH hblk hsz => by
    have eg : ∀ args w, (callFunc 111 args).run Tryz.prog w = .ok (.enter 111 args) w := enters_of Tryz.func111 (by kernel_rfl) rfl
    have hcmp : CmpLays Tryz.prog 111 #[] encU 3 cmpU blk 0 d.size w := fun m os dk hs x y => cmpU_gr x y _
    have h := AnyQ.slices_SortFunc Tryz.sortU 3 Tryz.isAgg111 Tryz.sizeOf111 encU (fun _ => rfl) (fun x v hv => by simp [encU] at hv; rcases hv with rfl | rfl | rfl <;> rfl) cmpU (ltOf_swo gcU) 111 #[] blk 0 cap d w eg hcmp hH hblk hsz
    exact h
theorem clone_seen (w : World) (k mt mn mw : Nat) (s : List Int) (T : List (S97 × S99)) (N : List (Int × S102)) (Y : List (S131 × Int)) (h : KnowAt w k mt mn mw s T N Y) :
    Calls Tryz.prog 116 #[.slice (some ⟨k, 0, none⟩) 8 8] w fun e w' => ∃ v, e = .returned v ∧ Kd.R (Kd.int .i64) 3 w' w.heap.size (fun _ => True) v s ∧ Below w.heap.size w w' := by
  have hc := Any.slices_Clone_int Tryz.cloneI k 0 8 8 s w (by rw [h.len]; exact Nat.le_refl _) (by decide) (fun j hj => by rw [Nat.zero_add]; exact h.seen j (by rw [← h.len]; exact hj))
  change Calls Tryz.prog 116 _ _ _ at hc
  refine hc.mono ?_
  rintro e w' ⟨v, rfl, ho, _, hb⟩
  have ht : s.take 8 = s := List.take_of_length_le (by rw [h.len]; exact Nat.le_refl _)
  rw [ht] at ho
  refine ⟨v, rfl, ?_, hb⟩
  refine Kd.R_of_own (enc := Value.int .i64) ?_ (fun _ _ => trivial)
  rw [h.len]
  have e1 : encs (Value.int .i64) s = s.map (Value.int .i64) := by simp [encs]
  rw [e1]
  exact ho
end Go.Proofs.YtmeaeapopfcmbaaGreat

namespace Go.Proofs.YtmeaeapopfcmbaaGreat
open Go.RowKit Go.Proofs.YtmeaeapopfcmbaaGreatW.PrintWords Go.Proofs.YtmeaeapopfcmbaaGreatW.PrintLast Go.Proofs.YtmeaeapopfcmbaaGreatW.PrintMore PP
set_option linter.unusedVariables false
set_option linter.unusedSimpArgs false
set_option maxHeartbeats 4000000
set_option maxRecDepth 100000
/-- What a sort does to a row. -/
def Sorts {α : Type} (κ : Kd α) (t : Nat) (c : α → α → Int) (f g : Nat) : Prop := ∀ (W : World) (base : Nat) (v : Value) (xs : List α), Kd.R κ t W base (fun _ => True) v xs → xs.length < 4611686018427387904 → xs.Pairwise (fun x y => c x y ≠ 0) →
  Calls Tryz.prog f #[v, .func (.func g) #[] #[]] W fun e w' => e = .returned (.tuple #[]) ∧ Kd.R κ t w' base (fun _ => True) v (srt c xs) ∧ Below base W w' ∧ ∀ i, some i ≠ v.ownBlock → i < W.heap.size → w'.heap[i]? = W.heap[i]?
theorem SortK.sorts {α : Type} [Inhabited α] {κ : Kd α} {t k : Nat} {enc : α → List Value} {c : α → α → Int} {f g : Nat} (D : SortK κ k enc c f g) (hc : GC c) : Sorts κ t c f g := fun W base v xs h hl hn =>
  (sortK_own D h hl).mono fun e w' ⟨h1, ys, h2, h3, h4, h5, h6⟩ => ⟨h1, by rw [← sorted_srt hc h2 h3 hn]; exact h4, h5, h6⟩
theorem info99 : (Tryz.prog.info? 99).map (fun i => (i.zero, i.size, i.bytes)) = some (some (.agg #[(.int .i64 0), (.string ⟨#[]⟩), (.int .i64 0), (.int .i64 0)]), 4, 40) := by kernel_rfl
theorem info102 : (Tryz.prog.info? 102).map (fun i => (i.zero, i.size, i.bytes)) = some (some (.agg #[(.int .i64 0), (.string ⟨#[]⟩), (.int .i64 0), (.int .i64 0)]), 4, 40) := by kernel_rfl
theorem info108 : (Tryz.prog.info? 108).map (fun i => (i.zero, i.size, i.bytes)) = some (some (.agg #[(.int .i64 0), (.int .i64 0), (.int .i64 0), (.int .i64 0)]), 4, 32) := by kernel_rfl
theorem info111 : (Tryz.prog.info? 111).map (fun i => (i.zero, i.size, i.bytes)) = some (some (.agg #[(.int .i64 0), (.int .i64 0), (.int .i64 0)]), 3, 24) := by kernel_rfl
def CloneSeen (w : World) (k : Nat) (s : List Int) : Prop := ∀ W, Below w.heap.size w W → Calls Tryz.prog 116 #[.slice (some ⟨k, 0, none⟩) 8 8] W fun e w' => ∃ v, e = .returned v ∧ Kd.R (Kd.int .i64) 3 w' W.heap.size (fun _ => True) v s ∧ Below W.heap.size W w'
/-- The lists of a state in the making. -/
def stL (s : List Int) (T : List (S97 × S99)) (N : List (Int × S102)) (Y : List (S131 × Int)) : S28 := ⟨s, T.map Prod.snd, N.map Prod.snd, Y.filterMap toR, Y.filterMap toU⟩
theorem mk_start {w W : World} {v0 : Value} {s : List Int} (hb : Below w.heap.size w W) (hv : Kd.R (Kd.int .i64) 3 W w.heap.size (fun _ => True) v0 s) {rb : Nat} (hr : w.heap.size ≤ rb) (hres : W.heap[rb]? = some (Obj.cells zeroSt 28 (0, 0))) :
    MkSt w rb W.heap.size (W.alloc (.cells #[v0, .slice none 0 0, .slice none 0 0, .slice none 0 0, .slice none 0 0] 28)) v0 (.slice none 0 0) (.slice none 0 0) (.slice none 0 0) (.slice none 0 0) (stL s [] [] []) := by
  have lt := (Array.getElem?_eq_some_iff.1 hres).1
  have BB : Below W.heap.size W (W.alloc (.cells #[v0, .slice none 0 0, .slice none 0 0, .slice none 0 0, .slice none 0 0] 28)) := below_alloc (Below.refl _ _) _
  exact ⟨below_alloc hb _, hb.size, hr, by omega, alloc_at _ _ _ rfl, (BB.block _ lt).trans hres, ⟨Kd.R_below hv BB, Kd.R_nil _ _ _ _ _, Kd.R_nil _ _ _ _ _, Kd.R_nil _ _ _ _ _, Kd.R_nil _ _ _ _ _⟩⟩
theorem R_ne_map {α β γ : Type} {C : MK Tryz.prog α β} {w : World} {b : Nat} {L : List (α × β)} (h : MapIs C w b L) {d : Kd γ} {e base : Nat} {ok : Nat → Prop} {v : Value} {xs : List γ} (hv : Kd.R d e w base ok v xs) : some b ≠ v.ownBlock := by
  intro e1
  obtain ⟨cs, hc⟩ := R_block hv e1.symm
  exact h.ne hc rfl
theorem R_ne_rng {α β γ : Type} [DecidableEq α] {C : MK Tryz.prog α β} {w : World} {b r c : Nat} {L outs : List (α × β)} (h : Rng C w b r L outs c) {d : Kd γ} {e base : Nat} {ok : Nat → Prop} {v : Value} {xs : List γ} (hv : Kd.R d e w base ok v xs) : some r ≠ v.ownBlock := by
  intro e1
  obtain ⟨cs, hc⟩ := R_block hv e1.symm
  exact h.notcells hc
/-- A row has grown, a cell has been written: what is ranged over is as it was. -/
theorem Rng.app {α β γ : Type} [DecidableEq α] {C : MK Tryz.prog α β} {w w' : World} {b r c sb i : Nat} {L outs : List (α × β)} (h : Rng C w b r L outs c) {d : Kd γ} {e base : Nat} {ok : Nat → Prop} {v : Value} {xs : List γ} (hv : Kd.R d e w base ok v xs) (hg : w.grownBy w' v.ownBlock) {cs : Array Value} {t : Nat} (hb : w.heap[sb]? = some (Obj.cells cs t (0, 0))) (u : Value) : Rng C (w'.setCell ⟨sb, i, none⟩ u) b r L outs c := by
  refine h.at ?_ ?_
  · exact (Below.heap_setCell _ _ _ _ (h.map.ne hb).symm).trans (hg.block b h.map.lt (R_ne_map h.map hv))
  · exact (Below.heap_setCell _ _ _ _ (fun e => h.notcells (by rw [e]; exact hb))).trans (hg.block r h.lt (R_ne_rng h hv))
theorem stL_T (s : List Int) (T : List (S97 × S99)) (N : List (Int × S102)) (Y : List (S131 × Int)) (p : S97 × S99) : { stL s T N Y with f1 := (stL s T N Y).f1 ++ [p.2] } = stL s (T ++ [p]) N Y := by simp [stL]
theorem stL_N (s : List Int) (T : List (S97 × S99)) (N : List (Int × S102)) (Y : List (S131 × Int)) (p : Int × S102) : { stL s T N Y with f2 := (stL s T N Y).f2 ++ [p.2] } = stL s T (N ++ [p]) Y := by simp [stL]
theorem stL_U (s : List Int) (T : List (S97 × S99)) (N : List (Int × S102)) (Y : List (S131 × Int)) (x0 x1 x2 a : Int) (h : x2 = -1) : { stL s T N Y with f4 := (stL s T N Y).f4 ++ [⟨x0, x1, a⟩] } = stL s T N (Y ++ [(⟨x0, x1, x2⟩, a)]) := by simp [stL, toR, toU, h, List.filterMap_append]
theorem stL_R (s : List Int) (T : List (S97 × S99)) (N : List (Int × S102)) (Y : List (S131 × Int)) (x0 x1 x2 a : Int) (h : ¬ x2 = -1) : { stL s T N Y with f3 := (stL s T N Y).f3 ++ [⟨x0, x1, x2, a⟩] } = stL s T N (Y ++ [(⟨x0, x1, x2⟩, a)]) := by simp [stL, toR, toU, h, List.filterMap_append]
theorem Kv.perm {s : List Int} {T T' : List (S97 × S99)} {N N' : List (Int × S102)} {Y Y' : List (S131 × Int)} (h : Kv s T N Y) (hT : T'.Perm T) (hN : N'.Perm N) (hY : Y'.Perm Y) : Kv s T' N' Y' :=
  ⟨h.sl, h.sr, fun p hp => h.tk p (hT.mem_iff.1 hp), (hT.map _).nodup_iff.2 h.tn, fun p hp => h.nk p (hN.mem_iff.1 hp), (hN.map _).nodup_iff.2 h.nn, fun p hp => h.yk p (hY.mem_iff.1 hp), (hY.map _).nodup_iff.2 h.yn⟩
theorem mk_end {w W : World} {rb sb : Nat} {v0 v1 v2 v3 v4 : Value} {S : S28} (h : MkSt w rb sb W v0 v1 v2 v3 v4 S) :
    (((((W.setCell ⟨rb, 0, none⟩ v0).setCell ⟨rb, 1, none⟩ v1).setCell ⟨rb, 2, none⟩ v2).setCell ⟨rb, 3, none⟩ v3).setCell ⟨rb, 4, none⟩ v4).heap[rb]? = some (Obj.cells #[v0, v1, v2, v3, v4] 28 (0, 0)) ∧
    StR w.heap.size (((((W.setCell ⟨rb, 0, none⟩ v0).setCell ⟨rb, 1, none⟩ v1).setCell ⟨rb, 2, none⟩ v2).setCell ⟨rb, 3, none⟩ v3).setCell ⟨rb, 4, none⟩ v4) v0 v1 v2 v3 v4 S ∧
    Below w.heap.size w (((((W.setCell ⟨rb, 0, none⟩ v0).setCell ⟨rb, 1, none⟩ v1).setCell ⟨rb, 2, none⟩ v2).setCell ⟨rb, 3, none⟩ v3).setCell ⟨rb, 4, none⟩ v4) := by
  have e1 := heap_setCell_same W rb 0 _ 28 v0 h.res
  have e2 := heap_setCell_same _ rb 1 _ 28 v1 e1
  have e3 := heap_setCell_same _ rb 2 _ 28 v2 e2
  have e4 := heap_setCell_same _ rb 3 _ 28 v3 e3
  have e5 := heap_setCell_same _ rb 4 _ 28 v4 e4
  refine ⟨e5, h.st.keep fun q hq k cells hc => ?_, ((((h.base.setCell (p := ⟨rb, 0, none⟩) h.rlo _).setCell (p := ⟨rb, 1, none⟩) h.rlo _).setCell (p := ⟨rb, 2, none⟩) h.rlo _).setCell (p := ⟨rb, 3, none⟩) h.rlo _).setCell (p := ⟨rb, 4, none⟩) h.rlo _⟩
  have hk : k ≠ rb := by
    rintro rfl
    rw [h.res] at hc
    injection hc with hc
    injection hc with _ hc
    rcases hq with rfl | rfl | rfl | rfl | rfl <;> exact absurd hc (by decide)
  exact (Below.heap_setCell _ _ _ _ hk).trans ((Below.heap_setCell _ _ _ _ hk).trans ((Below.heap_setCell _ _ _ _ hk).trans ((Below.heap_setCell _ _ _ _ hk).trans (Below.heap_setCell _ _ _ _ hk))))
theorem state_run' (sT : Sorts k99 99 cmpT 117 98) (sN : Sorts k102 102 cmpM 118 119) (sR : Sorts k108 108 cmpR 120 107) (sU : Sorts k111 111 cmpU 121 111) (w : World) (k mt mn mw : Nat) (s : List Int) (T : List (S97 × S99)) (N : List (Int × S102)) (Y : List (S131 × Int)) (cl : CloneSeen w k s) (h : KnowAt w k mt mn mw s T N Y) (kv : Kv s T N Y) (hl : T.length ≤ 1000 ∧ N.length ≤ 1000) :
    Calls Tryz.prog 62 #[.pointer (some ⟨k, 0, none⟩)] w fun e w' => ∃ v0 v1 v2 v3 v4, e = .returned (.agg #[v0, v1, v2, v3, v4]) ∧ StR w.heap.size w' v0 v1 v2 v3 v4 (mkS s T N Y) ∧ Below w.heap.size w w' := by
  have ST := Hd.mk sT
  have SN := Hd.mk sN
  have SR := Hd.mk sR
  have SU := Hd.mk sU
  have CL := Hd.mk cl
  have HK := Hd.mk h
  have KV := Hd.mk kv
  have HL := Hd.mk hl
  clear sT sN sR sU cl h kv hl
  have hz := Tryz.zeroValue28
  go_enter Tryz.func62, Tryz.ntmps62
  go_wp2_with fail
  have B0 := Hd.mk (show Below w.heap.size w (w.alloc (.cells #[.slice none 0 0, .slice none 0 0, .slice none 0 0, .slice none 0 0, .slice none 0 0] 28)) from below_alloc (Below.refl _ _) _)
  have RB := Hd.mk (alloc_at w (.cells #[.slice none 0 0, .slice none 0 0, .slice none 0 0, .slice none 0 0, .slice none 0 0] 28) _ rfl)
  refine (CL.out _ B0.out).mono ?_
  rintro e w1 ⟨v0, rfl, hv, hb1⟩
  have MK := Hd.mk (mk_start (B0.out.trans (hb1.mono B0.out.size)) (Kd.R_lower hv B0.out.size) (Nat.le_refl w.heap.size) ((hb1.block _ (Array.getElem?_eq_some_iff.1 RB.out).1).trans RB.out))
  clear hv hb1 B0 RB CL
  have KT := Hd.mk (HK.out.below MK.out.base)
  have q0 := KT.out.ct
  obtain ⟨A0, c0, e0⟩ := Kd.R_slice MK.out.st.r0
  obtain rfl := e0
  have RLO := Hd.mk MK.out.base.size
  go_wp2_with (at_range; refine wpL_range (w1.alloc (.cells #[.slice A0 (stL s [] [] []).f0.length c0, .slice none 0 0, .slice none 0 0, .slice none 0 0, .slice none 0 0] 28)) CT rfl _ rfl mt T rfl KT.out.t ?_; intro w2 hr hg hs; have RG := Hd.mk hr; have M2 := Hd.mk (MK.out.below ((Below.refl _ _).grown hg (Nat.le_refl _) (by simp))); clear hr hg hs)
  generalize (w1.alloc (.cells #[.slice A0 (stL s [] [] []).f0.length c0, .slice none 0 0, .slice none 0 0, .slice none 0 0, .slice none 0 0] 28)).heap.size = r1 at *
  generalize w1.heap.size = sb at *
  clear MK KT q0
  go_frame
  go_loopg [] T.length (fun gg wq => ∃ (outs : List (S97 × S99)) (cn : Nat) (v1 : Value), cn ≤ gg ∧ Hd (Rng CT wq mt r1 T outs cn) ∧ Hd (MkSt w w.heap.size sb wq (.slice A0 s.length c0) v1 (.slice none 0 0) (.slice none 0 0) (.slice none 0 0) (stL s outs [] [])))
  case atStart => exact ⟨[], T.length, _, Nat.le_refl _, RG, M2⟩
  case round =>
    clear RG M2
    obtain ⟨outs, cn, v1, hg, RG, M2⟩ := hrel
    go_wp2_with (at_next; refine wpL_next _ CT rfl _ rfl mt r1 T outs cn rfl RG.out ?gd ?gm)
    case gd =>
      intro hd
      have P1 := Hd.mk hd
      clear hd RG
      have q1 := (HK.out.below M2.out.base).cn
      have KN := Hd.mk (HK.out.below M2.out.base).n
      obtain ⟨A1, c1, e1'⟩ := Kd.R_slice M2.out.st.r1
      obtain rfl := e1'
      generalize (stL s outs [] []).f1.length = n1 at *
      have RL2 := Hd.mk M2.out.base.size
      go_wp2_with (at_range; refine wpL_range wr CN rfl _ rfl mn N rfl KN.out ?_; intro w2 hr hg hs; have RG := Hd.mk hr; have M3 := Hd.mk (M2.out.below ((Below.refl _ _).grown hg (Nat.le_refl _) (by simp))); clear hr hg hs)
      generalize wr.heap.size = r2 at *
      clear M2 KN q1
      go_frame
      go_loopg [] N.length (fun gg wq => ∃ (outn : List (Int × S102)) (cn : Nat) (v2 : Value), cn ≤ gg ∧ Hd (Rng CN wq mn r2 N outn cn) ∧ Hd (MkSt w w.heap.size sb wq (.slice A0 s.length c0) (.slice A1 n1 c1) v2 (.slice none 0 0) (.slice none 0 0) (stL s outs outn [])))
      case atStart => exact ⟨[], N.length, _, Nat.le_refl _, RG, M3⟩
      case round =>
        clear RG M3
        obtain ⟨outn, cn, v2, hg, RG, M2⟩ := hrel
        go_wp2_with (at_next; refine wpL_next _ CN rfl _ rfl mn r2 N outn cn rfl RG.out ?gd2 ?gm2)
        case gd2 =>
          intro hd
          have P2 := Hd.mk hd
          clear hd RG
          have q1 := (HK.out.below M2.out.base).cw
          have KY := Hd.mk (HK.out.below M2.out.base).y
          obtain ⟨A2, c2, e1'⟩ := Kd.R_slice M2.out.st.r2
          obtain rfl := e1'
          generalize (stL s outs outn []).f2.length = n2 at *
          have RL3 := Hd.mk M2.out.base.size
          go_wp2_with (at_range; refine wpL_range wr CW rfl _ rfl mw Y rfl KY.out ?_; intro w2 hr hg hs; have RG := Hd.mk hr; have M3 := Hd.mk (M2.out.below ((Below.refl _ _).grown hg (Nat.le_refl _) (by simp))); clear hr hg hs)
          generalize wr.heap.size = r3 at *
          clear M2 KY q1
          go_frame
          go_loopg [] Y.length (fun gg wq => ∃ (outy : List (S131 × Int)) (cn : Nat) (v3 v4 : Value), cn ≤ gg ∧ Hd (Rng CW wq mw r3 Y outy cn) ∧ Hd (MkSt w w.heap.size sb wq (.slice A0 s.length c0) (.slice A1 n1 c1) (.slice A2 n2 c2) v3 v4 (stL s outs outn outy)))
          case atStart => exact ⟨[], Y.length, _, _, Nat.le_refl _, RG, M3⟩
          case round =>
            clear RG M3
            obtain ⟨outy, cn, v3, v4, hg, RG, M2⟩ := hrel
            go_wp2_with (at_next; refine wpL_next _ CW rfl _ rfl mw r3 Y outy cn rfl RG.out ?gd3 ?gm3)
            case gd3 =>
              intro hd
              have P3 := Hd.mk hd
              clear hd RG
              obtain ⟨A3, c3, e1'⟩ := Kd.R_slice M2.out.st.r3
              obtain rfl := e1'
              obtain ⟨A4, c4, e1'⟩ := Kd.R_slice M2.out.st.r4
              obtain rfl := e1'
              generalize (stL s outs outn outy).f3.length = n3 at *
              generalize (stL s outs outn outy).f4.length = n4 at *
              have KV2 := Hd.mk (KV.out.perm P1.out P2.out P3.out)
              have LN := Hd.mk (show outs.length ≤ 1000 ∧ outn.length ≤ 1000 ∧ outy.length ≤ 576 by rw [P1.out.length_eq, P2.out.length_eq, P3.out.length_eq]; exact ⟨HL.out.1, HL.out.2, ways_len KV.out.yk KV.out.yn⟩)
              have l1 := cell_of M2.out.blk 1 rfl
              go_wp2_with fail
              refine (ST.out _ _ _ _ M2.out.st.r1 (by simp only [stL, List.length_map]; have := LN.out; omega) KV2.out.pT).mono ?_
              rintro e w7 ⟨rfl, hr, hb, hk⟩
              have M3 := Hd.mk (M2.out.sort1 hr hb hk)
              clear hr hb hk M2 l1
              have l1 := cell_of M3.out.blk 2 rfl
              go_wp2_with fail
              refine (SN.out _ _ _ _ M3.out.st.r2 (by simp only [stL, List.length_map]; have := LN.out; omega) KV2.out.pN).mono ?_
              rintro e w8 ⟨rfl, hr, hb, hk⟩
              have M4 := Hd.mk (M3.out.sort2 hr hb hk)
              clear hr hb hk M3 l1
              have l1 := cell_of M4.out.blk 3 rfl
              go_wp2_with fail
              refine (SR.out _ _ _ _ M4.out.st.r3 (by have := List.length_filterMap_le toR outy; simp only [stL]; have := LN.out; omega) (pR KV2.out.yn)).mono ?_
              rintro e w9 ⟨rfl, hr, hb, hk⟩
              have M5 := Hd.mk (M4.out.sort3 hr hb hk)
              clear hr hb hk M4 l1
              have l1 := cell_of M5.out.blk 4 rfl
              go_wp2_with fail
              refine (SU.out _ _ _ _ M5.out.st.r4 (by have := List.length_filterMap_le toU outy; simp only [stL]; have := LN.out; omega) (pU KV2.out.yn)).mono ?_
              rintro e w10 ⟨rfl, hr, hb, hk⟩
              have M6 := Hd.mk (M5.out.sort4 hr hb hk)
              clear hr hb hk M5 l1
              have l0 := cell_of M6.out.blk 0 rfl
              have l1 := cell_of M6.out.blk 1 rfl
              have l2 := cell_of M6.out.blk 2 rfl
              have l3 := cell_of M6.out.blk 3 rfl
              have l4 := cell_of M6.out.blk 4 rfl
              have s0 := cell_of M6.out.res 0 rfl
              have s1 := cell_of M6.out.res 1 rfl
              have s2 := cell_of M6.out.res 2 rfl
              have s3 := cell_of M6.out.res 3 rfl
              have s4 := cell_of M6.out.res 4 rfl
              have z0 := frozen_of M6.out.res 0 none
              have z1 := frozen_of M6.out.res 1 none
              have z2 := frozen_of M6.out.res 2 none
              have z3 := frozen_of M6.out.res 3 none
              have z4 := frozen_of M6.out.res 4 none
              have FE := Hd.mk (mk_end M6.out)
              have EQ := Hd.mk (show mkS s outs outn outy = mkS s T N Y from mkS_perm KV.out P1.out P2.out P3.out)
              clear M6 ST SN SR SU HK
              go_wp2_with fail
              refine bodyPost_ret (results_cell_row rfl _ _ w.heap.size 28 #[.slice A0 s.length c0, .slice A1 n1 c1, .slice A2 n2 c2, .slice A3 n3 c3, .slice A4 n4 c4] (0, 0) _ rfl FE.out.1 Tryz.underlying28 rfl (by kernel_rfl)) rfl ?_
              refine ⟨_, _, _, _, _, rfl, ?_, FE.out.2.2⟩
              rw [← EQ.out]
              exact FE.out.2.1
            case gm3 =>
              intro x y w3 c5 hp hno hr2 hlt hg2 hs2 hen
              obtain ⟨x0, x1, x2⟩ := x
              change (Instr.entry _).run _ _ = .ok (.tuple #[.agg #[.int .i64 x0, .int .i64 x1, .int .i64 x2], .int .i64 y]) w3 at hen
              obtain ⟨A3, c3, e1'⟩ := Kd.R_slice M2.out.st.r3
              obtain rfl := e1'
              obtain ⟨A4, c4, e1'⟩ := Kd.R_slice M2.out.st.r4
              obtain rfl := e1'
              have M3 := Hd.mk (M2.out.rng RG.out RL3.out hg2)
              have M4 := Hd.mk (show MkSt w w.heap.size sb (w3.alloc (.cells #[.int .i64 x0, .int .i64 x1, .int .i64 x2] 131)) _ _ _ _ _ _ from M3.out.below (below_alloc (Below.refl _ _) _))
              have R4 := Hd.mk (show Rng CW (w3.alloc (.cells #[.int .i64 x0, .int .i64 x1, .int .i64 x2] 131)) mw r3 Y (outy ++ [((⟨x0, x1, x2⟩ : S131), y)]) c5 from hr2.below (below_alloc (Below.refl _ _) _))
              have B4 := Hd.mk (show (w3.alloc (.cells #[.int .i64 x0, .int .i64 x1, .int .i64 x2] 131)).heap[w3.heap.size]? = some (Obj.cells #[.int .i64 x0, .int .i64 x1, .int .i64 x2] 131) from alloc_at _ _ _ rfl)
              have p0 := cell_of B4.out 0 rfl
              have p1 := cell_of B4.out 1 rfl
              have p2 := cell_of B4.out 2 rfl
              have p3 := cell_of M4.out.blk 3 rfl
              have p4 := cell_of M4.out.blk 4 rfl
              have LB := Hd.mk (show (stL s outs outn outy).f3.length ≤ 576 ∧ (stL s outs outn outy).f4.length ≤ 576 by
                have h1 := sub_len hr2.nodup hr2.sub
                have h2 := ways_len KV.out.yk KV.out.yn
                have h3 := List.length_filterMap_le toR outy
                have h4 := List.length_filterMap_le toU outy
                simp at h1
                simp only [stL]
                omega)
              clear M3 M2 RG hr2 hg2 hs2 hp hno
              by_cases g : x2 = -1
              · have g1 : (x2 == -1) = true := by simp [g]
                have g2 : decide (x2 = -1) = true := by simp [g]
                have SU' := Hd.mk (stL_U s outs outn outy x0 x1 x2 y g)
                clear g
                go_wp2_with (((with_reducible refine gate_builtin (b := .append) (xs := #[.tmp 62, .tmp 69]) rfl ?_); at_builtin; refine Kd.R_append k111 (w0 := w) (W := w3.alloc (.cells #[.int .i64 x0, .int .i64 x1, .int .i64 x2] 131)) w.heap.size rfl (.tmp 62) (.tmp 69) 26 111 (.agg #[(.int .i64 0), (.int .i64 0), (.int .i64 0)]) 24 rfl Tryz.underlying26 info111 rfl (by decide) (by omega) _ _ (⟨x0, x1, y⟩ : S111) [.int .i64 x0, .int .i64 x1, .int .i64 y] (fun _ => True) (fun _ => False) rfl (by simp; rfl) ?aP (fun _ hk => hk.elim) (fun _ _ => trivial) M4.out.st.r4 M4.out.base M4.out.base.size ?aL ?_; (case aP => exact k111_mkM _ _ _ (⟨x0, x1, y⟩ : S111)); (case aL => have := LB.out.2; omega); intro v9 w6 ho hb hg2 hat; obtain ⟨A9, c9, rfl⟩ := Kd.R_slice ho; have M6 := Hd.mk (M4.out.app4 ho hb hg2); have R6 := Hd.mk (R4.out.app (sb := sb) (i := 4) M4.out.st.r4 hg2 M4.out.blk (.slice A9 (((stL s outs outn outy).f4 ++ [(⟨x0, x1, y⟩ : S111)]).length) c9)); have b6 := (hg2.block sb (Array.getElem?_eq_some_iff.1 M4.out.blk).1 (R_ne_ty M4.out.st.r4 (by decide) M4.out.blk)).trans M4.out.blk; have s6 := cell_of b6 4 rfl; have z6 := frozen_of b6 4 none; clear ho hb hg2 hat b6; simp only [List.length_append, List.length_singleton] at M6 R6))
                go_roundg c5
                case measure => omega
                case rel => exact ⟨_, c5, _, _, Nat.le_refl _, R6, ⟨by rw [← SU'.out]; exact M6.out⟩⟩
              · have g1 : (x2 == -1) = false := by simp [g]
                have g2 : decide (x2 = -1) = false := by simp [g]
                have SU' := Hd.mk (stL_R s outs outn outy x0 x1 x2 y g)
                clear g
                go_wp2_with (((with_reducible refine gate_builtin (b := .append) (xs := #[.tmp 73, .tmp 82]) rfl ?_); at_builtin; refine Kd.R_append k108 (w0 := w) (W := w3.alloc (.cells #[.int .i64 x0, .int .i64 x1, .int .i64 x2] 131)) w.heap.size rfl (.tmp 73) (.tmp 82) 25 108 (.agg #[(.int .i64 0), (.int .i64 0), (.int .i64 0), (.int .i64 0)]) 32 rfl Tryz.underlying25 info108 rfl (by decide) (by omega) _ _ (⟨x0, x1, x2, y⟩ : S108) [.int .i64 x0, .int .i64 x1, .int .i64 x2, .int .i64 y] (fun _ => True) (fun _ => False) rfl (by simp; rfl) ?aP (fun _ hk => hk.elim) (fun _ _ => trivial) M4.out.st.r3 M4.out.base M4.out.base.size ?aL ?_; (case aP => exact k108_mkM _ _ _ (⟨x0, x1, x2, y⟩ : S108)); (case aL => have := LB.out.1; omega); intro v9 w6 ho hb hg2 hat; obtain ⟨A9, c9, rfl⟩ := Kd.R_slice ho; have M6 := Hd.mk (M4.out.app3 ho hb hg2); have R6 := Hd.mk (R4.out.app (sb := sb) (i := 3) M4.out.st.r3 hg2 M4.out.blk (.slice A9 (((stL s outs outn outy).f3 ++ [(⟨x0, x1, x2, y⟩ : S108)]).length) c9)); have b6 := (hg2.block sb (Array.getElem?_eq_some_iff.1 M4.out.blk).1 (R_ne_ty M4.out.st.r3 (by decide) M4.out.blk)).trans M4.out.blk; have s6 := cell_of b6 3 rfl; have z6 := frozen_of b6 3 none; clear ho hb hg2 hat b6; simp only [List.length_append, List.length_singleton] at M6 R6))
                go_roundg c5
                case measure => omega
                case rel => exact ⟨_, c5, _, _, Nat.le_refl _, R6, ⟨by rw [← SU'.out]; exact M6.out⟩⟩
        case gm2 =>
          intro x y w3 c5 hp hno hr2 hlt hg2 hs2 hen
          obtain ⟨t0, t1, e0, e1⟩ := y
          change (Instr.entry _).run _ _ = .ok (.tuple #[.int .i64 x, .agg #[.int .i64 t0, .string t1, .int .i64 e0, .int .i64 e1]]) w3 at hen
          obtain ⟨A2, c2, e1'⟩ := Kd.R_slice M2.out.st.r2
          obtain rfl := e1'
          have M3 := Hd.mk (M2.out.rng RG.out RL2.out hg2)
          have M4 := Hd.mk (show MkSt w w.heap.size sb (w3.alloc (.cells #[.int .i64 t0, .string t1, .int .i64 e0, .int .i64 e1] 102)) _ _ _ _ _ _ from M3.out.below (below_alloc (Below.refl _ _) _))
          have R4 := Hd.mk (show Rng CN (w3.alloc (.cells #[.int .i64 t0, .string t1, .int .i64 e0, .int .i64 e1] 102)) mn r2 N (outn ++ [(x, (⟨t0, t1, e0, e1⟩ : S102))]) c5 from hr2.below (below_alloc (Below.refl _ _) _))
          have B4 := Hd.mk (show (w3.alloc (.cells #[.int .i64 t0, .string t1, .int .i64 e0, .int .i64 e1] 102)).heap[w3.heap.size]? = some (Obj.cells #[.int .i64 t0, .string t1, .int .i64 e0, .int .i64 e1] 102) from alloc_at _ _ _ rfl)
          have p0 := cell_of B4.out 0 rfl
          have p1 := cell_of B4.out 1 rfl
          have p2 := cell_of B4.out 2 rfl
          have p3 := cell_of B4.out 3 rfl
          have p4 := cell_of M4.out.blk 2 rfl
          have LB := Hd.mk (show (stL s outs outn []).f2.length ≤ 1000 by have h1 := sub_len hr2.nodup hr2.sub; have h2 := HL.out.2; simp at h1; simp [stL]; omega)
          clear M3 M2 RG hr2 hg2 hs2 hp hno
          go_wp2_with (((with_reducible refine gate_builtin (b := .append) (xs := #[.tmp 42, .tmp 44]) rfl ?_); at_builtin; refine Kd.R_append k102 (w0 := w) (W := w3.alloc (.cells #[.int .i64 t0, .string t1, .int .i64 e0, .int .i64 e1] 102)) w.heap.size rfl (.tmp 42) (.tmp 44) 24 102 (.agg #[(.int .i64 0), (.string ⟨#[]⟩), (.int .i64 0), (.int .i64 0)]) 40 rfl Tryz.underlying24 info102 rfl (by decide) (by omega) _ _ (⟨t0, t1, e0, e1⟩ : S102) [.int .i64 t0, .string t1, .int .i64 e0, .int .i64 e1] (fun _ => True) (fun _ => False) rfl (by simp; rfl) ?aP (fun _ hk => hk.elim) (fun _ _ => trivial) M4.out.st.r2 M4.out.base M4.out.base.size ?aL ?_; (case aP => exact k102_mkM _ _ _ (⟨t0, t1, e0, e1⟩ : S102)); (case aL => have := LB.out; omega); intro v9 w6 ho hb hg2 hat; obtain ⟨A9, c9, rfl⟩ := Kd.R_slice ho; have M6 := Hd.mk (M4.out.app2 ho hb hg2); have R6 := Hd.mk (R4.out.app (sb := sb) (i := 2) M4.out.st.r2 hg2 M4.out.blk (.slice A9 (((stL s outs outn []).f2 ++ [(⟨t0, t1, e0, e1⟩ : S102)]).length) c9)); have b6 := (hg2.block sb (Array.getElem?_eq_some_iff.1 M4.out.blk).1 (R_ne_ty M4.out.st.r2 (by decide) M4.out.blk)).trans M4.out.blk; have s6 := cell_of b6 2 rfl; have z6 := frozen_of b6 2 none; clear ho hb hg2 hat b6; simp only [List.length_append, List.length_singleton] at M6 R6))
          go_roundg c5
          case measure => omega
          case rel => exact ⟨_, c5, _, Nat.le_refl _, R6, ⟨by rw [← stL_N s outs outn [] (x, (⟨t0, t1, e0, e1⟩ : S102))]; exact M6.out⟩⟩
    case gm =>
      intro x y w3 c5 hp hno hr2 hlt hg2 hs2 hen
      obtain ⟨d0, d1⟩ := x
      obtain ⟨t0, t1, e0, e1⟩ := y
      change (Instr.entry _).run _ _ = .ok (.tuple #[.agg #[.int .i64 d0, .int .i64 d1], .agg #[.int .i64 t0, .string t1, .int .i64 e0, .int .i64 e1]]) w3 at hen
      obtain ⟨A1, c1, e1'⟩ := Kd.R_slice M2.out.st.r1
      obtain rfl := e1'
      have M3 := Hd.mk (M2.out.rng RG.out RLO.out hg2)
      obtain ⟨w4, hw4⟩ : ∃ w4, w4 = w3.alloc (.cells #[.int .i64 t0, .string t1, .int .i64 e0, .int .i64 e1] 99) := ⟨_, rfl⟩
      have M4 := Hd.mk (show MkSt w w.heap.size sb w4 _ _ _ _ _ _ from by rw [hw4]; exact M3.out.below (below_alloc (Below.refl _ _) _))
      have R4 := Hd.mk (show Rng CT w4 mt r1 T (outs ++ [((⟨d0, d1⟩ : S97), (⟨t0, t1, e0, e1⟩ : S99))]) c5 from by rw [hw4]; exact hr2.below (below_alloc (Below.refl _ _) _))
      have B4 := Hd.mk (show w4.heap[w3.heap.size]? = some (Obj.cells #[.int .i64 t0, .string t1, .int .i64 e0, .int .i64 e1] 99) from by rw [hw4]; exact alloc_at _ _ _ rfl)
      have p0 := cell_of B4.out 0 rfl
      have p1 := cell_of B4.out 1 rfl
      have p2 := cell_of B4.out 2 rfl
      have p3 := cell_of B4.out 3 rfl
      have p4 := cell_of M4.out.blk 1 rfl
      have LB := Hd.mk (show (stL s outs [] []).f1.length ≤ 1000 by have h1 := sub_len hr2.nodup hr2.sub; have h2 := HL.out.1; simp at h1; simp [stL]; omega)
      clear M3 M2 RG hr2 hg2 hs2 hp hno
      subst hw4
      go_wp2_with (((with_reducible refine gate_builtin (b := .append) (xs := #[.tmp 26, .tmp 28]) rfl ?_); at_builtin; refine Kd.R_append k99 (w0 := w) (W := w3.alloc (.cells #[.int .i64 t0, .string t1, .int .i64 e0, .int .i64 e1] 99)) w.heap.size rfl (.tmp 26) (.tmp 28) 23 99 (.agg #[(.int .i64 0), (.string ⟨#[]⟩), (.int .i64 0), (.int .i64 0)]) 40 rfl Tryz.underlying23 info99 rfl (by decide) (by omega) _ _ (⟨t0, t1, e0, e1⟩ : S99) [.int .i64 t0, .string t1, .int .i64 e0, .int .i64 e1] (fun _ => True) (fun _ => False) rfl (by simp; rfl) ?aP (fun _ hk => hk.elim) (fun _ _ => trivial) M4.out.st.r1 M4.out.base M4.out.base.size ?aL ?_; (case aP => exact k99_mkM _ _ _ (⟨t0, t1, e0, e1⟩ : S99)); (case aL => have := LB.out; omega); intro v2 w6 ho hb hg2 hat; obtain ⟨A2, c2, rfl⟩ := Kd.R_slice ho; have M6 := Hd.mk (M4.out.app1 ho hb hg2); have R6 := Hd.mk (R4.out.app (sb := sb) (i := 1) M4.out.st.r1 hg2 M4.out.blk (.slice A2 (((stL s outs [] []).f1 ++ [(⟨t0, t1, e0, e1⟩ : S99)]).length) c2)); have b6 := (hg2.block sb (Array.getElem?_eq_some_iff.1 M4.out.blk).1 (R_ne_ty M4.out.st.r1 (by decide) M4.out.blk)).trans M4.out.blk; have s6 := cell_of b6 1 rfl; have z6 := frozen_of b6 1 none; clear ho hb hg2 hat b6; simp only [List.length_append, List.length_singleton] at M6 R6))
      go_roundg c5
      case measure => omega
      case rel => exact ⟨_, c5, _, Nat.le_refl _, R6, ⟨by rw [← stL_T s outs [] [] ((⟨d0, d1⟩ : S97), (⟨t0, t1, e0, e1⟩ : S99))]; exact M6.out⟩⟩
end Go.Proofs.YtmeaeapopfcmbaaGreat

namespace Go.Proofs.YtmeaeapopfcmbaaGreat
open Go.RowKit Go.Proofs.YtmeaeapopfcmbaaGreatW.PrintWords Go.Proofs.YtmeaeapopfcmbaaGreatW.PrintLast Go.Proofs.YtmeaeapopfcmbaaGreatW.PrintMore PP
set_option linter.unusedVariables false
set_option linter.unusedSimpArgs false
set_option maxHeartbeats 4000000
set_option maxRecDepth 100000
theorem state_run (w : World) (k mt mn mw : Nat) (s : List Int) (T : List (S97 × S99)) (N : List (Int × S102)) (Y : List (S131 × Int)) (h : KnowAt w k mt mn mw s T N Y) (kv : Kv s T N Y) (hl : T.length ≤ 1000 ∧ N.length ≤ 1000) :
    Calls Tryz.prog 62 #[.pointer (some ⟨k, 0, none⟩)] w fun e w' => ∃ v0 v1 v2 v3 v4, e = .returned (.agg #[v0, v1, v2, v3, v4]) ∧ StR w.heap.size w' v0 v1 v2 v3 v4 (mkS s T N Y) ∧ Below w.heap.size w w' :=
  state_run' (sortT_k.sorts gcT) (sortN_k.sorts gcM) (sortR_k.sorts gcR) (sortU_k.sorts gcU) w k mt mn mw s T N Y (fun W hb => clone_seen W k mt mn mw s T N Y (h.below hb)) h kv hl
/-- A right state has at most 64 notes. -/
theorem notes_len {s : List Int} {T : List (S97 × S99)} {N : List (Int × S102)} {Y : List (S131 × Int)} (h : Kv s T N Y) : N.length ≤ 64 := by
  have h1 := nodup_len 64 (N.map fun p => p.1.toNat) (by
    rw [List.Nodup, List.pairwise_map]
    refine List.Pairwise.imp_of_mem (fun {p q} hp hq hne e => hne ?_) (nodup_key h.nn)
    have a := h.nk p hp
    have b := h.nk q hq
    simp only [noteB, Bool.and_eq_true, inR_iff] at a b
    omega) (fun x hx => by
      obtain ⟨p, hp, rfl⟩ := List.mem_map.1 hx
      have a := h.nk p hp
      simp only [noteB, Bool.and_eq_true, inR_iff] at a
      omega)
  rwa [List.length_map] at h1
theorem Rt.lens {S : S28} (h : Rt S) : (tagsP S).length ≤ 1000 ∧ (notesP S).length ≤ 1000 :=
  ⟨by unfold tagsP; rw [List.length_map]; have := h.tl; omega, by have := notes_len h.kv; omega⟩
theorem zeroSt_store {w W : World} {rb : Nat} {v0 v1 v2 v3 v4 : Value} {S : S28} (hres : W.heap[rb]? = some (Obj.cells zeroSt 28 (0, 0))) (hb : Below w.heap.size w W) (hr : w.heap.size ≤ rb) (st : StR w.heap.size W v0 v1 v2 v3 v4 S) :
    (((((W.setCell ⟨rb, 0, none⟩ v0).setCell ⟨rb, 1, none⟩ v1).setCell ⟨rb, 2, none⟩ v2).setCell ⟨rb, 3, none⟩ v3).setCell ⟨rb, 4, none⟩ v4).heap[rb]? = some (Obj.cells #[v0, v1, v2, v3, v4] 28 (0, 0)) ∧
    StR w.heap.size (((((W.setCell ⟨rb, 0, none⟩ v0).setCell ⟨rb, 1, none⟩ v1).setCell ⟨rb, 2, none⟩ v2).setCell ⟨rb, 3, none⟩ v3).setCell ⟨rb, 4, none⟩ v4) v0 v1 v2 v3 v4 S ∧
    Below w.heap.size w (((((W.setCell ⟨rb, 0, none⟩ v0).setCell ⟨rb, 1, none⟩ v1).setCell ⟨rb, 2, none⟩ v2).setCell ⟨rb, 3, none⟩ v3).setCell ⟨rb, 4, none⟩ v4) := by
  have e1 := heap_setCell_same W rb 0 _ 28 v0 hres
  have e2 := heap_setCell_same _ rb 1 _ 28 v1 e1
  have e3 := heap_setCell_same _ rb 2 _ 28 v2 e2
  have e4 := heap_setCell_same _ rb 3 _ 28 v3 e3
  have e5 := heap_setCell_same _ rb 4 _ 28 v4 e4
  refine ⟨e5, st.keep fun q hq k cells hc => ?_, ((((hb.setCell (p := ⟨rb, 0, none⟩) hr _).setCell (p := ⟨rb, 1, none⟩) hr _).setCell (p := ⟨rb, 2, none⟩) hr _).setCell (p := ⟨rb, 3, none⟩) hr _).setCell (p := ⟨rb, 4, none⟩) hr _⟩
  have hk : k ≠ rb := by
    rintro rfl
    rw [hres] at hc
    injection hc with hc
    injection hc with _ hc
    rcases hq with rfl | rfl | rfl | rfl | rfl <;> exact absurd hc (by decide)
  exact (Below.heap_setCell _ _ _ _ hk).trans ((Below.heap_setCell _ _ _ _ hk).trans ((Below.heap_setCell _ _ _ _ hk).trans ((Below.heap_setCell _ _ _ _ hk).trans (Below.heap_setCell _ _ _ _ hk))))
theorem state_rep (w : World) (r k mt mn mw : Nat) (o : Int) (S : S28) (h : Rep w r k mt mn mw o S) (hS : Rt S) :
    Calls Tryz.prog 24 #[.pointer (some ⟨r, 0, none⟩)] w fun e w' => ∃ v0 v1 v2 v3 v4, e = .returned (.agg #[v0, v1, v2, v3, v4]) ∧ StR w.heap.size w' v0 v1 v2 v3 v4 S ∧ Below w.heap.size w w' := by
  have BB := Hd.mk (show Below w.heap.size w (w.alloc (.cells #[.slice none 0 0, .slice none 0 0, .slice none 0 0, .slice none 0 0, .slice none 0 0] 28)) from below_alloc (Below.refl _ _) _)
  have RB := Hd.mk (alloc_at w (.cells #[.slice none 0 0, .slice none 0 0, .slice none 0 0, .slice none 0 0, .slice none 0 0] 28) _ rfl)
  have M := Hd.mk (made_yes (w.alloc (.cells #[.slice none 0 0, .slice none 0 0, .slice none 0 0, .slice none 0 0, .slice none 0 0] 28)) r k o (h.blk.below BB.out))
  have ST := Hd.mk (state_run _ k mt mn mw _ _ _ _ (h.kn.below BB.out) hS.kv hS.lens)
  have EQ := Hd.mk hS.mk_eq
  have q1 := (h.blk.below BB.out).k
  have hz := Tryz.zeroValue28
  clear h hS
  go_enter Tryz.func24, Tryz.ntmps24
  go_wp2_with fail
  refine M.out.mono ?_
  rintro e w1 ⟨rfl, rfl⟩
  go_wp2_with fail
  refine ST.out.mono ?_
  rintro e w2 ⟨v0, v1, v2, v3, v4, rfl, hs, hb⟩
  rw [EQ.out] at hs
  have RB2 := Hd.mk ((hb.block _ (Array.getElem?_eq_some_iff.1 RB.out).1).trans RB.out)
  have B2 := Hd.mk (BB.out.trans (hb.mono BB.out.size))
  have HS := Hd.mk (hs.lower BB.out.size)
  clear hs hb
  obtain ⟨A0, c0, e0⟩ := Kd.R_slice HS.out.r0
  obtain ⟨A1, c1, e1⟩ := Kd.R_slice HS.out.r1
  obtain ⟨A2, c2, e2⟩ := Kd.R_slice HS.out.r2
  obtain ⟨A3, c3, e3⟩ := Kd.R_slice HS.out.r3
  obtain ⟨A4, c4, e4⟩ := Kd.R_slice HS.out.r4
  subst e0 e1 e2 e3 e4
  have s0 := cell_of RB2.out 0 rfl
  have s1 := cell_of RB2.out 1 rfl
  have s2 := cell_of RB2.out 2 rfl
  have s3 := cell_of RB2.out 3 rfl
  have s4 := cell_of RB2.out 4 rfl
  have z0 := frozen_of RB2.out 0 none
  have z1 := frozen_of RB2.out 1 none
  have z2 := frozen_of RB2.out 2 none
  have z3 := frozen_of RB2.out 3 none
  have z4 := frozen_of RB2.out 4 none
  have FE := Hd.mk (zeroSt_store RB2.out B2.out (Nat.le_refl _) HS.out)
  go_wp2_with fail
  refine bodyPost_ret (results_cell_row rfl _ _ w.heap.size 28 #[.slice A0 S.f0.length c0, .slice A1 S.f1.length c1, .slice A2 S.f2.length c2, .slice A3 S.f3.length c3, .slice A4 S.f4.length c4] (0, 0) _ rfl FE.out.1 Tryz.underlying28 rfl (by kernel_rfl)) rfl ?_
  exact ⟨_, _, _, _, _, rfl, FE.out.2.1, FE.out.2.2⟩
theorem NoRep.below {w w' : World} {p : Option Addr} (h : NoRep w p) (hb : Below w.heap.size w w') : NoRep w' p := by
  rcases h with rfl | ⟨r, o, rfl, h⟩
  · exact .inl rfl
  · exact .inr ⟨r, o, rfl, h.below hb⟩
theorem state_no (w : World) (p : Option Addr) (h : NoRep w p) :
    Calls Tryz.prog 24 #[.pointer p] w fun e w' => e = .returned (.agg #[.slice none 0 0, .slice none 0 0, .slice none 0 0, .slice none 0 0, .slice none 0 0]) ∧ Below w.heap.size w w' := by
  have BB := Hd.mk (show Below w.heap.size w (w.alloc (.cells #[.slice none 0 0, .slice none 0 0, .slice none 0 0, .slice none 0 0, .slice none 0 0] 28)) from below_alloc (Below.refl _ _) _)
  have RB := Hd.mk (alloc_at w (.cells #[.slice none 0 0, .slice none 0 0, .slice none 0 0, .slice none 0 0, .slice none 0 0] 28) _ rfl)
  have M := Hd.mk (made_no (w.alloc (.cells #[.slice none 0 0, .slice none 0 0, .slice none 0 0, .slice none 0 0, .slice none 0 0] 28)) p (h.below BB.out))
  have hz := Tryz.zeroValue28
  clear h
  go_enter Tryz.func24, Tryz.ntmps24
  go_wp2_with fail
  refine M.out.mono ?_
  rintro e w1 ⟨rfl, rfl⟩
  clear M
  generalize w.alloc (.cells #[.slice none 0 0, .slice none 0 0, .slice none 0 0, .slice none 0 0, .slice none 0 0] 28) = W1 at *
  have s0 := cell_of RB.out 0 rfl
  have s1 := cell_of RB.out 1 rfl
  have s2 := cell_of RB.out 2 rfl
  have s3 := cell_of RB.out 3 rfl
  have s4 := cell_of RB.out 4 rfl
  have z0 := frozen_of RB.out 0 none
  have z1 := frozen_of RB.out 1 none
  have z2 := frozen_of RB.out 2 none
  have z3 := frozen_of RB.out 3 none
  have z4 := frozen_of RB.out 4 none
  have FE := Hd.mk (zeroSt_store (S := ⟨[], [], [], [], []⟩) RB.out BB.out (Nat.le_refl _) ⟨Kd.R_nil _ _ _ _ _, Kd.R_nil _ _ _ _ _, Kd.R_nil _ _ _ _ _, Kd.R_nil _ _ _ _ _, Kd.R_nil _ _ _ _ _⟩)
  go_wp2_with fail
  refine bodyPost_ret (results_cell_row rfl _ _ w.heap.size 28 #[.slice none 0 0, .slice none 0 0, .slice none 0 0, .slice none 0 0, .slice none 0 0] (0, 0) _ rfl FE.out.1 Tryz.underlying28 rfl (by kernel_rfl)) rfl ?_
  exact ⟨rfl, FE.out.2.2⟩
end Go.Proofs.YtmeaeapopfcmbaaGreat
