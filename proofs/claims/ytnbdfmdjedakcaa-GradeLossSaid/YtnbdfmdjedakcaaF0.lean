/- Sums; residual rooms, cuts: what the source still reaches when nothing more goes through is the least of the cheapest cuts. Plain. No conditions. -/
namespace Go.Proofs.Ytnbdfmdjedakcaa
set_option linter.unusedVariables false
/-- The sum over the first ones. -/
def sm : Nat → (Nat → Int) → Int
  | 0, _ => 0
  | n + 1, f => sm n f + f n
theorem sm_congr : ∀ {n : Nat} {f g : Nat → Int}, (∀ x, x < n → f x = g x) → sm n f = sm n g
  | 0, _, _, _ => rfl
  | n + 1, f, g, h => by rw [sm, sm, sm_congr (fun x hx => h x (by omega)), h n (by omega)]
theorem sm_add (f g : Nat → Int) : ∀ n, sm n (fun x => f x + g x) = sm n f + sm n g
  | 0 => rfl
  | n + 1 => by simp only [sm, sm_add f g n]; omega
theorem sm_neg (f : Nat → Int) : ∀ n, sm n (fun x => - f x) = - sm n f
  | 0 => rfl
  | n + 1 => by simp only [sm, sm_neg f n]; omega
theorem sm_zero : ∀ n, sm n (fun _ => 0) = 0
  | 0 => rfl
  | n + 1 => by simp only [sm, sm_zero n]; omega
theorem sm_swap (f : Nat → Nat → Int) (m : Nat) : ∀ n, sm n (fun x => sm m (fun y => f x y)) = sm m (fun y => sm n (fun x => f x y))
  | 0 => by simp only [sm]; exact (sm_zero m).symm
  | n + 1 => by simp only [sm]; rw [sm_swap f m n, ← sm_add]
theorem sm_nonneg : ∀ {n : Nat} {f : Nat → Int}, (∀ x, x < n → 0 ≤ f x) → 0 ≤ sm n f
  | 0, _, _ => Int.le_refl _
  | n + 1, f, h => by
    have := sm_nonneg (n := n) (fun x hx => h x (by omega))
    have := h n (by omega)
    rw [sm]; omega
theorem sm_le : ∀ {n : Nat} {f g : Nat → Int}, (∀ x, x < n → f x ≤ g x) → sm n f ≤ sm n g
  | 0, _, _, _ => Int.le_refl _
  | n + 1, f, g, h => by
    have := sm_le (n := n) (fun x hx => h x (by omega))
    have := h n (by omega)
    rw [sm, sm]; omega
theorem sm_term : ∀ {n : Nat} {f : Nat → Int}, (∀ x, x < n → 0 ≤ f x) → ∀ x, x < n → f x ≤ sm n f
  | 0, _, _, x, hx => by omega
  | n + 1, f, h, x, hx => by
    have h1 := sm_nonneg (n := n) (fun x hx => h x (by omega))
    have h2 := h n (by omega)
    rw [sm]
    by_cases e : x = n
    · subst e; omega
    · have := sm_term (n := n) (fun x hx => h x (by omega)) x (by omega)
      omega
theorem sm_pos_zero {n : Nat} {f : Nat → Int} (h : ∀ x, x < n → 0 ≤ f x) (h0 : sm n f ≤ 0) : ∀ x, x < n → f x = 0 := fun x hx => by
  have := sm_term h x hx
  have := h x hx
  omega
/-- One value more. -/
theorem sm_one {n : Nat} {f g : Nat → Int} {k : Nat} (hk : k < n) {d : Int} (h1 : g k = f k + d) (h : ∀ x, x < n → x ≠ k → g x = f x) : sm n g = sm n f + d := by
  induction n with
  | zero => omega
  | succ n ih =>
    rw [sm, sm]
    by_cases e : k = n
    · subst e
      rw [sm_congr (fun x hx => h x (by omega) (by omega)), h1]; omega
    · rw [ih (by omega) (fun x hx hne => h x (by omega) hne), h n (by omega) (fun e2 => e e2.symm)]
      omega
def ib (b : Bool) (x : Int) : Int := if b = true then x else 0
theorem ib_nonneg {b : Bool} {x : Int} (h : 0 ≤ x) : 0 ≤ ib b x := by unfold ib; split <;> omega
theorem ib_sm (b : Bool) (f : Nat → Int) (n : Nat) : ib b (sm n f) = sm n (fun x => ib b (f x)) := by
  cases b with
  | true => simp only [ib, if_true]
  | false => simp only [ib, Bool.false_eq_true, if_false]; exact (sm_zero n).symm
/-- What goes from a set to outside of it. -/
def cutS (n : Nat) (c : Nat → Nat → Int) (X : Nat → Bool) : Int := sm n fun u => sm n fun v => ib (X u && !X v) (c u v)
def rowS (n : Nat) (c : Nat → Nat → Int) (u : Nat) : Int := sm n (c u)
/-- Rooms that are left of others, when a flow has gone through. -/
structure Res (n : Nat) (c r : Nat → Nat → Int) (s t : Nat) : Prop where
  sym : ∀ u v, u < n → v < n → r u v + r v u = c u v + c v u
  pos : ∀ u v, u < n → v < n → 0 ≤ r u v
  row : ∀ u, u < n → u ≠ s → u ≠ t → rowS n r u = rowS n c u
theorem sm_anti {n : Nat} {g : Nat → Nat → Int} (h : ∀ u v, u < n → v < n → g u v = - g v u) (X : Nat → Bool) : sm n (fun u => sm n fun v => ib (X u && X v) (g u v)) = 0 := by
  have e : sm n (fun u => sm n fun v => ib (X u && X v) (g u v)) = - sm n (fun u => sm n fun v => ib (X u && X v) (g u v)) := by
    rw [← sm_neg]
    rw [sm_swap]
    refine sm_congr fun v hv => ?_
    rw [← sm_neg]
    refine sm_congr fun u hu => ?_
    rw [h u v hu hv, Bool.and_comm]
    unfold ib
    split <;> omega
  omega
/-- A cut's room is what is left of it and what has gone. -/
theorem Res.cut {n s t : Nat} {c r : Nat → Nat → Int} (h : Res n c r s t) (hs : s < n) {X : Nat → Bool} (xs : X s = true) (xt : X t = false) : cutS n c X = cutS n r X + (rowS n c s - rowS n r s) := by
  let g := fun u v => c u v - r u v
  have ga : ∀ u v, u < n → v < n → g u v = - g v u := fun u v hu hv => by
    have := h.sym u v hu hv
    show c u v - r u v = -(c v u - r v u)
    omega
  have e1 : cutS n c X = cutS n r X + cutS n g X := by
    unfold cutS
    rw [← sm_add]
    refine sm_congr fun u hu => ?_
    rw [← sm_add]
    refine sm_congr fun v hv => ?_
    unfold ib
    split
    · show c u v = r u v + (c u v - r u v); omega
    · omega
  have e2 : sm n (fun u => ib (X u) (rowS n g u)) = cutS n g X := by
    have h0 := sm_anti ga X
    have : sm n (fun u => ib (X u) (rowS n g u)) = cutS n g X + sm n (fun u => sm n fun v => ib (X u && X v) (g u v)) := by
      unfold cutS
      rw [← sm_add]
      refine sm_congr fun u hu => ?_
      unfold rowS
      rw [← sm_add, ib_sm]
      refine sm_congr fun v hv => ?_
      cases X u <;> cases X v <;> simp [ib]
    omega
  have e3 : ∀ u, u < n → rowS n g u = rowS n c u - rowS n r u := fun u hu => by
    unfold rowS
    have := sm_add (fun v => c u v) (fun v => - r u v) n
    rw [sm_neg] at this
    rw [show sm n (g u) = sm n (fun v => c u v + - r u v) from sm_congr fun v hv => by show c u v - r u v = _; omega, this]
    show sm n (c u) + - sm n (r u) = _
    omega
  have e4 : sm n (fun u => ib (X u) (rowS n g u)) = rowS n c s - rowS n r s := by
    have := sm_one (n := n) (f := fun _ => 0) (g := fun u => ib (X u) (rowS n g u)) (k := s) hs (d := rowS n c s - rowS n r s) (by simp only [ib, xs, if_true]; rw [e3 s hs]; omega) (fun u hu hne => by
      unfold ib
      split
      · next hx =>
        have hut : u ≠ t := fun e => by subst e; rw [xt] at hx; exact absurd hx (by decide)
        rw [e3 u hu, h.row u hu hne hut]; omega
      · rfl)
    rw [this, sm_zero]; omega
  omega
theorem cut_pos {n : Nat} {r : Nat → Nat → Int} (h : ∀ u v, u < n → v < n → 0 ≤ r u v) (X : Nat → Bool) : 0 ≤ cutS n r X :=
  sm_nonneg fun u hu => sm_nonneg fun v hv => ib_nonneg (h u v hu hv)
theorem cut_zero {n : Nat} {r : Nat → Nat → Int} (h : ∀ u v, u < n → v < n → 0 ≤ r u v) {X : Nat → Bool} (h0 : cutS n r X ≤ 0) : ∀ u v, u < n → v < n → X u = true → X v = false → r u v = 0 := fun u v hu hv xu xv => by
  have h1 := sm_pos_zero (fun u hu => sm_nonneg fun v hv => ib_nonneg (b := X u && !X v) (h u v hu hv)) h0 u hu
  have h2 := sm_pos_zero (f := fun v => ib (X u && !X v) (r u v)) (fun v hv => ib_nonneg (h u v hu hv)) (by rw [h1]; exact Int.le_refl _) v hv
  simpa [ib, xu, xv] using h2
/-- What the source reaches. -/
inductive Rch (n : Nat) (r : Nat → Nat → Int) (s : Nat) : Nat → Prop
  | base : Rch n r s s
  | step {u v : Nat} : Rch n r s u → v < n → 0 < r u v → Rch n r s v
theorem Rch.lt {n : Nat} {r : Nat → Nat → Int} {s v : Nat} (hs : s < n) (h : Rch n r s v) : v < n := by
  cases h with
  | base => exact hs
  | step _ h _ => exact h
/-- The least of the cheapest cuts. -/
structure LowCut (n : Nat) (c : Nat → Nat → Int) (s t : Nat) (S : Nat → Bool) : Prop where
  ss : S s = true
  st : S t = false
  le : ∀ X : Nat → Bool, X s = true → X t = false → cutS n c S ≤ cutS n c X
  in_ : ∀ X : Nat → Bool, X s = true → X t = false → cutS n c X ≤ cutS n c S → ∀ u, u < n → S u = true → X u = true
theorem Res.low {n s t : Nat} {c r : Nat → Nat → Int} (h : Res n c r s t) (hs : s < n) {S : Nat → Bool} (hS : ∀ u, u < n → (S u = true ↔ Rch n r s u)) (ht : S t = false) : LowCut n c s t S := by
  have ss : S s = true := (hS s hs).2 .base
  have z : cutS n r S = 0 := by
    unfold cutS
    have : ∀ u, u < n → sm n (fun v => ib (S u && !S v) (r u v)) = 0 := fun u hu => by
      rw [sm_congr (g := fun _ => 0) (fun v hv => ?_), sm_zero]
      unfold ib
      split
      · next hx =>
        simp only [Bool.and_eq_true, Bool.not_eq_true'] at hx
        have h1 := h.pos u v hu hv
        by_cases h2 : 0 < r u v
        · have := (hS v hv).2 (.step ((hS u hu).1 hx.1) hv h2)
          rw [hx.2] at this; exact absurd this (by decide)
        · omega
      · rfl
    rw [sm_congr this, sm_zero]
  have eS := h.cut hs ss ht
  refine ⟨ss, ht, fun X xs xt => ?_, fun X xs xt hle => ?_⟩
  · have := h.cut hs xs xt
    have := cut_pos h.pos X
    omega
  · have e := h.cut hs xs xt
    have hz := cut_zero h.pos (X := X) (by omega)
    intro u hu hu2
    have hr := (hS u hu).1 hu2
    clear hu2
    induction hr with
    | base => exact xs
    | @step a b ha hb hp ih =>
      have hal := ha.lt hs
      cases hx : X b with
      | true => rfl
      | false =>
        have := hz a b hal hb (ih hal) hx
        omega
/-- Some of the room of one arc, turned. -/
def push1 (r : Nat → Nat → Int) (u v : Nat) (d : Int) : Nat → Nat → Int := fun x y => if x = u ∧ y = v then r x y - d else if x = v ∧ y = u then r x y + d else r x y
theorem push1_sym {n : Nat} {r c : Nat → Nat → Int} {u v : Nat} {d : Int} (huv : u ≠ v) (h : ∀ x y, x < n → y < n → r x y + r y x = c x y + c y x) : ∀ x y, x < n → y < n → push1 r u v d x y + push1 r u v d y x = c x y + c y x := fun x y hx hy => by
  have := h x y hx hy
  unfold push1
  by_cases h1 : x = u ∧ y = v
  · obtain ⟨rfl, rfl⟩ := h1
    rw [if_pos ⟨rfl, rfl⟩, if_neg (fun h => huv h.2), if_pos ⟨rfl, rfl⟩]; omega
  · rw [if_neg h1]
    by_cases h2 : x = v ∧ y = u
    · obtain ⟨rfl, rfl⟩ := h2
      rw [if_pos ⟨rfl, rfl⟩, if_pos ⟨rfl, rfl⟩]; omega
    · rw [if_neg h2, if_neg (fun h => h2 ⟨h.2, h.1⟩), if_neg (fun h => h1 ⟨h.2, h.1⟩)]; omega
theorem push1_row {n : Nat} {r : Nat → Nat → Int} {u v : Nat} {d : Int} (huv : u ≠ v) (hu : u < n) (hv : v < n) (x : Nat) : rowS n (push1 r u v d) x = rowS n r x + (if x = v then d else 0) - (if x = u then d else 0) := by
  unfold rowS
  by_cases h1 : x = u
  · subst h1
    rw [if_neg huv, if_pos rfl, sm_one (f := r x) (k := v) (d := -d) hv (by unfold push1; rw [if_pos ⟨rfl, rfl⟩]; omega) (fun y _ hne => by unfold push1; rw [if_neg (fun h => hne h.2), if_neg (fun h => huv h.1)])]
    omega
  · by_cases h2 : x = v
    · subst h2
      rw [if_pos rfl, if_neg h1, sm_one (f := r x) (k := u) (d := d) hu (by unfold push1; rw [if_neg (fun h => h1 h.1), if_pos ⟨rfl, rfl⟩]) (fun y _ hne => by unfold push1; rw [if_neg (fun h => h1 h.1), if_neg (fun h => hne h.2)])]
      omega
    · rw [if_neg h2, if_neg h1, sm_congr (g := r x) (fun y _ => by unfold push1; rw [if_neg (fun h => h1 h.1), if_neg (fun h => h2 h.1)])]
      omega
section
theorem sm_ext {n : Nat} {f : Nat → Int} : ∀ {m : Nat}, n ≤ m → (∀ x, n ≤ x → x < m → f x = 0) → sm m f = sm n f
  | 0, h, _ => by rw [show n = 0 by omega]
  | m + 1, h, hz => by
    by_cases e : n = m + 1
    · subst e; rfl
    · rw [sm, sm_ext (m := m) (by omega) (fun x a b => hz x a (by omega)), hz m (by omega) (by omega)]; omega
/-- The network of some weights, of which the high ones pay to be out and the others to be in; b: with whom goes whom. -/
def netC (n s t : Nat) (hi : Nat → Bool) (w : Nat → Int) (b : Nat → Nat → Bool) (inf : Int) (u v : Nat) : Int :=
  if u = s then (if v < n ∧ hi v = true then w v else 0) else if v = t then (if u < n ∧ hi u = false then w u else 0) else if u < n ∧ v < n ∧ u ≠ v ∧ b u v = true then inf else 0
def costS (n : Nat) (hi : Nat → Bool) (w : Nat → Int) (U : Nat → Bool) : Int := sm n fun i => if U i = true then (if hi i = true then 0 else w i) else (if hi i = true then w i else 0)
def ClosedS (n : Nat) (b : Nat → Nat → Bool) (U : Nat → Bool) : Prop := ∀ i j, i < n → j < n → U i = true → b i j = true → U j = true
/-- The least of the cheapest closed sets. -/
structure LowS (n : Nat) (hi : Nat → Bool) (w : Nat → Int) (b : Nat → Nat → Bool) (U : Nat → Bool) : Prop where
  cl : ClosedS n b U
  le : ∀ V, ClosedS n b V → costS n hi w U ≤ costS n hi w V
  in_ : ∀ V, ClosedS n b V → costS n hi w V ≤ costS n hi w U → ∀ i, i < n → U i = true → V i = true
theorem LowS.one {n : Nat} {hi : Nat → Bool} {w : Nat → Int} {b : Nat → Nat → Bool} {U V : Nat → Bool} (hU : LowS n hi w b U) (hV : LowS n hi w b V) {i : Nat} (hi' : i < n) : U i = V i := by
  have h1 := hU.le V hV.cl
  have h2 := hV.le U hU.cl
  rw [Bool.eq_iff_iff]
  exact ⟨hU.in_ V hV.cl h2 i hi', hV.in_ U hU.cl h1 i hi'⟩
variable {n N s t : Nat} {hi : Nat → Bool} {w : Nat → Int} {b : Nat → Nat → Bool} {inf : Int}
theorem net_cut (hs : n ≤ s) (ht : n ≤ t) (hst : s ≠ t) (hsN : s < N) (htN : t < N) (hnN : n ≤ N) {X : Nat → Bool} (xs : X s = true) (xt : X t = false) (hc : ClosedS n b X) : cutS N (netC n s t hi w b inf) X = costS n hi w X := by
  have row : ∀ u, u < N → sm N (fun v => ib (X u && !X v) (netC n s t hi w b inf u v)) = if u = s then sm n (fun v => ib (!X v && hi v) (w v)) else if u < n then ib (X u && !hi u) (w u) else 0 := fun u hu => by
    by_cases h1 : u = s
    · subst h1
      rw [if_pos rfl, sm_ext hnN (fun v h2 h3 => by unfold netC; rw [if_pos rfl, if_neg (fun h => by omega)]; unfold ib; split <;> rfl)]
      refine sm_congr fun v hv => ?_
      unfold netC
      rw [if_pos rfl, xs]
      cases h2 : hi v with
      | true => rw [if_pos ⟨hv, rfl⟩]; simp
      | false => rw [if_neg (fun h => absurd h.2 (by decide))]; cases X v <;> simp [ib]
    · rw [if_neg h1]
      by_cases h2 : u < n
      · rw [if_pos h2]
        have := sm_one (n := N) (f := fun _ => 0) (g := fun v => ib (X u && !X v) (netC n s t hi w b inf u v)) (k := t) htN (d := ib (X u && !hi u) (w u)) (by
          unfold netC
          rw [if_neg h1, if_pos rfl, xt]
          cases h3 : hi u with
          | true => rw [if_neg (fun h => absurd h.2 (by decide))]; cases X u <;> simp [ib]
          | false => rw [if_pos ⟨h2, rfl⟩]; simp [ib]) (fun v hv hne => by
          unfold netC
          rw [if_neg h1, if_neg hne]
          by_cases h4 : u < n ∧ v < n ∧ u ≠ v ∧ b u v = true
          · rw [if_pos h4]
            cases hx : X u with
            | false => rfl
            | true => rw [hc u v h4.1 h4.2.1 hx h4.2.2.2]; rfl
          · rw [if_neg h4]; unfold ib; split <;> rfl)
        rw [this, sm_zero]; omega
      · rw [if_neg h2, sm_congr (g := fun _ => 0) (fun v hv => ?_), sm_zero]
        unfold netC
        rw [if_neg h1]
        have : (if v = t then if u < n ∧ hi u = false then w u else 0 else if u < n ∧ v < n ∧ u ≠ v ∧ b u v = true then inf else 0) = 0 := by
          split
          · rw [if_neg (fun h => h2 h.1)]
          · rw [if_neg (fun h => h2 h.1)]
        rw [this]
        unfold ib; split <;> rfl
  unfold cutS
  rw [sm_congr row]
  rw [sm_one (n := N) (f := fun u => if u < n then ib (X u && !hi u) (w u) else 0) (k := s) hsN (d := sm n (fun v => ib (!X v && hi v) (w v))) (by
    show (if s = s then _ else _) = (if s < n then ib (X s && !hi s) (w s) else 0) + _
    rw [if_pos rfl, if_neg (by omega)]; omega) (fun u hu hne => by
    show (if u = s then _ else _) = (if u < n then ib (X u && !hi u) (w u) else 0)
    rw [if_neg hne])]
  rw [sm_ext hnN (fun x a b => if_neg (by omega)), ← sm_add]
  unfold costS
  refine sm_congr fun i hin => ?_
  rw [if_pos hin]
  cases X i <;> cases hi i <;> simp [ib]
/-- The quotes' side of the least of the cheapest cuts. -/
theorem net_low (hs : n ≤ s) (ht : n ≤ t) (hst : s ≠ t) (hsN : s < N) (htN : t < N) (hnN : n ≤ N) (hw : ∀ i, i < n → 0 ≤ w i) (hinf : sm n w < inf) {S : Nat → Bool} (h : LowCut N (netC n s t hi w b inf) s t S) : LowS n hi w b S := by
  have c0 : ∀ u v, u < N → v < N → 0 ≤ netC n s t hi w b inf u v := fun u v _ _ => by
    have := sm_nonneg hw
    unfold netC
    split
    · split
      · next h => exact hw v h.1
      · omega
    · split
      · split
        · next h => exact hw u h.1
        · omega
      · split <;> omega
  -- with the source
  let wS : (Nat → Bool) → Nat → Bool := fun V u => decide (u = s) || (decide (u < n) && V u)
  have wi : ∀ V u, u < n → wS V u = V u := fun V u hu => by
    show (decide (u = s) || (decide (u < n) && V u)) = V u
    rw [decide_eq_false (show ¬ u = s by omega), decide_eq_true hu]; simp
  have ws : ∀ V, wS V s = true := fun V => by
    show (decide (s = s) || _) = true
    simp
  have wt : ∀ V, wS V t = false := fun V => by
    show (decide (t = s) || (decide (t < n) && V t)) = false
    rw [decide_eq_false (fun e => hst e.symm), decide_eq_false (by omega)]; rfl
  have wc : ∀ V, ClosedS n b V → ClosedS n b (wS V) := fun V hV i j hi hj hx hb => by
    rw [wi V i hi] at hx
    rw [wi V j hj]
    exact hV i j hi hj hx hb
  have cc : ∀ V, costS n hi w (wS V) = costS n hi w V := fun V => sm_congr fun i hin => by rw [wi V i hin]
  have cutV : ∀ V, ClosedS n b V → cutS N (netC n s t hi w b inf) (wS V) = costS n hi w V := fun V hV => by
    rw [net_cut hs ht hst hsN htN hnN (ws V) (wt V) (wc V hV), cc]
  have hcl : ClosedS n b S := fun i j hin hjn hx hb => by
    cases hy : S j with
    | true => rfl
    | false =>
      have h1 := h.le (wS fun _ => false) (ws fun _ => false) (wt fun _ => false)
      rw [cutV (fun _ => false) (fun _ _ _ _ h _ => absurd (show false = true from h) Bool.false_ne_true)] at h1
      have h2 : costS n hi w (fun _ => false) ≤ sm n w := sm_le fun x hx => by
        have := hw x hx
        show (if false = true then _ else if hi x = true then w x else 0) ≤ w x
        rw [if_neg (by decide)]
        split <;> omega
      have h3 := sm_term (f := fun v => ib (S i && !S v) (netC n s t hi w b inf i v)) (n := N) (fun v hv => ib_nonneg (c0 i v (by omega) hv)) j (by omega)
      have h4 := sm_term (f := fun u => sm N fun v => ib (S u && !S v) (netC n s t hi w b inf u v)) (n := N) (fun u hu => sm_nonneg fun v hv => ib_nonneg (c0 u v hu hv)) i (by omega)
      have h5 : ib (S i && !S j) (netC n s t hi w b inf i j) = inf := by
        rw [hx, hy]
        unfold netC
        rw [if_neg (show ¬ i = s by omega), if_neg (show ¬ j = t by omega), if_pos ⟨hin, hjn, fun e => by subst e; rw [hx] at hy; exact absurd hy (by decide), hb⟩]
        rfl
      have h6 : cutS N (netC n s t hi w b inf) S = sm N fun u => sm N fun v => ib (S u && !S v) (netC n s t hi w b inf u v) := rfl
      omega
  have eS := net_cut (hi := hi) (w := w) (inf := inf) hs ht hst hsN htN hnN h.ss h.st hcl
  refine ⟨hcl, fun V hV => ?_, fun V hV hle i hin hSi => ?_⟩
  · have := h.le (wS V) (ws V) (wt V)
    rw [cutV V hV, eS] at this
    exact this
  · have := h.in_ (wS V) (ws V) (wt V) (by rw [cutV V hV, eS]; exact hle) i (by omega) hSi
    rwa [wi V i hin] at this
end
section
variable {n : Nat} {w : Nat → Int} {b : Nat → Nat → Bool}
/-- At a higher price the set is smaller. -/
theorem LowS.anti {hi hi' : Nat → Bool} {U U' : Nat → Bool} (hw : ∀ i, i < n → 0 ≤ w i) (h : LowS n hi w b U) (h' : LowS n hi' w b U') (hh : ∀ i, i < n → hi' i = true → hi i = true) : ∀ i, i < n → U' i = true → U i = true := by
  have c1 : ClosedS n b (fun i => U' i && U i) := fun i j hin hj hx hb => by
    simp only [Bool.and_eq_true] at hx ⊢
    exact ⟨h'.cl i j hin hj hx.1 hb, h.cl i j hin hj hx.2 hb⟩
  have c2 : ClosedS n b (fun i => U' i || U i) := fun i j hin hj hx hb => by
    simp only [Bool.or_eq_true] at hx ⊢
    rcases hx with hx | hx
    · exact .inl (h'.cl i j hin hj hx hb)
    · exact .inr (h.cl i j hin hj hx hb)
  have e : costS n hi' w (fun i => U' i && U i) + costS n hi w (fun i => U' i || U i) ≤ costS n hi' w U' + costS n hi w U := by
    unfold costS
    rw [← sm_add, ← sm_add]
    refine sm_le fun i hin => ?_
    have h0 := hw i hin
    have h5 := hh i hin
    show (if (U' i && U i) = true then (if hi' i = true then 0 else w i) else (if hi' i = true then w i else 0)) + (if (U' i || U i) = true then (if hi i = true then 0 else w i) else (if hi i = true then w i else 0)) ≤ _
    generalize hi i = x at h5 ⊢
    generalize hi' i = y at h5 ⊢
    cases U' i <;> cases U i <;> cases x <;> cases y <;> first | (exact absurd (h5 rfl) (by decide)) | (simp <;> omega)
  have := h.le _ c2
  intro i hin hx
  have := h'.in_ _ c1 (by omega) i hin hx
  simp only [Bool.and_eq_true] at this
  exact this.2
/-- A distance, step by step. -/
def stp (a p : Int) (lo : Int) (k : Nat) : Int := if decide (a > lo + k) = decide (p > lo + k) then 0 else 1
theorem stp_sum (a p lo : Int) (ha : lo ≤ a) (hp : lo ≤ p) : ∀ H : Nat, sm H (stp a p lo) = max (min a (lo + H) - min p (lo + H)) (min p (lo + H) - min a (lo + H))
  | 0 => by simp only [sm]; omega
  | H + 1 => by
    rw [sm, stp_sum a p lo ha hp H]
    unfold stp
    by_cases h1 : a > lo + (H : Int) <;> by_cases h2 : p > lo + (H : Int) <;> simp only [h1, h2, decide_true, decide_false, if_true, if_false, reduceCtorEq] <;> omega
/-- Who is above a number. -/
def overB (f : Nat → Int) (z : Int) (i : Nat) : Bool := decide (f i > z)
def lossS (n : Nat) (w p f : Nat → Int) : Int := sm n fun i => w i * max (f i - p i) (p i - f i)
theorem sm_mul (c : Int) (f : Nat → Int) : ∀ n, sm n (fun x => c * f x) = c * sm n f
  | 0 => by simp [sm]
  | n + 1 => by simp only [sm, sm_mul c f n, Int.mul_add]
/-- The loss is the costs of all prices together. -/
theorem loss_levels {p f : Nat → Int} {lo : Int} {H : Nat} (hp : ∀ i, i < n → lo ≤ p i ∧ p i ≤ lo + H) (hf : ∀ i, i < n → lo ≤ f i ∧ f i ≤ lo + H) : lossS n w p f = sm H fun k => costS n (overB p (lo + k)) w (overB f (lo + k)) := by
  unfold lossS costS
  rw [sm_swap]
  refine sm_congr fun i hin => ?_
  have h1 := hp i hin
  have h2 := hf i hin
  rw [show max (f i - p i) (p i - f i) = sm H (stp (f i) (p i) lo) by
    rw [stp_sum _ _ _ h2.1 h1.1]
    congr 1 <;> omega, ← sm_mul]
  refine sm_congr fun k hk => ?_
  unfold stp overB
  by_cases h3 : f i > lo + (k : Int) <;> by_cases h4 : p i > lo + (k : Int) <;> simp [h3, h4]
/-- A fit: never lower above. -/
def FitS (n : Nat) (b : Nat → Nat → Bool) (f : Nat → Int) : Prop := ∀ i j, i < n → j < n → b i j = true → f i ≤ f j
theorem FitS.closed {f : Nat → Int} (h : FitS n b f) (z : Int) : ClosedS n b (overB f z) := fun i j hin hj hx hb => by
  unfold overB at *
  have := h i j hin hj hb
  have := of_decide_eq_true hx
  exact decide_eq_true (by omega)
/-- The fit whose numbers above each price are the least of the cheapest sets is the lowest of the best. -/
theorem levels_best {p f g : Nat → Int} {lo : Int} {H : Nat} (hp : ∀ i, i < n → lo ≤ p i ∧ p i ≤ lo + H) (hf : ∀ i, i < n → lo ≤ f i ∧ f i ≤ lo + H) (hg : ∀ i, i < n → lo ≤ g i ∧ g i ≤ lo + H) (hl : ∀ k, k < H → LowS n (overB p (lo + k)) w b (overB f (lo + k))) (fg : FitS n b g) :
    lossS n w p f ≤ lossS n w p g ∧ (lossS n w p g ≤ lossS n w p f → ∀ i, i < n → f i ≤ g i) := by
  rw [loss_levels hp hf, loss_levels hp hg]
  have each : ∀ k, k < H → costS n (overB p (lo + k)) w (overB f (lo + k)) ≤ costS n (overB p (lo + k)) w (overB g (lo + k)) := fun k hk => (hl k hk).le _ (fg.closed _)
  refine ⟨sm_le each, fun hle i hin => ?_⟩
  have hz : ∀ k, k < H → costS n (overB p (lo + k)) w (overB g (lo + k)) + - costS n (overB p (lo + k)) w (overB f (lo + k)) = 0 := by
    refine sm_pos_zero (fun k hk => by have := each k hk; omega) ?_
    rw [sm_add, sm_neg]; omega
  refine Classical.byContradiction fun hno => ?_
  have h1 := hf i hin
  have h2 := hg i hin
  obtain ⟨k, hk⟩ : ∃ k : Nat, g i = lo + k := ⟨(g i - lo).toNat, by omega⟩
  have hkH : k < H := by omega
  have := (hl k hkH).in_ _ (fg.closed (lo + k)) (by have := hz k hkH; omega) i hin (by unfold overB; exact decide_eq_true (by omega))
  unfold overB at this
  have := of_decide_eq_true this
  omega
end
section
variable {n : Nat} {w : Nat → Int} {b : Nat → Nat → Bool}
theorem LowS.congr {hi hi' : Nat → Bool} {U U' : Nat → Bool} (h : LowS n hi w b U) (e1 : ∀ i, i < n → hi i = hi' i) (e2 : ∀ i, i < n → U i = U' i) : LowS n hi' w b U' := by
  have c : ∀ V, costS n hi' w V = costS n hi w V := fun V => sm_congr fun i hin => by rw [e1 i hin]
  have cU : costS n hi w U' = costS n hi w U := sm_congr fun i hin => by rw [e2 i hin]
  refine ⟨fun i j hin hj hx hb => ?_, fun V hV => ?_, fun V hV hle i hin hx => ?_⟩
  · rw [← e2 i hin] at hx; rw [← e2 j hj]; exact h.cl i j hin hj hx hb
  · rw [c, c, cU]; exact h.le V hV
  · rw [c, c, cU] at hle; rw [← e2 i hin] at hx; exact h.in_ V hV hle i hin hx
theorem LowS.all (hw : ∀ i, i < n → 0 < w i) : LowS n (fun _ => true) w b (fun _ => true) := by
  have z : costS n (fun _ => true) w (fun _ => true) = 0 := by
    unfold costS
    rw [sm_congr (g := fun _ => 0) (fun i _ => by simp), sm_zero]
  have q : ∀ V : Nat → Bool, ∀ i, i < n → 0 ≤ (if V i = true then (if true = true then 0 else w i) else (if true = true then w i else 0)) := fun V i hin => by
    have := hw i hin
    cases V i <;> simp <;> omega
  refine ⟨fun _ _ _ _ _ _ => rfl, fun V _ => by rw [z]; exact sm_nonneg (q V), fun V _ hle i hin _ => ?_⟩
  rw [z] at hle
  have h1 := sm_pos_zero (q V) hle i hin
  have := hw i hin
  cases hV : V i with
  | true => rfl
  | false => rw [hV] at h1; simp at h1; omega
theorem LowS.none (hw : ∀ i, i < n → 0 < w i) : LowS n (fun _ => false) w b (fun _ => false) := by
  have z : costS n (fun _ => false) w (fun _ => false) = 0 := by
    unfold costS
    rw [sm_congr (g := fun _ => 0) (fun i _ => by simp), sm_zero]
  refine ⟨fun _ _ _ _ h _ => absurd h (by decide), fun V _ => ?_, fun V _ _ i _ h => absurd h (by decide)⟩
  rw [z]
  refine sm_nonneg fun i hin => ?_
  have := hw i hin
  cases V i <;> simp <;> omega
/-- The fit, price by price. -/
def fitG (ps : Nat → Int) (k : Nat) (ins : Nat → Nat → Bool) : Nat → Nat → Int
  | 0, _ => 0
  | m + 1, i => if ins m i = true ∧ m + 1 < k then ps (m + 1) else if m = 0 then ps 0 else fitG ps k ins m i
theorem fitG_form (ps : Nat → Int) (k : Nat) (ins : Nat → Nat → Bool) (i : Nat) : ∀ m, 1 ≤ m → (∃ q, q < m ∧ q + 1 < k ∧ ins q i = true ∧ fitG ps k ins m i = ps (q + 1) ∧ ∀ r, q < r → r < m → r + 1 < k → ins r i = false) ∨ (fitG ps k ins m i = ps 0 ∧ ∀ r, r < m → r + 1 < k → ins r i = false)
  | 0, h => by omega
  | m + 1, _ => by
    rw [fitG]
    by_cases h1 : ins m i = true ∧ m + 1 < k
    · rw [if_pos h1]
      exact .inl ⟨m, by omega, h1.2, h1.1, rfl, fun r h2 h3 => by omega⟩
    · rw [if_neg h1]
      have no : m + 1 < k → ins m i = false := fun h => by
        cases e : ins m i with
        | false => rfl
        | true => exact absurd ⟨e, h⟩ h1
      by_cases h0 : m = 0
      · rw [if_pos h0]
        subst h0
        exact .inr ⟨rfl, fun r h2 h3 => by rw [show r = 0 by omega] at h3 ⊢; exact no h3⟩
      · rw [if_neg h0]
        rcases fitG_form ps k ins i m (by omega) with ⟨q, a, b, c, d, e⟩ | ⟨d, e⟩
        · exact .inl ⟨q, by omega, b, c, d, fun r h2 h3 h4 => by
            by_cases e2 : r = m
            · subst e2; exact no h4
            · exact e r h2 (by omega) h4⟩
        · exact .inr ⟨d, fun r h2 h3 => by
            by_cases e2 : r = m
            · subst e2; exact no h3
            · exact e r (by omega) h3⟩
/-- Ascending prices, each of a quote, and with each quote's. -/
structure Prices (n : Nat) (p : Nat → Int) (ps : Nat → Int) (k : Nat) : Prop where
  pos : 0 < k
  asc : ∀ a c, a < c → c < k → ps a < ps c
  all : ∀ i, i < n → ∃ a, a < k ∧ ps a = p i
theorem Prices.mono {p ps : Nat → Int} {k : Nat} (h : Prices n p ps k) {a c : Nat} (hac : a ≤ c) (hc : c < k) : ps a ≤ ps c := by
  by_cases e : a = c
  · subst e; omega
  · have := h.asc a c (by omega) hc; omega
/-- Above each number stand the least of the cheapest. -/
theorem fitG_low {p ps : Nat → Int} {k : Nat} (hP : Prices n p ps k) (hw : ∀ i, i < n → 0 < w i) {ins : Nat → Nat → Bool} (hi : ∀ m, m + 1 < k → LowS n (overB p (ps m)) w b (ins m)) (z : Int) : LowS n (overB p z) w b (overB (fitG ps k ins k) z) := by
  have hk := hP.pos
  have anti : ∀ m, m + 1 < k → ∀ q, q ≤ m → ∀ i, i < n → ins m i = true → ins q i = true := fun m hm q hq i hin hx => by
    refine LowS.anti (fun i hin => by have := hw i hin; omega) (hi q (by omega)) (hi m hm) (fun i _ h => ?_) i hin hx
    unfold overB at *
    have := of_decide_eq_true h
    have := hP.mono hq (by omega)
    exact decide_eq_true (by omega)
  by_cases h0 : z < ps 0
  · refine (LowS.all hw).congr (fun i hin => ?_) (fun i hin => ?_)
    · obtain ⟨a, ha, e⟩ := hP.all i hin
      have := hP.mono (Nat.zero_le a) ha
      unfold overB; exact (decide_eq_true (by omega)).symm
    · unfold overB
      refine (decide_eq_true ?_).symm
      rcases fitG_form ps k ins i k hk with ⟨q, _, c, _, d, _⟩ | ⟨d, _⟩
      · have := hP.mono (Nat.zero_le (q + 1)) c; omega
      · omega
  · by_cases h1 : ps (k - 1) ≤ z
    · refine (LowS.none hw).congr (fun i hin => ?_) (fun i hin => ?_)
      · obtain ⟨a, ha, e⟩ := hP.all i hin
        have := hP.mono (show a ≤ k - 1 by omega) (by omega)
        unfold overB; exact (decide_eq_false (by omega)).symm
      · unfold overB
        refine (decide_eq_false ?_).symm
        rcases fitG_form ps k ins i k hk with ⟨q, _, c, _, d, _⟩ | ⟨d, _⟩
        · have := hP.mono (show q + 1 ≤ k - 1 by omega) (by omega); omega
        · omega
    · -- between two prices
      have : ∀ d, d < k → ps d > z → ∃ m, m + 1 < k ∧ ps m ≤ z ∧ z < ps (m + 1) := by
        intro d
        induction d with
        | zero => intro _ h; omega
        | succ d ih =>
          intro hd h
          by_cases h2 : ps d > z
          · exact ih (by omega) h2
          · exact ⟨d, hd, by omega, h⟩
      obtain ⟨m, hm, h2, h3⟩ := this (k - 1) (by omega) (by omega)
      refine (hi m hm).congr (fun i hin => ?_) (fun i hin => ?_)
      · obtain ⟨a, ha, e⟩ := hP.all i hin
        unfold overB
        refine decide_eq_decide.2 ?_
        rw [← e]
        by_cases h4 : a ≤ m
        · have := hP.mono h4 (by omega); omega
        · have := hP.mono (show m + 1 ≤ a by omega) ha; omega
      · unfold overB
        rcases fitG_form ps k ins i k hk with ⟨q, _, c, d, e, f⟩ | ⟨d, e⟩
        · rw [e]
          by_cases h4 : m ≤ q
          · rw [anti q c m h4 i hin d]
            have := hP.mono (show m + 1 ≤ q + 1 by omega) c
            exact (decide_eq_true (by omega)).symm
          · rw [f m (by omega) (by omega) hm]
            have := hP.mono (show q + 1 ≤ m by omega) (by omega)
            exact (decide_eq_false (by omega)).symm
        · rw [d, e m (by omega) hm]
          exact (decide_eq_false (by omega)).symm
theorem fitG_range {p ps : Nat → Int} {k : Nat} (hP : Prices n p ps k) (ins : Nat → Nat → Bool) (i : Nat) : ∃ a, a < k ∧ fitG ps k ins k i = ps a := by
  have hk := hP.pos
  rcases fitG_form ps k ins i k hk with ⟨q, _, c, _, d, _⟩ | ⟨d, _⟩
  · exact ⟨q + 1, c, d⟩
  · exact ⟨0, hk, d⟩
/-- Two fits whose numbers above each price are the same sets are the same. -/
theorem over_eq {f g : Nat → Int} {i : Nat} (h : ∀ z, overB f z i = overB g z i) : f i = g i := by
  have h1 := h (f i)
  have h2 := h (g i)
  unfold overB at h1 h2
  rw [decide_eq_false (show ¬ f i > f i by omega)] at h1
  rw [decide_eq_false (show ¬ g i > g i by omega)] at h2
  have := of_decide_eq_false h1.symm
  have := of_decide_eq_false h2
  omega
theorem fitG_fit {p ps : Nat → Int} {k : Nat} (hP : Prices n p ps k) (hw : ∀ i, i < n → 0 < w i) {ins : Nat → Nat → Bool} (hi : ∀ m, m + 1 < k → LowS n (overB p (ps m)) w b (ins m)) : FitS n b (fitG ps k ins k) := fun i j hin hj hb => by
  have h := (fitG_low hP hw hi (fitG ps k ins k j)).cl i j hin hj
  refine Classical.byContradiction fun hno => ?_
  have := h (by unfold overB; exact decide_eq_true (by omega)) hb
  unfold overB at this
  have := of_decide_eq_true this
  omega
end
section
/-- The node from which one was reached. -/
def par (F : Nat → Int) (v : Nat) : Nat := (F v - 1).toNat
/-- The least room on the way back. -/
def leastP (F : Nat → Int) (r : Nat → Nat → Int) (s N : Nat) : Nat → Nat → Int → Option Int
  | 0, _, _ => none
  | f + 1, v, d => if v = s then some d else if 1 ≤ F v ∧ F v ≤ N then leastP F r s N f (par F v) (min d (r (par F v) v)) else none
/-- So much is sent along the way. -/
def pushP (F : Nat → Int) (s N : Nat) (L : Int) : Nat → Nat → (Nat → Nat → Int) → Option (Nat → Nat → Int)
  | 0, _, _ => none
  | f + 1, v, r => if v = s then some r else if (1 ≤ F v ∧ F v ≤ N) ∧ par F v ≠ v ∧ 0 ≤ L ∧ L ≤ r (par F v) v ∧ r (par F v) v ≤ 4611686018427387904 ∧ 0 ≤ r v (par F v) ∧ r v (par F v) + L ≤ 4611686018427387904 then pushP F s N L f (par F v) (push1 r (par F v) v L) else none
/-- What was reached, from where, and in which turn. -/
structure Tr (N : Nat) (r : Nat → Nat → Int) (s : Nat) (F : Nat → Int) (rk : Nat → Nat) : Prop where
  rg : ∀ v, v < N → 0 ≤ F v ∧ F v ≤ N
  up : ∀ v, v < N → v ≠ s → F v ≠ 0 → F (par F v) ≠ 0 ∧ rk (par F v) < rk v ∧ 0 < r (par F v) v
structure Tree (N : Nat) (r : Nat → Nat → Int) (s : Nat) (F : Nat → Int) (rk : Nat → Nat) : Prop where
  tr : Tr N r s F rk
  rc : ∀ v, v < N → (F v ≠ 0 ↔ Rch N r s v)
variable {N s t : Nat} {r c : Nat → Nat → Int} {F : Nat → Int} {rk : Nat → Nat}
theorem Tr.par_lt (h : Tr N r s F rk) {v : Nat} (hv : v < N) (hF : F v ≠ 0) : par F v < N ∧ 1 ≤ F v ∧ F v ≤ N := by
  have := h.rg v hv
  unfold par
  omega
theorem Tr.least (h : Tr N r s F rk) : ∀ (f v : Nat) (d : Int), v < N → F v ≠ 0 → 1 ≤ d → rk v < f → ∃ L, leastP F r s N f v d = some L ∧ 1 ≤ L := by
  intro f
  induction f with
  | zero => intro v d _ _ _ h; omega
  | succ f ih =>
    intro v d hv hF hd hf
    rw [leastP]
    by_cases e : v = s
    · rw [if_pos e]; exact ⟨d, rfl, hd⟩
    · obtain ⟨h1, h2, h3⟩ := h.up v hv e hF
      have h4 := h.par_lt hv hF
      rw [if_neg e, if_pos h4.2]
      exact ih _ _ h4.1 h1 (by omega) (by omega)
theorem leastP_le : ∀ (f v : Nat) (d L : Int), leastP F r s N f v d = some L → L ≤ d := by
  intro f
  induction f with
  | zero => intro v d L h; exact absurd h (by simp [leastP])
  | succ f ih =>
    intro v d L h
    rw [leastP] at h
    split at h
    · have := Option.some.inj h; omega
    · split at h
      · have := ih _ _ _ h; omega
      · exact absurd h (by simp)
/-- What holds while the way is gone back. -/
structure Half (N : Nat) (c r : Nat → Nat → Int) (s t : Nat) (rk : Nat → Nat) (L : Int) (v : Nat) (r' : Nat → Nat → Int) : Prop where
  sym : ∀ x y, x < N → y < N → r' x y + r' y x = c x y + c y x
  pos : ∀ x y, x < N → y < N → 0 ≤ r' x y
  row : ∀ x, x < N → rowS N r' x = rowS N r x + (if x = t then L else 0) - (if x = v then L else 0)
  old : ∀ x y, rk x ≤ rk v → rk y ≤ rk v → r' x y = r x y
theorem Tr.push (h : Tr N r s F rk) (hC : ∀ x y, x < N → y < N → c x y + c y x ≤ 4611686018427387904) {L : Int} (hL : 0 ≤ L) : ∀ (f v : Nat) (d : Int) (r' : Nat → Nat → Int), leastP F r s N f v d = some L → v < N → F v ≠ 0 → Half N c r s t rk L v r' → ∃ r2, pushP F s N L f v r' = some r2 ∧ Half N c r s t rk L s r2 := by
  intro f
  induction f with
  | zero => intro v d r' h; exact absurd h (by simp [leastP])
  | succ f ih =>
    intro v d r' hl hv hF H
    rw [leastP] at hl
    rw [pushP]
    by_cases e : v = s
    · rw [if_pos e]; subst e; exact ⟨r', rfl, H⟩
    · obtain ⟨h1, h2, h3⟩ := h.up v hv e hF
      have h4 := h.par_lt hv hF
      rw [if_neg e, if_pos h4.2] at hl
      have hLr : L ≤ r (par F v) v := by
        have := leastP_le _ _ _ _ hl; omega
      have ho := H.old (par F v) v (by omega) (Nat.le_refl _)
      have hne : par F v ≠ v := fun e2 => by rw [e2] at h2; omega
      rw [if_neg e, if_pos (by
        have q1 := H.pos (par F v) v h4.1 hv
        have q2 := H.pos v (par F v) hv h4.1
        have q3 := H.sym (par F v) v h4.1 hv
        have q4 := hC (par F v) v h4.1 hv
        exact ⟨h4.2, hne, hL, by omega, by omega, q2, by omega⟩)]
      refine ih _ _ _ hl h4.1 h1 ⟨push1_sym hne H.sym, fun x y hx hy => ?_, fun x hx => ?_, fun x y hx hy => ?_⟩
      · have := H.pos x y hx hy
        unfold push1
        split
        · next h5 => rw [h5.1, h5.2, ho]; omega
        · split <;> omega
      · rw [push1_row hne h4.1 hv, H.row x hx]
        omega
      · rw [← H.old x y (by omega) (by omega)]
        unfold push1
        rw [if_neg (fun h5 => by rw [h5.2] at hy; omega), if_neg (fun h5 => by rw [h5.1] at hx; omega)]
/-- One round: more goes through. -/
theorem Res.round (hC : ∀ x y, x < N → y < N → c x y + c y x ≤ 4611686018427387904) (hR : Res N c r s t) (h : Tr N r s F rk) (hst : s ≠ t) (hs : s < N) (ht : t < N) (hF : F t ≠ 0) (f : Nat) (hf : rk t < f) (big : Int) (hb : 1 ≤ big) :
    ∃ L r2, leastP F r s N f t big = some L ∧ 1 ≤ L ∧ L ≤ big ∧ pushP F s N L f t r = some r2 ∧ Res N c r2 s t ∧ rowS N r2 s = rowS N r s - L := by
  obtain ⟨L, h1, h2⟩ := h.least f t big ht hF hb hf
  obtain ⟨r2, h3, h4⟩ := h.push (c := c) (t := t) hC (by omega) f t big r h1 ht hF ⟨hR.sym, hR.pos, fun x hx => by split <;> omega, fun _ _ _ _ => rfl⟩
  refine ⟨L, r2, h1, h2, leastP_le _ _ _ _ h1, h3, ⟨h4.sym, h4.pos, fun u hu hus hut => ?_⟩, ?_⟩
  · rw [h4.row u hu, if_neg hut, if_neg hus, ← hR.row u hu hus hut]; omega
  · rw [h4.row s hs, if_neg hst, if_pos rfl]; omega
/-- At the end. -/
theorem Res.done (hR : Res N c r s t) (h : Tree N r s F rk) (hs : s < N) (ht : t < N) (hF : F t = 0) : LowCut N c s t (fun v => decide (F v ≠ 0)) :=
  hR.low hs (fun u hu => by rw [decide_eq_true_iff]; exact h.rc u hu) (by simp [hF])
theorem Res.start (hc : ∀ u v, u < N → v < N → 0 ≤ c u v) : Res N c c s t := ⟨fun _ _ _ _ => rfl, hc, fun _ _ _ _ => rfl⟩
end
end Go.Proofs.Ytnbdfmdjedakcaa
