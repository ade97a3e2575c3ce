/- The law GradeStrain, as plain Lean: at every input some fuel gives true. No conditions. -/
import Derived.Test.YtnbdfmdjedakcaaJ4
import Derived.Test.YtnbdfmdjedakcaaQ4
namespace Go.Proofs.Ytnbdfmdjedakcaa.PP
open Go.RowKit Go.Proofs.YtnbdfmdjedakcaaW.PrintWords Go.Proofs.YtnbdfmdjedakcaaW.PrintLast Go.Proofs.YtnbdfmdjedakcaaW.PrintMore Go.Proofs.Ytnbdfmdjedakcaa
set_option linter.unusedVariables false
set_option linter.unusedSimpArgs false
/-- The strain of a fit is no less than half the worst clash. -/
theorem strain_most {l : List S38} {x : List Int} {t : Int} {p q : Nat} (hf : fitP l x) (ht : StP l x l.length t) (hp : p < l.length) (hq : q < l.length) (hb : blQ l p q = true) : dfQ l p q ≤ 2 * t := by
  have h1 := (ht.all p hp).2
  have h2 := (ht.all q hq).1
  have h3 := hf p q hp hq hb
  unfold dfQ
  omega
theorem tail_ev (l : List S38) (o f : List Int) (s t : Int) (hn : l.length ≤ 24) (hf : f.length = l.length) (ho : o.length = l.length) (hst : s ≤ t) (hle : t = s → ∀ a, a < l.length → at0 f a ≤ max 0 (at0 o a)) : ∀ m j, j + m = l.length → Ev (fun k => kimberlitelaw02_GradeStrain.l0 k l o f s t (j : Int)) true
  | 0, j, hj => by
    have h6 : Ev (fun k => kimberlitelaw02_GradeStrain.j6 k l o f s t (j : Int) false) true := by
      refine Ev.step (Ev.bind alive_ev (Ev.pure _)) (fun k => ?_)
      show kimberlitelaw02_GradeStrain.j6 (k + 1) l o f s t (j : Int) false = _
      rw [kimberlitelaw02_GradeStrain.j6, if_neg (by decide), if_pos hst]
    refine Ev.step h6 (fun k => ?_)
    show kimberlitelaw02_GradeStrain.l0 (k + 1) l o f s t (j : Int) = _
    rw [kimberlitelaw02_GradeStrain.l0, if_neg (by omega)]
  | m + 1, j, hj => by
    have h6 : Ev (fun k => kimberlitelaw02_GradeStrain.j6 k l o f s t (j : Int) (t == s)) true := by
      by_cases e : t = s
      · refine Ev.step (tail_ev l o f s t hn hf ho hst hle m (j + 1) (by omega)) (fun k => ?_)
        show kimberlitelaw02_GradeStrain.j6 (k + 1) l o f s t (j : Int) (t == s) = _
        have h := hle e j (by omega)
        rw [kimberlitelaw02_GradeStrain.j6, if_pos (by rw [e]; exact beq_self_eq_true s), if_pos (by omega), if_pos (by omega), if_pos (by omega), rd_at, rd_at, mx_max, if_neg (by omega), suc64 (n := 0) (by omega)]
      · refine Ev.step (Ev.bind alive_ev (Ev.pure _)) (fun k => ?_)
        show kimberlitelaw02_GradeStrain.j6 (k + 1) l o f s t (j : Int) (t == s) = _
        rw [kimberlitelaw02_GradeStrain.j6, if_neg (by simpa using e), if_pos hst]
    refine Ev.step h6 (fun k => ?_)
    show kimberlitelaw02_GradeStrain.l0 (k + 1) l o f s t (j : Int) = _
    rw [kimberlitelaw02_GradeStrain.l0, if_pos (by omega)]
theorem pure_GradeStrain (l : List S38) (o : List Int) (ho : o.length ≤ 9223372036854775807) : ∃ k, kimberlitelaw02_GradeStrain.f k l o = some true := by
  have main : Ev (fun k => kimberlitelaw02_GradeStrain.f k l o) true := by
    unfold kimberlitelaw02_GradeStrain.f
    by_cases hq : qErrF l = 0
    · obtain ⟨hn, hok⟩ := qErrF_ok hq
      obtain ⟨x, y, z, f, h1, h2, h3, h4, hz⟩ := level_ev l hq
      have hz0 := h2.c0
      have htd : Int.tdiv (z + 1) 2 = (z + 1) / 2 := Int.tdiv_eq_ediv_of_nonneg (by omega)
      obtain ⟨s, hs⟩ : ∃ s, Int.tdiv (z + 1) 2 = s := ⟨_, rfl⟩
      rw [hs] at h3 h4 htd
      have hfa : ∀ a, a < l.length → at0 f a = lvA l s a l.length := fun a ha => h4.done a ha ha
      have hlow : ∀ b a, b < l.length → a < l.length → blQ l b a = true → (qA l b).f1 - s ≤ at0 f a := fun b a hb ha hba => by
        rw [hfa a ha]; exact lvA_ge l s a l.length b hb hba
      have hup : ∀ a t, a < l.length → 0 ≤ t → (∀ b, b < l.length → blQ l b a = true → (qA l b).f1 - s ≤ t) → at0 f a ≤ t := fun a t ha h0 hb => by
        rw [hfa a ha]; exact lvA_le l s a t h0 l.length hb
      have hnn : ∀ a, a < l.length → 0 ≤ at0 f a := fun a ha => by rw [hfa a ha]; exact lvA_nn l s a l.length
      have hfit : fitP l f := fun i j hi hj hb => hup i _ hi (hnn j hj) (fun b hb1 hb2 => hlow b j hb1 hj (bl_trans l hb2 hb))
      have htame : tameP f := fun a ha => by
        have ha' : a < l.length := by rw [← h4.len]; exact ha
        have g1 := hnn a ha'
        have g2 := hup a 1073741824 ha' (by omega) (fun b hb _ => by have := (hok b hb).2; omega)
        omega
      obtain ⟨t, ht1, ht2⟩ := strain_ev l f hok hn h4.len htame
      have hts : t = s := by
        have up : t ≤ s := by
          rcases ht2.at_ with e | ⟨i, hi, e | e⟩
          · omega
          · have g := hup i ((qA l i).f1 + s) hi (by have := (hok i hi).2; omega) (fun b hb hbi => by
              by_cases e2 : b = i
              · subst e2; omega
              · have := h2.most b i (Or.inl hb) hi e2 hbi
                unfold dfQ at this
                omega)
            omega
          · have g := hlow i i hi hi (bl_refl l i)
            omega
        have low : s ≤ t := by
          rcases h2.at_ with ⟨_, _, e⟩ | ⟨p, q, _, _, hp, hq2, _, hbl, e, _⟩
          · have := ht2.pos; omega
          · have := strain_most hfit ht2 hp hq2 hbl
            omega
        omega
      subst hts
      obtain ⟨r, hr1, hr2⟩ := fit_ev l f (by omega)
      obtain rfl : r = true := hr2.mpr ⟨h4.len, hfit⟩
      have hj4t : Ev (fun k => kimberlitelaw02_GradeStrain.j4 k l o f t true) true := by
        refine Ev.step (Ev.bind alive_ev (Ev.pure _)) (fun k => ?_)
        show kimberlitelaw02_GradeStrain.j4 (k + 1) l o f t true = _
        rw [kimberlitelaw02_GradeStrain.j4, if_pos rfl]
      have hj3 : Ev (fun k => kimberlitelaw02_GradeStrain.j3 k l o f t) true := by
        obtain ⟨r, h5, h6⟩ := tame_l0 o ho o.length 0 (by omega)
        have h5' : Ev (fun k => kimberlitelaw02_tame.f k o) r := h5
        refine Ev.step (Ev.bind (G := fun k t283 => (if t283 = true then ((kimberliteref02_Fit.f k l o).bind fun t284 => (kimberlitelaw02_GradeStrain.j4 k l o f t (!t284))) else (kimberlitelaw02_GradeStrain.j4 k l o f t true))) h5' ?_) (fun k => ?_)
        · cases r with
          | false => simpa using hj4t
          | true =>
            simp only [if_true]
            have hto : tameP o := fun i hi => h6 rfl i (Nat.zero_le _) hi
            obtain ⟨r2, h7, h8⟩ := fit_ev l o (by omega)
            refine Ev.bind h7 ?_
            cases r2 with
            | false => exact hj4t
            | true =>
              obtain ⟨hol, hof⟩ := h8.mp rfl
              obtain ⟨t2, h9, h10⟩ := strain_ev l o hok hn hol hto
              have hst : t ≤ t2 := by
                rcases h2.at_ with ⟨_, _, e⟩ | ⟨p, q, _, _, hp, hq2, _, hbl, e, _⟩
                · have := h10.pos; omega
                · have := strain_most hof h10 hp hq2 hbl
                  omega
              have hl0 := tail_ev l o f t t2 hn h4.len hol hst (fun e a ha => ?_) l.length 0 (by omega)
              refine Ev.step (Ev.bind (G := fun k t286 => kimberlitelaw02_GradeStrain.l0 k l o f t t286 0) h9 hl0) (fun k => ?_)
              rotate_left
              · refine hup a _ ha (by omega) (fun b hb hba => ?_)
                have g1 := (h10.all b hb).2
                have g2 := hof b a hb ha hba
                omega
              · show kimberlitelaw02_GradeStrain.j4 (k + 1) l o f t (!true) = _
                rw [kimberlitelaw02_GradeStrain.j4, if_neg (by decide)]
        · show kimberlitelaw02_GradeStrain.j3 (k + 1) l o f t = _
          rw [kimberlitelaw02_GradeStrain.j3]
      have hj1 : Ev (fun k => kimberlitelaw02_GradeStrain.j1 k l o f t x y false) true := by
        rcases h2.at_ with ⟨rfl, rfl, rfl⟩ | ⟨p, q, rfl, rfl, hp, hq2, hpq, hbl, e, hz2⟩
        · refine Ev.step hj3 (fun k => ?_)
          show kimberlitelaw02_GradeStrain.j1 (k + 1) l o f t (-1) (-1) false = _
          rw [kimberlitelaw02_GradeStrain.j1, if_neg (by decide), if_neg (by omega)]
        · have hj2 : Ev (fun k => kimberlitelaw02_GradeStrain.j2 k l o f t (p : Int) (q : Int) false) true := by
            refine Ev.step hj3 (fun k => ?_)
            show kimberlitelaw02_GradeStrain.j2 (k + 1) l o f t (p : Int) (q : Int) false = _
            have e2 : wrap64 ((rd_T38 l (p : Int)).f1 - (rd_T38 l (q : Int)).f1) = z := by rw [e]; exact df64 hok hp hq2
            have e3 : wrap64 (2 * t) = 2 * t := w64 (by omega) (by omega)
            have e4 : wrap64 (2 * t - 1) = 2 * t - 1 := w64 (by omega) (by omega)
            rw [kimberlitelaw02_GradeStrain.j2, if_neg (by decide), if_pos (by omega), if_pos (by omega), if_pos (by omega), if_pos (by omega), e2, e3, e4, if_neg (by omega), if_neg (by omega), if_neg (by omega)]
          refine Ev.step hj2 (fun k => ?_)
          show kimberlitelaw02_GradeStrain.j1 (k + 1) l o f t (p : Int) (q : Int) false = _
          rw [kimberlitelaw02_GradeStrain.j1, if_neg (by decide), if_pos (by omega), if_neg (by omega), if_neg (by omega), if_neg (by omega), if_pos (by omega), if_pos (by omega), if_pos (by omega), if_pos (by omega), blQ_f l p q, Option.bind_some, hbl]
          rfl
      refine Ev.bind h3 (Ev.bind h1 ?_)
      simp only [if_true, bne_self_eq_false]
      have e0 : ∀ k, kimberlitelaw02_GradeStrain.j0 (k + 1) l o f t 0 x y 0 false = ((kimberliteref02_Fit.f k l f).bind fun t276 => (if t276 = true then ((kimberlitelaw02_strain.f k l f).bind fun t277 => (if t277 = t then (if ((decide (x < 0)) != (decide (y < 0))) = true then (kimberlitelaw02_GradeStrain.j1 k l o f t x y true) else (if x < 0 then (kimberlitelaw02_GradeStrain.j1 k l o f t x y (t != 0)) else (kimberlitelaw02_GradeStrain.j1 k l o f t x y false))) else (kimberlitelaw02_GradeStrain.j1 k l o f t x y true))) else (kimberlitelaw02_GradeStrain.j1 k l o f t x y true))) := fun k => by
        rw [kimberlitelaw02_GradeStrain.j0, if_neg (by decide)]
      refine Ev.step ?_ e0
      refine Ev.bind hr1 ?_
      simp only [if_true]
      refine Ev.bind ht1 ?_
      simp only [if_true]
      rcases h2.at_ with ⟨rfl, rfl, rfl⟩ | ⟨p, q, rfl, rfl, hp, hq2, hpq, hbl, e, hz2⟩
      · have ht0 : t = 0 := by omega
        have e1 : (t != 0) = false := by rw [ht0]; rfl
        simpa [e1] using hj1
      · have e1 : decide ((p : Int) < 0) = false := decide_eq_false (by omega)
        have e2 : decide ((q : Int) < 0) = false := decide_eq_false (by omega)
        have e3 : ¬ ((p : Int) < 0) := by omega
        simpa [e1, e2, e3] using hj1
    · have h1 := clash_err l hq
      have hf : Ev (fun k => grade_Level.f k l) ([], 0, qErrF l) := by
        unfold grade_Level.f
        refine Ev.bind h1 ?_
        simp only [hq, if_false]
        exact Ev.pure _
      refine Ev.bind hf (Ev.bind h1 ?_)
      simp only [hq, if_false]
      refine Ev.step (Ev.bind alive_ev (Ev.pure _)) (fun k => ?_)
      show kimberlitelaw02_GradeStrain.j0 (k + 1) l o [] 0 (qErrF l) 0 0 (qErrF l) true = _
      rw [kimberlitelaw02_GradeStrain.j0, if_pos rfl, if_pos rfl, if_pos (show ((([] : List Int).length : Nat) : Int) = 0 from rfl), if_pos rfl]
  obtain ⟨k, hk⟩ := main
  exact ⟨k, hk k (Nat.le_refl _)⟩
end Go.Proofs.Ytnbdfmdjedakcaa.PP
