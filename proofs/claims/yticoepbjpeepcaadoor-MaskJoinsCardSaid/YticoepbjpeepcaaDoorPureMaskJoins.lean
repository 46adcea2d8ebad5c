/- What of two sets is in one or the other, in both, in the first alone, and whether one lies within the other, is what the chapter says. For whatever two sets. -/
import Derived.Test.YticoepbjpeepcaaDoorMkD
namespace Go.Proofs.YticoepbjpeepcaaDoor.Pure
open Go Go.RowKit Go.Proofs.YticoepbjpeepcaaDoor.PAll Go.Proofs.YticoepbjpeepcaaDoorW.PrintWords Go.Proofs.YticoepbjpeepcaaDoorW.PrintLast Go.Proofs.YticoepbjpeepcaaDoorW.PrintMore
open Go.Proofs.YticoepbjpeepcaaDoor.Eo Go.Proofs.YticoepbjpeepcaaDoor.Wd Go.Proofs.YticoepbjpeepcaaDoor.Bt Go.Proofs.YticoepbjpeepcaaDoor.Wp Go.Proofs.YticoepbjpeepcaaDoor.Mk
set_option linter.unusedVariables false
set_option linter.unusedSimpArgs false
set_option linter.unusedSectionVars false

theorem less_iff {a b x : List Int} (hx : JoinR (fk 2) a b x) : (((pls x (64 * x.length)).length : Int) == 0) = sub a b := by
  rw [Bool.eq_iff_iff, beq_iff_eq, pls_zero, sub_iff]
  have h2 : ∀ i, mem x i = (mem a i && !mem b i) := hx.2.2
  constructor
  · intro h i hi
    have := h i
    rw [h2, hi] at this
    simpa using this
  · intro h i
    rw [h2]
    cases ha : mem a i
    · rfl
    · rw [h i ha]; rfl

theorem MaskJoins : windrowlaw04_MaskJoins.Pure := by
  intro a b _ _ ha _ _ hb
  replace ha := wfAll ha
  replace hb := wfAll hb
  obtain ⟨Km, hm⟩ := masked_eo
  suffices hs : ∀ c : Bool, (c = false → a.length ≤ 8 ∧ b.length ≤ 8) → Eo (fun k => windrowlaw04_MaskJoins.j0 k a b c) true by
    by_cases h : (a.length : Int) > 8
    · obtain ⟨K, hK⟩ := hs true (by simp)
      refine ⟨K, ?_⟩
      unfold windrowlaw04_MaskJoins.f
      exact itp h (hK _ (by omega))
    · obtain ⟨K, hK⟩ := hs (decide ((b.length : Int) > 8)) (fun e => ⟨by omega, by have := of_decide_eq_false e; omega⟩)
      refine ⟨K, ?_⟩
      unfold windrowlaw04_MaskJoins.f
      exact itn h (hK _ (by omega))
  intro c hc
  cases c with
  | true =>
    refine ⟨Km + 1, fun k hk => ?_⟩
    obtain ⟨q, rfl⟩ : ∃ q, k = q + 1 := ⟨k - 1, by omega⟩
    show windrowlaw04_MaskJoins.j0 (q + 1) a b true = _
    rw [windrowlaw04_MaskJoins.j0]
    exact itp rfl (bnd (hm q (by omega)) rfl)
  | false =>
    obtain ⟨hla, hlb⟩ := hc rfl
    obtain ⟨u, hu, K1, h1⟩ := union_eo ha hb (by omega) (by omega)
    obtain ⟨t, ht, K2, h2⟩ := meet_eo ha hb (by omega) (by omega)
    obtain ⟨d, hd, K3, h3⟩ := minus_eo ha hb (by omega) (by omega)
    obtain ⟨e, he, K4, h4⟩ := minus_eo hb ha (by omega) (by omega)
    obtain ⟨K5, h5⟩ := rjoined_eo ha hb (by omega) (by omega) (.inl rfl) hu
    obtain ⟨K6, h6⟩ := rjoined_eo ha hb (by omega) (by omega) (.inr (.inl rfl)) ht
    obtain ⟨K7, h7⟩ := rjoined_eo ha hb (by omega) (by omega) (.inr (.inr rfl)) hd
    obtain ⟨K8, h8⟩ := rjoined_eo hb ha (by omega) (by omega) (.inr (.inr rfl)) he
    have lu := hu.2.1
    have lt := ht.2.1
    have ld := hd.2.1
    have le := he.2.1
    obtain ⟨K9, h9⟩ := rplaces_eo hd.1 (by omega)
    obtain ⟨Ka, hA⟩ := rplaces_eo he.1 (by omega)
    obtain ⟨Kb, hB⟩ := words_eo u (by omega)
    obtain ⟨Kc, hC⟩ := words_eo t (by omega)
    obtain ⟨Kd, hD⟩ := words_eo d (by omega)
    obtain ⟨Ke, hE⟩ := within_eo ha hb (by omega) (by omega)
    obtain ⟨Kf, hF⟩ := same_eo ha hb (by omega) (by omega)
    have s1 := less_iff hd
    have s2 := less_iff he
    refine ⟨Km + K1 + K2 + K3 + K4 + K5 + K6 + K7 + K8 + K9 + Ka + Kb + Kc + Kd + Ke + Kf + 1, fun k hk => ?_⟩
    obtain ⟨q, rfl⟩ : ∃ q, k = q + 1 := ⟨k - 1, by omega⟩
    show windrowlaw04_MaskJoins.j0 (q + 1) a b false = _
    rw [windrowlaw04_MaskJoins.j0]
    refine itn (by simp) (bnd (h7 q (by omega)) (bnd (h9 q (by omega)) (bnd (h8 q (by omega)) (bnd (hA q (by omega)) (bnd (hm q (by omega)) (itp rfl (bnd (h1 q (by omega)) (bnd (h5 q (by omega)) (bnd (hB q (by omega)) (itp rfl (bnd (h2 q (by omega)) (bnd (h6 q (by omega)) (bnd (hC q (by omega)) (itp rfl (bnd (h3 q (by omega)) (bnd (h7 q (by omega)) (bnd (hD q (by omega)) (itp rfl (bnd (hE q (by omega)) (itp ?_ (bnd (hF q (by omega)) ?_)))))))))))))))))))))
    · rw [s1, beq_self_eq_true]
    · rw [s2]
      by_cases hz : ((pls d (64 * d.length)).length : Int) = 0
      · refine itp hz ?_
        rw [hz, beq_self_eq_true] at s1
        rw [← s1, Bool.true_and, beq_self_eq_true]
      · refine itn hz ?_
        rw [beq_eq_false_iff_ne.mpr hz] at s1
        rw [← s1, Bool.false_and]; rfl
end Go.Proofs.YticoepbjpeepcaaDoor.Pure
