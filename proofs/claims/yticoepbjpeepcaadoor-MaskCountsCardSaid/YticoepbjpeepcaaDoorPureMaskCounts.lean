/- As many are in one or the other as in the first, and in the second alone; what both have and what the first alone has is the first. For whatever two sets. -/
import Derived.Test.YticoepbjpeepcaaDoorMkD
namespace Go.Proofs.YticoepbjpeepcaaDoor.Pure
open Go Go.RowKit Go.Proofs.YticoepbjpeepcaaDoor.PAll Go.Proofs.YticoepbjpeepcaaDoorW.PrintWords Go.Proofs.YticoepbjpeepcaaDoorW.PrintLast Go.Proofs.YticoepbjpeepcaaDoorW.PrintMore
open Go.Proofs.YticoepbjpeepcaaDoor.Eo Go.Proofs.YticoepbjpeepcaaDoor.Wd Go.Proofs.YticoepbjpeepcaaDoor.Bt Go.Proofs.YticoepbjpeepcaaDoor.Wp Go.Proofs.YticoepbjpeepcaaDoor.Mk
set_option linter.unusedVariables false
set_option linter.unusedSimpArgs false

theorem MaskCounts : windrowlaw04_MaskCounts.Pure := by
  intro a b _ _ ha _ _ hb
  replace ha := wfAll ha
  replace hb := wfAll hb
  obtain ⟨Km, hm⟩ := masked_eo
  suffices hs : ∀ c : Bool, (c = false → a.length ≤ 8 ∧ b.length ≤ 8) → Eo (fun k => windrowlaw04_MaskCounts.j0 k a b c) true by
    by_cases h : (a.length : Int) > 8
    · obtain ⟨K, hK⟩ := hs true (by simp)
      refine ⟨Km + K, ?_⟩
      unfold windrowlaw04_MaskCounts.f
      exact bnd (hm _ (by omega)) (itp rfl (itp h (hK _ (by omega))))
    · obtain ⟨K, hK⟩ := hs (decide ((b.length : Int) > 8)) (fun e => ⟨by omega, by have := of_decide_eq_false e; omega⟩)
      refine ⟨Km + K, ?_⟩
      unfold windrowlaw04_MaskCounts.f
      exact bnd (hm _ (by omega)) (itp rfl (itn h (hK _ (by omega))))
  intro c hc
  cases c with
  | true =>
    refine ⟨Km + 1, fun k hk => ?_⟩
    obtain ⟨q, rfl⟩ : ∃ q, k = q + 1 := ⟨k - 1, by omega⟩
    show windrowlaw04_MaskCounts.j0 (q + 1) a b true = _
    rw [windrowlaw04_MaskCounts.j0]
    exact itp rfl (bnd (hm q (by omega)) rfl)
  | false =>
    obtain ⟨hla, hlb⟩ := hc rfl
    obtain ⟨u, hu, K1, h1⟩ := union_eo ha hb (by omega) (by omega)
    obtain ⟨t, ht, K2, h2⟩ := meet_eo ha hb (by omega) (by omega)
    obtain ⟨d, hd, K3, h3⟩ := minus_eo ha hb (by omega) (by omega)
    obtain ⟨e, he, K4, h4⟩ := minus_eo hb ha (by omega) (by omega)
    have lu := hu.2.1
    have lt := ht.2.1
    have ld := hd.2.1
    have le := he.2.1
    obtain ⟨v, hv, K5, h5⟩ := union_eo ht.1 hd.1 (by omega) (by omega)
    obtain ⟨x, hx, K6, h6⟩ := meet_eo hd.1 hb (by omega) (by omega)
    have lv := hv.2.1
    have lx := hx.2.1
    obtain ⟨K7, h7⟩ := count_eo hu.1 (by omega)
    obtain ⟨K8, h8⟩ := count_eo ha (by omega)
    obtain ⟨K9, h9⟩ := count_eo he.1 (by omega)
    obtain ⟨Ka, hA⟩ := same_eo hv.1 ha (by omega) (by omega)
    obtain ⟨Kb, hB⟩ := within_eo ht.1 hb (by omega) (by omega)
    obtain ⟨Kc, hC⟩ := within_eo ha hu.1 (by omega) (by omega)
    obtain ⟨Kd, hD⟩ := count_eo hx.1 (by omega)
    have mu : ∀ i, mem u i = (mem a i || mem b i) := hu.2.2
    have mt : ∀ i, mem t i = (mem a i && mem b i) := ht.2.2
    have md : ∀ i, mem d i = (mem a i && !mem b i) := hd.2.2
    have me : ∀ i, mem e i = (mem b i && !mem a i) := he.2.2
    have mv : ∀ i, mem v i = (mem t i || mem d i) := hv.2.2
    have mxx : ∀ i, mem x i = (mem d i && mem b i) := hx.2.2
    have s1 : (sub v a && sub a v) = true := by
      rw [Bool.and_eq_true, sub_iff, sub_iff]
      refine ⟨fun i hi => ?_, fun i hi => ?_⟩
      · rw [mv, mt, md] at hi
        cases h : mem a i
        · rw [h] at hi; simp at hi
        · rfl
      · rw [mv, mt, md, hi]; cases mem b i <;> rfl
    have s2 : sub t b = true := sub_iff.mpr fun i hi => by
      rw [mt] at hi; exact (Bool.and_eq_true _ _ ▸ hi : mem a i = true ∧ mem b i = true).2
    have s3 : sub a u = true := sub_iff.mpr fun i hi => by rw [mu, hi]; rfl
    have z1 : size x = 0 := cnt_all_false fun i _ => by rw [mxx, md]; cases mem a i <;> cases mem b i <;> rfl
    have n1 : size u = size a + size e := by
      have hM : 64 * a.length ≤ 64 * max a.length b.length := by omega
      have e1 := size_to u (n := 64 * max a.length b.length) (by omega)
      have e2 := size_to a (n := 64 * max a.length b.length) (by omega)
      have e3 := size_to e (n := 64 * max a.length b.length) (by omega)
      rw [← e1, ← e2, ← e3, cnt_congr (fun i _ => mu i), cnt_or_andNot, cnt_congr (p := mem e) (fun i _ => me i)]
    have n2 := size_le a
    have n3 := size_le e
    refine ⟨Km + K1 + K2 + K3 + K4 + K5 + K6 + K7 + K8 + K9 + Ka + Kb + Kc + Kd + 1, fun k hk => ?_⟩
    obtain ⟨q, rfl⟩ : ∃ q, k = q + 1 := ⟨k - 1, by omega⟩
    show windrowlaw04_MaskCounts.j0 (q + 1) a b false = _
    rw [windrowlaw04_MaskCounts.j0]
    refine itn (by simp) (bnd (h1 q (by omega)) (bnd (h7 q (by omega)) (bnd (h8 q (by omega)) (bnd (h4 q (by omega)) (bnd (h9 q (by omega)) (itp ?_ (bnd (h2 q (by omega)) (bnd (h3 q (by omega)) (bnd (h5 q (by omega)) (bnd (hA q (by omega)) (itp s1 (bnd (h2 q (by omega)) (bnd (hB q (by omega)) (itp s2 (bnd (h1 q (by omega)) (bnd (hC q (by omega)) (itp s3 (bnd (h3 q (by omega)) (bnd (h6 q (by omega)) (bnd (hD q (by omega)) ?_))))))))))))))))))))
    · rw [w64 (by omega) (by omega)]; omega
    · rw [z1]; rfl
end Go.Proofs.YticoepbjpeepcaaDoor.Pure
