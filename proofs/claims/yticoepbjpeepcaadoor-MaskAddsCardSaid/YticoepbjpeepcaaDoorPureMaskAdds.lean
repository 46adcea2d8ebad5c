/- A place that is put in is there, and no other one more; taken out it is gone, and all others are there. For whatever set and number. -/
import Derived.Test.YticoepbjpeepcaaDoorMkD
namespace Go.Proofs.YticoepbjpeepcaaDoor.Pure
open Go Go.RowKit Go.Proofs.YticoepbjpeepcaaDoor.PAll Go.Proofs.YticoepbjpeepcaaDoorW.PrintWords Go.Proofs.YticoepbjpeepcaaDoorW.PrintLast Go.Proofs.YticoepbjpeepcaaDoorW.PrintMore
open Go.Proofs.YticoepbjpeepcaaDoor.Eo Go.Proofs.YticoepbjpeepcaaDoor.Wd Go.Proofs.YticoepbjpeepcaaDoor.Bt Go.Proofs.YticoepbjpeepcaaDoor.Wp Go.Proofs.YticoepbjpeepcaaDoor.Mk
set_option linter.unusedVariables false
set_option linter.unusedSimpArgs false
set_option linter.unusedSectionVars false

theorem cnt_succ (q : Nat → Bool) (n : Nat) {b : Bool} (h : q n = b) : cnt q (n + 1) = cnt q n + (if b = true then 1 else 0) := by subst h; rfl

theorem cnt_add_one (p : Nat → Bool) {a : Nat} : ∀ n, a < n → cnt (fun i => p i || decide (i = a)) n = cnt p n + (if p a = true then 0 else 1) := by
  intro n
  induction n with
  | zero => intro h; omega
  | succ n ih =>
    intro h
    by_cases e : a = n
    · subst e
      have e1 : cnt (fun i => p i || decide (i = a)) a = cnt p a := cnt_congr fun i hi => by rw [decide_eq_false (by omega), Bool.or_false]
      rw [cnt_succ _ a (b := true) (by simp), cnt_succ p a rfl, e1]
      cases p a <;> simp
    · rw [cnt_succ _ n (b := p n) (by simp [show ¬ n = a from fun z => e z.symm]), cnt_succ p n rfl, ih (by omega)]
      omega

theorem cnt_less_one (p : Nat → Bool) {a : Nat} (hp : p a = true) : ∀ n, a < n → cnt (fun i => p i && !decide (i = a)) n + 1 = cnt p n := by
  intro n
  induction n with
  | zero => intro h; omega
  | succ n ih =>
    intro h
    by_cases e : a = n
    · subst e
      have e1 : cnt (fun i => p i && !decide (i = a)) a = cnt p a := cnt_congr fun i hi => by rw [decide_eq_false (by omega)]; simp
      rw [cnt_succ _ a (b := false) (by simp), cnt_succ p a hp, e1]
      simp
    · have := ih (by omega)
      rw [cnt_succ _ n (b := p n) (by simp [show ¬ n = a from fun z => e z.symm]), cnt_succ p n rfl]
      omega

theorem MaskAdds : windrowlaw04_MaskAdds.Pure := by
  intro l a _ _ hw ha
  replace hw := wfAll hw
  obtain ⟨Km, hm⟩ := masked_eo
  obtain ⟨n, en, hn⟩ : ∃ n : Nat, wrap64 (Int.tmod (IntKind.u64.wrap a) 600) = n ∧ n < 600 := by
    have h0 : 0 ≤ IntKind.u64.wrap a := (W_wrap a).1
    rw [tm h0, w64 (x := IntKind.u64.wrap a % 600) (by omega) (by omega)]
    exact ⟨(IntKind.u64.wrap a % 600).toNat, by omega, by omega⟩
  suffices hs : Eo (fun k => windrowlaw04_MaskAdds.j0 k l a (decide ((l.length : Int) > 8))) true by
    obtain ⟨K, hK⟩ := hs
    refine ⟨Km + K, ?_⟩
    unfold windrowlaw04_MaskAdds.f
    exact bnd (hm _ (by omega)) (itp rfl (hK _ (by omega)))
  by_cases h : (l.length : Int) > 8
  · refine ⟨Km + 1, fun k hk => ?_⟩
    obtain ⟨q, rfl⟩ : ∃ q, k = q + 1 := ⟨k - 1, by omega⟩
    show windrowlaw04_MaskAdds.j0 (q + 1) l a _ = _
    rw [decide_eq_true h, windrowlaw04_MaskAdds.j0]
    exact itp rfl (bnd (hm q (by omega)) rfl)
  · obtain ⟨x, x1, x2, x3, x4⟩ := with_yes hw (by omega) (a := n) (by omega)
    obtain ⟨y, y1, y2, y3, K1, y4⟩ := without_yes x1 (by omega) (a := n) (by omega)
    have mxn : mem x n = true := by rw [x3, decide_eq_true rfl, Bool.or_true]
    have myn : mem y n = false := by rw [y3, decide_eq_true rfl]; simp
    have hx := hasn x1 (by omega) (n := n) (by omega)
    have hy := hasn y1 (by omega) (n := n) (by omega)
    have hl := hasn hw (by omega) (n := n) (by omega)
    rw [mxn] at hx
    rw [myn] at hy
    obtain ⟨K2, h2⟩ := within_eo hw x1 (by omega) (by omega)
    obtain ⟨K3, h3⟩ := within_eo y1 hw (by omega) (by omega)
    have s1 : sub l x = true := sub_iff.mpr fun i hi => by rw [x3, hi]; rfl
    have s2 : sub y l = true := sub_iff.mpr fun i hi => by
      rw [y3, x3] at hi
      cases hl : mem l i
      · rw [hl] at hi; simp at hi
      · rfl
    rw [s1] at h2
    rw [s2] at h3
    obtain ⟨K4, h4⟩ := count_eo x1 (by omega)
    obtain ⟨K5, h5⟩ := count_eo hw (by omega)
    obtain ⟨K6, h6⟩ := count_eo y1 (by omega)
    have c1 : size x = size l + if mem l n then 0 else 1 := by
      have e2 := size_to l (n := 64 * x.length) (by omega)
      rw [← e2, ← cnt_add_one (mem l) (64 * x.length) (by omega)]
      exact cnt_congr fun i _ => x3 i
    have c2 : size y + 1 = size x := by
      have e3 : size y = cnt (fun i => mem x i && !decide (i = n)) (64 * x.length) := by
        unfold size; rw [y2]; exact cnt_congr fun i _ => y3 i
      rw [e3]
      exact cnt_less_one (mem x) mxn (64 * x.length) (by omega)
    have b1 := size_le l
    have b2 := size_le x
    have fin : ∀ m : Nat, size x = size l + m → m ≤ 1 → Eo (fun k => windrowlaw04_MaskAdds.j2 k l x y (m : Int)) true := by
      intro m hmm hm1
      refine ⟨K4 + K5 + K6 + 1, fun k hk => ?_⟩
      obtain ⟨q, rfl⟩ : ∃ q, k = q + 1 := ⟨k - 1, by omega⟩
      show windrowlaw04_MaskAdds.j2 (q + 1) l x y (m : Int) = _
      rw [windrowlaw04_MaskAdds.j2]
      refine bnd (h4 q (by omega)) (bnd (h5 q (by omega)) (itp (by rw [w64 (by omega) (by omega)]; omega) (bnd (h6 q (by omega)) (bnd (h4 q (by omega)) ?_))))
      rw [w64 (by omega) (by omega), show ((size x : Nat) : Int) - 1 = ((size y : Nat) : Int) by omega, beq_self_eq_true]
    have j1 : Eo (fun k => windrowlaw04_MaskAdds.j1 k l (n : Int) x y false) true := by
      cases hmn : mem l n with
      | true =>
        rw [hmn] at hl c1
        obtain ⟨K, hK⟩ := fin 0 (by simpa using c1) (by omega)
        refine ⟨K + 1, fun k hk => ?_⟩
        obtain ⟨q, rfl⟩ : ∃ q, k = q + 1 := ⟨k - 1, by omega⟩
        show windrowlaw04_MaskAdds.j1 (q + 1) l (n : Int) x y false = _
        rw [windrowlaw04_MaskAdds.j1]
        exact itn (by simp) (bnd hl (itp rfl (hK q (by omega))))
      | false =>
        rw [hmn] at hl c1
        obtain ⟨K, hK⟩ := fin 1 (by simpa using c1) (by omega)
        refine ⟨K + 1, fun k hk => ?_⟩
        obtain ⟨q, rfl⟩ : ∃ q, k = q + 1 := ⟨k - 1, by omega⟩
        show windrowlaw04_MaskAdds.j1 (q + 1) l (n : Int) x y false = _
        rw [windrowlaw04_MaskAdds.j1]
        exact itn (by simp) (bnd hl (itn (by simp) (hK q (by omega))))
    obtain ⟨K7, h7⟩ := j1
    refine ⟨K1 + K2 + K3 + K7 + 1, fun k hk => ?_⟩
    obtain ⟨q, rfl⟩ : ∃ q, k = q + 1 := ⟨k - 1, by omega⟩
    show windrowlaw04_MaskAdds.j0 (q + 1) l a _ = _
    rw [decide_eq_false h, windrowlaw04_MaskAdds.j0, en]
    exact itn (by simp) (bnd x4 (bnd (y4 q (by omega)) (itp rfl (itp rfl (bnd hx (itp rfl (bnd hy (itn (by simp) (bnd (h2 q (by omega)) (itp rfl (bnd (h3 q (by omega)) (h7 q (by omega)))))))))))))
end Go.Proofs.YticoepbjpeepcaaDoor.Pure
