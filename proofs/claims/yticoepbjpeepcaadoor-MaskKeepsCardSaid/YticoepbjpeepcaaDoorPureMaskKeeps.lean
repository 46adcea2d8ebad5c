/- What is handed in stays, its spare room, too; answers are nobody else's memory. For whatever set and number. -/
import Derived.Test.YticoepbjpeepcaaDoorMkD
namespace Go.Proofs.YticoepbjpeepcaaDoor.Pure
open Go Go.RowKit Go.Proofs.YticoepbjpeepcaaDoor.PAll Go.Proofs.YticoepbjpeepcaaDoorW.PrintWords Go.Proofs.YticoepbjpeepcaaDoorW.PrintLast Go.Proofs.YticoepbjpeepcaaDoorW.PrintMore
open Go.Proofs.YticoepbjpeepcaaDoor.Eo Go.Proofs.YticoepbjpeepcaaDoor.Wd Go.Proofs.YticoepbjpeepcaaDoor.Bt Go.Proofs.YticoepbjpeepcaaDoor.Wp Go.Proofs.YticoepbjpeepcaaDoor.Mk
set_option linter.unusedVariables false
set_option linter.unusedSimpArgs false
set_option linter.unusedSectionVars false

theorem keeps_l2 {l x5 : List Int} (hn : l.length ≤ 8) (h5 : x5 = l ++ [71, 72]) : ∀ d j : Nat, ∀ z : List Int, j + d = z.length → z.length ≤ 100000 → Eo (fun k => windrowlaw04_MaskKeeps.l2 k l x5 z (j : Int)) true := by
  intro d
  induction d with
  | zero =>
    intro j z hj hz
    obtain ⟨K, hK⟩ := words_eo l (by omega)
    have hl5 : x5.length = l.length + 2 := by rw [h5]; simp
    refine ⟨K + 1, fun k hk => ?_⟩
    obtain ⟨q, rfl⟩ : ∃ q, k = q + 1 := ⟨k - 1, by omega⟩
    show windrowlaw04_MaskKeeps.l2 (q + 1) l x5 z (j : Int) = _
    have et : x5.take ((l.length : Int)).toNat = l := by rw [Int.toNat_natCast, h5]; simp
    have e1 : rd x5 (l.length : Int) = 71 := by rw [rdn, h5, gD_right (Nat.le_refl _), Nat.sub_self]; rfl
    have e2 : rd x5 ((l.length + 1 : Nat) : Int) = 72 := by rw [rdn, h5, gD_right (by omega), show l.length + 1 - l.length = 1 by omega]; rfl
    rw [windrowlaw04_MaskKeeps.l2, et, e1, w64 (x := (l.length : Int) + 1) (by omega) (by omega), show (l.length : Int) + 1 = ((l.length + 1 : Nat) : Int) by omega, e2]
    exact itn (by omega) (itp (by omega) (itp (by omega) (bnd (hK q (by omega)) (itp rfl (itp (by omega) (itp rfl (itp (by omega) (itp (by omega) rfl))))))))
  | succ d ih =>
    intro j z hj hz
    refine (ih (j + 1) (z.set j 3) (by rw [List.length_set]; omega) (by rw [List.length_set]; omega)).round fun k => ?_
    rw [windrowlaw04_MaskKeeps.l2, w64 (x := (j : Int) + 1) (by omega) (by omega), Int.toNat_natCast]
    exact itp (by omega) (itp (by omega) rfl)

theorem keeps_l1 {l x5 z : List Int} (hn : l.length ≤ 8) (h5 : x5 = l ++ [71, 72]) (hz : z.length ≤ 100000) : ∀ d j : Nat, ∀ y : List Int, j + d = y.length → y.length ≤ 100000 → Eo (fun k => windrowlaw04_MaskKeeps.l1 k l x5 y z (j : Int)) true := by
  intro d
  induction d with
  | zero =>
    intro j y hj hy
    refine (keeps_l2 hn h5 z.length 0 z (by omega) hz).round fun k => ?_
    rw [windrowlaw04_MaskKeeps.l1]
    exact itn (by omega) rfl
  | succ d ih =>
    intro j y hj hy
    refine (ih (j + 1) (y.set j 2) (by rw [List.length_set]; omega) (by rw [List.length_set]; omega)).round fun k => ?_
    rw [windrowlaw04_MaskKeeps.l1, w64 (x := (j : Int) + 1) (by omega) (by omega), Int.toNat_natCast]
    exact itp (by omega) (itp (by omega) rfl)

theorem keeps_l0 {l x5 y z : List Int} (hn : l.length ≤ 8) (h5 : x5 = l ++ [71, 72]) (hy : y.length ≤ 100000) (hz : z.length ≤ 100000) : ∀ d j : Nat, ∀ x : List Int, j + d = x.length → x.length ≤ 100000 → Eo (fun k => windrowlaw04_MaskKeeps.l0 k l x5 x y z (j : Int)) true := by
  intro d
  induction d with
  | zero =>
    intro j x hj hx
    refine (keeps_l1 hn h5 hz y.length 0 y (by omega) hy).round fun k => ?_
    rw [windrowlaw04_MaskKeeps.l0]
    exact itn (by omega) rfl
  | succ d ih =>
    intro j x hj hx
    refine (ih (j + 1) (x.set j 1) (by rw [List.length_set]; omega) (by rw [List.length_set]; omega)).round fun k => ?_
    rw [windrowlaw04_MaskKeeps.l0, w64 (x := (j : Int) + 1) (by omega) (by omega), Int.toNat_natCast]
    exact itp (by omega) (itp (by omega) rfl)

theorem MaskKeeps : windrowlaw04_MaskKeeps.Pure := by
  intro l a _ _ hw ha
  replace hw := wfAll hw
  obtain ⟨Km, hm⟩ := masked_eo
  obtain ⟨n, en, hn⟩ : ∃ n : Nat, wrap64 (Int.tmod (IntKind.u64.wrap a) 500) = n ∧ n < 500 := by
    have h0 : 0 ≤ IntKind.u64.wrap a := (W_wrap a).1
    rw [tm h0, w64 (x := IntKind.u64.wrap a % 500) (by omega) (by omega)]
    exact ⟨(IntKind.u64.wrap a % 500).toNat, by omega, by omega⟩
  suffices hs : Eo (fun k => windrowlaw04_MaskKeeps.j0 k l a (decide ((l.length : Int) > 8))) true by
    obtain ⟨K, hK⟩ := hs
    refine ⟨Km + K, ?_⟩
    unfold windrowlaw04_MaskKeeps.f
    exact bnd (hm _ (by omega)) (itp rfl (hK _ (by omega)))
  by_cases h : (l.length : Int) > 8
  · refine ⟨Km + 1, fun k hk => ?_⟩
    obtain ⟨q, rfl⟩ : ∃ q, k = q + 1 := ⟨k - 1, by omega⟩
    show windrowlaw04_MaskKeeps.j0 (q + 1) l a _ = _
    rw [decide_eq_true h, windrowlaw04_MaskKeeps.j0]
    exact itp rfl (bnd (hm q (by omega)) rfl)
  · obtain ⟨x, x1, x2, x3, x4⟩ := with_yes hw (by omega) (a := n) (by omega)
    obtain ⟨y, y1, y2, y3, K1, y4⟩ := without_yes hw (by omega) (a := n) (by omega)
    obtain ⟨u, hu, K2, h2⟩ := union_eo hw hw (by omega) (by omega)
    have lu := hu.2.1
    obtain ⟨K3, h3⟩ := keeps_l0 (l := l) (x5 := l ++ [71, 72]) (y := y) (z := u) (by omega) rfl (by omega) (by omega) x.length 0 x (by omega) (by omega)
    have et : (l ++ [71, 72]).take ((l.length : Int)).toNat = l := by rw [Int.toNat_natCast]; simp
    refine ⟨K1 + K2 + K3 + 1, fun k hk => ?_⟩
    obtain ⟨q, rfl⟩ : ∃ q, k = q + 1 := ⟨k - 1, by omega⟩
    show windrowlaw04_MaskKeeps.j0 (q + 1) l a _ = _
    rw [decide_eq_false h, windrowlaw04_MaskKeeps.j0, en]
    refine itn (by simp) (bnd rfl (itp (by simp; omega) (bnd rfl (bnd rfl (itp (by simp; omega) (bnd rfl (itp (by omega) (itp (by simp; omega) (bnd rfl ?_)))))))))
    show (mask_With.f (([] ++ l ++ [71, 72]).take ((l.length : Int)).toNat) (n : Int)).bind _ = _
    rw [List.nil_append, et]
    exact bnd x4 (bnd (y4 q (by omega)) (bnd (h2 q (by omega)) (h3 q (by omega))))
end Go.Proofs.YticoepbjpeepcaaDoor.Pure
