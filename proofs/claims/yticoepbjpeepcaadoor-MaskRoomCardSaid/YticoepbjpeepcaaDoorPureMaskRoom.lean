/- Where room for so many is told none of them is a place, and all lie below the end; one place ahead there isn't room. For whatever set and number. -/
import Derived.Test.YticoepbjpeepcaaDoorMkB
namespace Go.Proofs.YticoepbjpeepcaaDoor.Pure
open Go Go.RowKit Go.Proofs.YticoepbjpeepcaaDoor.PAll Go.Proofs.YticoepbjpeepcaaDoorW.PrintWords Go.Proofs.YticoepbjpeepcaaDoorW.PrintLast Go.Proofs.YticoepbjpeepcaaDoorW.PrintMore
open Go.Proofs.YticoepbjpeepcaaDoor.Eo Go.Proofs.YticoepbjpeepcaaDoor.Wd Go.Proofs.YticoepbjpeepcaaDoor.Bt Go.Proofs.YticoepbjpeepcaaDoor.Wp Go.Proofs.YticoepbjpeepcaaDoor.Mk
set_option linter.unusedVariables false
set_option linter.unusedSimpArgs false
set_option linter.unusedSectionVars false

theorem room_none {l : List Int} (hl : AllW l) (hn : l.length ≤ 1000) {n : Nat} (hn1 : 1 ≤ n) (hn2 : n ≤ 200) (hno : ∀ b, ¬ Free (mem l) (64 * l.length) n b) : ∀ d i : Nat, i + d = 64 * l.length → ∀ f : Nat, f < n → f ≤ i → (∀ j, i - f ≤ j → j < i → mem l j = false) →
    Eo (fun k => windrowlaw04_MaskRoom.l0 k l (n : Int) (-1) (f : Int) (i : Int)) true := by
  intro d
  induction d with
  | zero =>
    intro i hi f _ _ _
    refine (Eo.of (g := fun _ => some true) fun _ => rfl).round fun k => ?_
    rw [windrowlaw04_MaskRoom.l0, w64 (x := 64 * (l.length : Int)) (by omega) (by omega)]; exact itn (by omega) rfl
  | succ d ih =>
    intro i hi f hf hfi hz
    have hh := hasn hl (by omega) (n := i) (by omega)
    cases hm : mem l i with
    | true =>
      rw [hm] at hh
      refine (ih (i + 1) (by omega) 0 (by omega) (by omega) (fun j h1 h2 => by omega)).round fun k => ?_
      rw [windrowlaw04_MaskRoom.l0, w64 (x := 64 * (l.length : Int)) (by omega) (by omega), w64 (x := (i : Int) + 1) (by omega) (by omega)]
      exact itp (by omega) (bnd hh (itp rfl (itn (by omega) rfl)))
    | false =>
      rw [hm] at hh
      have hz' : ∀ j, i - f ≤ j → j < i + 1 → mem l j = false := fun j h1 h2 => by
        by_cases hj : j = i
        · subst hj; exact hm
        · exact hz j h1 (by omega)
      have hne : f + 1 ≠ n := fun e => hno (i + 1 - n) ⟨by omega, fun j hj => hz' _ (by omega) (by omega)⟩
      refine (ih (i + 1) (by omega) (f + 1) (by omega) (by omega) (fun j h1 h2 => hz' j (by omega) h2)).round fun k => ?_
      rw [windrowlaw04_MaskRoom.l0, w64 (x := 64 * (l.length : Int)) (by omega) (by omega), w64 (x := (i : Int) + 1) (by omega) (by omega), w64 (x := (f : Int) + 1) (by omega) (by omega)]
      exact itp (by omega) (bnd hh (itn (by simp) (itn (by omega) rfl)))

theorem room_there {l : List Int} (hl : AllW l) (hn : l.length ≤ 1000) {n a : Nat} (hn1 : 1 ≤ n) (hn2 : n ≤ 200) (hF : Free (mem l) (64 * l.length) n a) (hmin : ∀ b, b < a → ¬ Free (mem l) (64 * l.length) n b) : ∀ d j : Nat, j + d = n →
    Eo (fun k => windrowlaw04_MaskRoom.l1 k l (n : Int) (a : Int) ((a + j : Nat) : Int)) true := by
  have hF1 := hF.1
  intro d
  induction d with
  | zero =>
    intro j hj
    refine (Eo.of (g := fun _ => some true) fun _ => rfl).round fun k => ?_
    rw [windrowlaw04_MaskRoom.l1, w64 (x := (a : Int) + n) (by omega) (by omega)]
    refine itn (by omega) ?_
    by_cases h0 : a = 0
    · exact itp (by omega) rfl
    · refine itn (by omega) ?_
      rw [w64 (x := (a : Int) - 1) (by omega) (by omega), show (a : Int) - 1 = ((a - 1 : Nat) : Int) by omega]
      refine bnd (hasn hl (by omega) (by omega)) ?_
      cases hm : mem l (a - 1) with
      | true => rfl
      | false =>
        exact absurd ⟨by omega, fun i hi => by
          by_cases hi0 : i = 0
          · subst hi0; exact hm
          · have := hF.2 (i - 1) (by omega)
            rwa [show a + (i - 1) = a - 1 + i by omega] at this⟩ (hmin (a - 1) (by omega))
  | succ d ih =>
    intro j hj
    refine (ih (j + 1) (by omega)).round fun k => ?_
    rw [windrowlaw04_MaskRoom.l1, w64 (x := (a : Int) + n) (by omega) (by omega), w64 (x := 64 * (l.length : Int)) (by omega) (by omega), w64 (x := ((a + j : Nat) : Int) + 1) (by omega) (by omega)]
    refine itp (by omega) (itn (by omega) (bnd (hasn hl (by omega) (by omega)) ?_))
    rw [hF.2 j (by omega)]
    exact itn (by simp) (by congr 1)

theorem MaskRoom : windrowlaw04_MaskRoom.Pure := by
  intro l a _ _ hw ha
  replace hw := wfAll hw
  obtain ⟨Km, hm⟩ := masked_eo
  obtain ⟨n, en, hn1, hn2⟩ : ∃ n : Nat, wrap64 (1 + wrap64 (Int.tmod (IntKind.u64.wrap a) 200)) = n ∧ 1 ≤ n ∧ n ≤ 200 := by
    have h0 : 0 ≤ IntKind.u64.wrap a := (W_wrap a).1
    rw [tm h0, w64 (x := IntKind.u64.wrap a % 200) (by omega) (by omega), w64 (by omega) (by omega)]
    exact ⟨(1 + IntKind.u64.wrap a % 200).toNat, by omega, by omega, by omega⟩
  suffices hs : Eo (fun k => windrowlaw04_MaskRoom.j0 k l a (decide ((l.length : Int) > 8))) true by
    obtain ⟨K, hK⟩ := hs
    refine ⟨Km + K, ?_⟩
    unfold windrowlaw04_MaskRoom.f
    exact bnd (hm _ (by omega)) (itp rfl (hK _ (by omega)))
  by_cases h : (l.length : Int) > 8
  · refine ⟨Km + 1, fun k hk => ?_⟩
    obtain ⟨q, rfl⟩ : ∃ q, k = q + 1 := ⟨k - 1, by omega⟩
    show windrowlaw04_MaskRoom.j0 (q + 1) l a _ = _
    rw [decide_eq_true h, windrowlaw04_MaskRoom.j0]
    exact itp rfl (bnd (hm q (by omega)) rfl)
  · obtain ⟨r, hr, K1, h1⟩ := fit_eo hw (by omega) (n := (n : Int)) (by omega) (by omega)
    rw [Int.toNat_natCast] at hr
    rcases hr with ⟨p, hF, hmin, rfl⟩ | ⟨hno, rfl⟩
    · obtain ⟨K2, h2⟩ := room_there hw (by omega) hn1 hn2 hF hmin n 0 (by omega)
      refine ⟨K1 + K2 + 1, fun k hk => ?_⟩
      obtain ⟨q, rfl⟩ : ∃ q, k = q + 1 := ⟨k - 1, by omega⟩
      show windrowlaw04_MaskRoom.j0 (q + 1) l a _ = _
      rw [decide_eq_false h, windrowlaw04_MaskRoom.j0, en]
      exact itn (by simp) (bnd (h1 q (by omega)) (itn (by omega) (h2 q (by omega))))
    · obtain ⟨K2, h2⟩ := room_none hw (by omega) hn1 hn2 hno (64 * l.length) 0 (by omega) 0 (by omega) (by omega) (fun j _ _ => by omega)
      refine ⟨K1 + K2 + 1, fun k hk => ?_⟩
      obtain ⟨q, rfl⟩ : ∃ q, k = q + 1 := ⟨k - 1, by omega⟩
      show windrowlaw04_MaskRoom.j0 (q + 1) l a _ = _
      rw [decide_eq_false h, windrowlaw04_MaskRoom.j0, en]
      exact itn (by simp) (bnd (h1 q (by omega)) (itp (by omega) (h2 q (by omega))))
end Go.Proofs.YticoepbjpeepcaaDoor.Pure
