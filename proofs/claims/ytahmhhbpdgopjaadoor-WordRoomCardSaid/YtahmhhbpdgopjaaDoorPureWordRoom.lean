/- The law of room, in plain numbers. -/
import Derived.Test.YtahmhhbpdgopjaaDoorWpE
namespace Go.Proofs.YtahmhhbpdgopjaaDoor.Pure
open Go.RowKit Go.Proofs.YtahmhhbpdgopjaaDoor.PAll Go.Proofs.YtahmhhbpdgopjaaDoorW.PrintWords Go.Proofs.YtahmhhbpdgopjaaDoorW.PrintLast Go.Proofs.YtahmhhbpdgopjaaDoorW.PrintMore
open Go.Proofs.YtahmhhbpdgopjaaDoor.Wp Go.Proofs.YtahmhhbpdgopjaaDoor.Eo Go.Proofs.YtahmhhbpdgopjaaDoor.Wd Go.Proofs.YtahmhhbpdgopjaaDoor.Bt
set_option linter.unusedVariables false

theorem room_go (L : List Int) (hn : L.length ≤ 200) : ∀ d j : Nat, j + d = L.length → Eo (fun k => windrowlaw01_WordRoom.l0 k L L (j : Int)) true := by
  intro d
  induction d with
  | zero =>
    intro j hj
    refine ⟨1, fun k hk => ?_⟩
    obtain ⟨q, rfl⟩ : ∃ q, k = q + 1 := ⟨k - 1, by omega⟩
    show windrowlaw01_WordRoom.l0 (q + 1) L L j = _
    rw [windrowlaw01_WordRoom.l0]; exact itn (by omega) rfl
  | succ d ih =>
    intro j hj
    refine (ih (j + 1) (by omega)).step fun k hk => ?_
    rw [windrowlaw01_WordRoom.l0, w64 (x := (j : Int) + 1) (by omega) (by omega)]
    exact itp (by omega) (itp (by omega) (itp (by omega) (itp rfl hk)))

theorem WordRoom : windrowlaw01_WordRoom.Pure := by
  intro vs ws hv1 hv2 hv hw1 hw2 hws
  have hvW : ∀ x ∈ vs, W x := fun x hx => wfW (hv x hx)
  obtain ⟨K4, h4⟩ := worded_eo
  by_cases h1 : vs.length > 200
  · refine ⟨K4 + 1, ?_⟩
    unfold windrowlaw01_WordRoom.f
    refine bnd (h4 _ (by omega)) (itp rfl ?_)
    rw [decide_eq_true (p := (vs.length : Int) > 200) (by omega), windrowlaw01_WordRoom.j0]
    exact itp rfl (bnd (h4 K4 (by omega)) rfl)
  · by_cases hl : vs.length = ws.length
    · obtain ⟨r, e, ⟨K1, p1⟩, hr, h0, hb⟩ := back_eo hvW (by omega) hl vs.length 0 (by omega) 0 0 W_zero (by omega)
      have pk : ∀ k, K1 ≤ k → word_Pack.f k vs ws = some (r, e) := fun k hk => by
        unfold word_Pack.f; exact itp (by omega) (p1 k hk)
      by_cases he : e = 0
      · subst he
        obtain ⟨_, K2, u1⟩ := hb rfl
        obtain ⟨K3, g⟩ := room_go vs (by omega) vs.length 0 (by omega)
        have up : ∀ k, K2 ≤ k → word_Unpack.f k r ws = some (vs, 0) := fun k hk => by
          unfold word_Unpack.f; exact u1 k hk
        refine ⟨K1 + K2 + K3 + K4 + 2, ?_⟩
        unfold windrowlaw01_WordRoom.f
        refine bnd (h4 _ (by omega)) (itp rfl ?_)
        rw [decide_eq_false (p := (vs.length : Int) > 200) (by omega), windrowlaw01_WordRoom.j0]
        refine itn (by simp) (bnd (pk _ (by omega)) (itp rfl (bnd (up _ (by omega)) (itp rfl ?_))))
        show windrowlaw01_WordRoom.j1 (K1 + K2 + K3 + K4 + 1) vs vs ((vs.length : Int) != (vs.length : Int)) = _
        rw [show ((vs.length : Int) != (vs.length : Int)) = false by simp, windrowlaw01_WordRoom.j1]
        exact itn (by simp) (g _ (by omega))
      · refine ⟨K1 + K4 + 1, ?_⟩
        unfold windrowlaw01_WordRoom.f
        refine bnd (h4 _ (by omega)) (itp rfl ?_)
        rw [decide_eq_false (p := (vs.length : Int) > 200) (by omega), windrowlaw01_WordRoom.j0]
        refine itn (by simp) (bnd (pk _ (by omega)) (itn he ?_))
        show some (r == 0) = some true
        rw [h0 he]; rfl
    · refine ⟨K4 + 1, ?_⟩
      unfold windrowlaw01_WordRoom.f
      refine bnd (h4 _ (by omega)) (itp rfl ?_)
      rw [decide_eq_false (p := (vs.length : Int) > 200) (by omega), windrowlaw01_WordRoom.j0]
      refine itn (by simp) (bnd (a := (0, 1)) (by unfold word_Pack.f; exact itn (by omega) rfl) (itn (show ¬ ((1 : Int) = 0) by omega) rfl))
end Go.Proofs.YtahmhhbpdgopjaaDoor.Pure
