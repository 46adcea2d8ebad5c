/- The law of holes, in plain numbers. -/
import Derived.Test.YtahmhhbpdgopjaaDoorWpC
namespace Go.Proofs.YtahmhhbpdgopjaaDoor.Pure
open Go.RowKit Go.Proofs.YtahmhhbpdgopjaaDoor.PAll Go.Proofs.YtahmhhbpdgopjaaDoor.Wp Go.Proofs.YtahmhhbpdgopjaaDoor.Eo Go.Proofs.YtahmhhbpdgopjaaDoor.Wd Go.Proofs.YtahmhhbpdgopjaaDoor.Bt
set_option linter.unusedVariables false

theorem holes_go {w : Int} (hw : W w) {n : Nat} (hn : 1 ≤ n) (hn64 : n ≤ 64) (hno : ∀ i, ¬ Free w n i) (a1 : Int) : ∀ d a : Nat, a + d = 65 → Eo (fun k => windrowlaw01_WordHoles.l0 k w (n : Int) (-1) (a : Int)) true := by
  intro d
  induction d with
  | zero =>
    intro a ha
    refine ⟨1, fun k hk => ?_⟩
    obtain ⟨m, rfl⟩ : ∃ m, k = m + 1 := ⟨k - 1, by omega⟩
    show windrowlaw01_WordHoles.l0 (m + 1) w n (-1) a = _
    rw [windrowlaw01_WordHoles.l0, w64 (by omega) (by omega)]
    exact itn (by omega) rfl
  | succ d ih =>
    intro a ha
    by_cases hle : a + n ≤ 64
    · refine (ih (a + 1) (by omega)).step fun k hk => ?_
      rw [windrowlaw01_WordHoles.l0, w64 (x := (a : Int) + n) (by omega) (by omega), w64 (x := (a : Int) + 1) (by omega) (by omega)]
      exact itp (by omega) (bnd (get_eq hw (a := a) (n := n) hn hle) (itp rfl (itn (fun z => hno a ⟨hle, (zero_field hw).mp z⟩) hk)))
    · refine ⟨1, fun k hk => ?_⟩
      obtain ⟨m, rfl⟩ : ∃ m, k = m + 1 := ⟨k - 1, by omega⟩
      show windrowlaw01_WordHoles.l0 (m + 1) w n (-1) a = _
      rw [windrowlaw01_WordHoles.l0, w64 (by omega) (by omega)]
      exact itn (by omega) rfl

theorem WordHoles : windrowlaw01_WordHoles.Pure := by
  intro w a hw ha
  replace hw := wfW hw
  have e : wrap64 (1 + (wrap64 (Int.tmod (IntKind.u64.wrap a) 64))) = ((1 + (a % 64).toNat : Nat) : Int) := by
    have h1 : 0 ≤ IntKind.u64.wrap a := (W_wrap a).1
    rw [tm h1, u64w, w64 (x := a % 18446744073709551616 % 64) (by omega) (by omega), w64 (by omega) (by omega)]
    omega
  obtain ⟨r, hr, K1, h1⟩ := gap_eo hw (n := 1 + (a % 64).toNat) (by omega) (by omega)
  obtain ⟨K2, h2⟩ := worded_eo
  rcases hr with ⟨k, hk, rfl, f, _⟩ | ⟨rfl, hno⟩
  · refine ⟨K1 + K2, ?_⟩
    unfold windrowlaw01_WordHoles.f
    rw [e]
    refine bnd (h2 _ (by omega)) (itp rfl (bnd (h1 _ (by omega)) (itp (by omega) (bnd (get_eq hw (a := k) (n := 1 + (a % 64).toNat) (by omega) f.1) (itp rfl ?_)))))
    have := (zero_field hw (a := k) (n := 1 + (a % 64).toNat)).mpr f.2
    show some (w / 2 ^ k % 2 ^ (1 + (a % 64).toNat) == 0) = some true
    rw [this]; rfl
  · obtain ⟨K3, h3⟩ := holes_go hw (n := 1 + (a % 64).toNat) (by omega) (by omega) hno a 65 0 (by omega)
    refine ⟨K1 + K2 + K3, ?_⟩
    unfold windrowlaw01_WordHoles.f
    rw [e]
    exact bnd (h2 _ (by omega)) (itp rfl (bnd (h1 _ (by omega)) (itn (by omega) (h3 _ (by omega)))))
end Go.Proofs.YtahmhhbpdgopjaaDoor.Pure
