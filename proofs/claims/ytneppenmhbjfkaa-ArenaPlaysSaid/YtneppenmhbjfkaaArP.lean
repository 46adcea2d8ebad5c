/- ArenaPorts, walked. -/
import Derived.Test.YtneppenmhbjfkaaArF
import Derived.Deep.Cut
namespace Go.Proofs.Ytneppenmhbjfkaa.Ar
open Go Go.RowKit Go.Proofs.Ytneppenmhbjfkaa.Hp
set_option linter.unusedVariables false
set_option linter.unusedSimpArgs false

theorem frBel {w w' : World} (h : Fr (fun _ => False) w w') : Below w.heap.size w w' := ⟨h.os, h.tape, h.output, h.size, fun k hk => h.block k hk id⟩

set_option maxHeartbeats 4000000 in
theorem ports (who : Int) (w : World) : Calls Try.prog 6 #[.int .i64 who] w fun e w' => e = .returned (.bool true) ∧ Below w.heap.size w w' := by
  suffices h : Calls Try.prog 6 #[.int .i64 who] w fun e w' => e = .returned (.bool true) ∧ Fr (fun _ => False) w w' from h.mono fun e w' hw => ⟨hw.1, frBel hw.2⟩
  have HF : Fr (fun _ => False) w w := Fr.refl _ w
  by_cases h0 : 0 ≤ who
  · by_cases h1 : who ≤ 15
    · have g0 := decide_eq_true h0
      have g1 := decide_eq_true h1
      go_enter Try.func6, Try.ntmps6
      go_upto_region 12 with (first
        | (go_at_call 10; refine (new_ w.heap.size w 1 false (by decide) (by decide)).mono ?_; rintro e w1 ⟨a, c, rfl, hA, hF, ha, hc⟩; replace HF := HF.trans hF; clear hF)
        | (go_at_call 9; with_reducible refine (celled _).mono ?_; rintro e w2 ⟨rfl, hF⟩; replace hA := hA.fr hF id id (fun _ _ => id); replace HF := HF.trans hF; clear hF)
        | (go_at_call 12; first | (with_reducible refine (port_nil _ 1).mono ?_; rintro e w3 ⟨rfl, rfl⟩) | (with_reducible refine (port _ a who h0 h1).mono ?_; rintro e w3 ⟨p, rfl, hP, hF, hp⟩; replace hA := hA.fr hF id id (fun _ _ => id); replace hp := Nat.le_trans HF.size hp; replace HF := HF.trans hF; clear hF))
        | (go_at_call 13; with_reducible refine (grant_nil _).mono ?_; rintro e w3 ⟨rfl, rfl⟩)
        | (go_at_call 19; with_reducible refine (store_nil _ 0 1).mono ?_; rintro e w4 ⟨rfl, hF⟩; replace hP := hP.fr hF id; replace HF := HF.trans hF; clear hF)
        | (go_at_call 27; with_reducible refine (mPeek_nil _ 0).mono ?_; rintro e w5 ⟨rfl, n, rfl⟩; (have hP2 := hP.fr ((Fr.refl (fun _ => False) _).drewN n) id); replace HF := HF.drewN n)
        | (go_at_call 28; with_reducible refine (who_ _ p a who false hP2).mono ?_; rintro e w6 ⟨rfl, rfl⟩)
        | (go_at_call 23; first | (with_reducible refine (open_nil _).mono ?_; rintro e w6 ⟨rfl, rfl⟩) | (with_reducible refine (open_ _ p a who false hP2).mono ?_; rintro e w6 ⟨rfl, rfl⟩))
        | (go_at_call 11; with_reducible refine (mPoke_nil _ 0 0).mono ?_; rintro e w6 ⟨rfl, rfl⟩)
        | (go_at_call 29; with_reducible refine (mCells_nil _).mono ?_; rintro e w6 ⟨rfl, rfl⟩)
        | (go_at_call 18; with_reducible refine (mCount_nil _).mono ?_; rintro e w6 ⟨rfl, rfl⟩)
        | (go_at_call 16; with_reducible refine (load_nil _ 0).mono ?_; rintro e w7 ⟨rfl, hF⟩; replace HF := HF.trans hF; clear hF)
        | (go_at_call 20; with_reducible refine (cas_nil _ 0 0 0).mono ?_; rintro e w8 ⟨rfl, hF⟩; replace HF := HF.trans hF; clear hF)
        | (go_at_call 15; with_reducible refine (image_nil _).mono ?_; rintro e w9 ⟨rfl, rfl⟩))
      simp only [List.append_eq, List.append, List.cons_append, List.nil_append]
      go_wp2_with (first
        | (go_at_call 10; refine (new_ w.heap.size w 1 false (by decide) (by decide)).mono ?_; rintro e w1 ⟨a, c, rfl, hA, hF, ha, hc⟩; replace HF := HF.trans hF; clear hF)
        | (go_at_call 9; with_reducible refine (celled _).mono ?_; rintro e w2 ⟨rfl, hF⟩; replace hA := hA.fr hF id id (fun _ _ => id); replace HF := HF.trans hF; clear hF)
        | (go_at_call 12; first | (with_reducible refine (port_nil _ 1).mono ?_; rintro e w3 ⟨rfl, rfl⟩) | (with_reducible refine (port _ a who h0 h1).mono ?_; rintro e w3 ⟨p, rfl, hP, hF, hp⟩; replace hA := hA.fr hF id id (fun _ _ => id); replace hp := Nat.le_trans HF.size hp; replace HF := HF.trans hF; clear hF))
        | (go_at_call 13; with_reducible refine (grant_nil _).mono ?_; rintro e w3 ⟨rfl, rfl⟩)
        | (go_at_call 19; with_reducible refine (store_nil _ 0 1).mono ?_; rintro e w4 ⟨rfl, hF⟩; replace hP := hP.fr hF id; replace HF := HF.trans hF; clear hF)
        | (go_at_call 27; with_reducible refine (mPeek_nil _ 0).mono ?_; rintro e w5 ⟨rfl, n, rfl⟩; (have hP2 := hP.fr ((Fr.refl (fun _ => False) _).drewN n) id); replace HF := HF.drewN n)
        | (go_at_call 28; with_reducible refine (who_ _ p a who false hP2).mono ?_; rintro e w6 ⟨rfl, rfl⟩)
        | (go_at_call 23; first | (with_reducible refine (open_nil _).mono ?_; rintro e w6 ⟨rfl, rfl⟩) | (with_reducible refine (open_ _ p a who false hP2).mono ?_; rintro e w6 ⟨rfl, rfl⟩))
        | (go_at_call 11; with_reducible refine (mPoke_nil _ 0 0).mono ?_; rintro e w6 ⟨rfl, rfl⟩)
        | (go_at_call 29; with_reducible refine (mCells_nil _).mono ?_; rintro e w6 ⟨rfl, rfl⟩)
        | (go_at_call 18; with_reducible refine (mCount_nil _).mono ?_; rintro e w6 ⟨rfl, rfl⟩)
        | (go_at_call 16; with_reducible refine (load_nil _ 0).mono ?_; rintro e w7 ⟨rfl, hF⟩; replace HF := HF.trans hF; clear hF)
        | (go_at_call 20; with_reducible refine (cas_nil _ 0 0 0).mono ?_; rintro e w8 ⟨rfl, hF⟩; replace HF := HF.trans hF; clear hF)
        | (go_at_call 15; with_reducible refine (image_nil _).mono ?_; rintro e w9 ⟨rfl, rfl⟩))
      go_ret
      exact ⟨rfl, HF⟩
    · have g0 := decide_eq_true h0
      have g1 := decide_eq_false h1
      go_enter Try.func6, Try.ntmps6
      go_upto_region 12 with (first
        | (go_at_call 10; refine (new_ w.heap.size w 1 false (by decide) (by decide)).mono ?_; rintro e w1 ⟨a, c, rfl, hA, hF, ha, hc⟩; replace HF := HF.trans hF; clear hF)
        | (go_at_call 9; with_reducible refine (celled _).mono ?_; rintro e w2 ⟨rfl, hF⟩; replace hA := hA.fr hF id id (fun _ _ => id); replace HF := HF.trans hF; clear hF)
        | (go_at_call 12; first | (with_reducible refine (port_nil _ 1).mono ?_; rintro e w3 ⟨rfl, rfl⟩) | (with_reducible refine (port_no _ a who (.inr (by omega))).mono ?_; rintro e w3 ⟨rfl, rfl⟩))
        | (go_at_call 13; with_reducible refine (grant_nil _).mono ?_; rintro e w3 ⟨rfl, rfl⟩)
        | (go_at_call 19; with_reducible refine (store_nil _ 0 1).mono ?_; rintro e w4 ⟨rfl, hF⟩; replace HF := HF.trans hF; clear hF)
        | (go_at_call 27; with_reducible refine (mPeek_nil _ 0).mono ?_; rintro e w5 ⟨rfl, n, rfl⟩; replace HF := HF.drewN n)
        | (go_at_call 23; with_reducible refine (open_nil _).mono ?_; rintro e w6 ⟨rfl, rfl⟩)
        | (go_at_call 11; with_reducible refine (mPoke_nil _ 0 0).mono ?_; rintro e w6 ⟨rfl, rfl⟩)
        | (go_at_call 29; with_reducible refine (mCells_nil _).mono ?_; rintro e w6 ⟨rfl, rfl⟩)
        | (go_at_call 18; with_reducible refine (mCount_nil _).mono ?_; rintro e w6 ⟨rfl, rfl⟩)
        | (go_at_call 16; with_reducible refine (load_nil _ 0).mono ?_; rintro e w7 ⟨rfl, hF⟩; replace HF := HF.trans hF; clear hF)
        | (go_at_call 20; with_reducible refine (cas_nil _ 0 0 0).mono ?_; rintro e w8 ⟨rfl, hF⟩; replace HF := HF.trans hF; clear hF)
        | (go_at_call 15; with_reducible refine (image_nil _).mono ?_; rintro e w9 ⟨rfl, rfl⟩))
      simp only [List.append_eq, List.append, List.cons_append, List.nil_append]
      go_wp2_with (first
        | (go_at_call 10; refine (new_ w.heap.size w 1 false (by decide) (by decide)).mono ?_; rintro e w1 ⟨a, c, rfl, hA, hF, ha, hc⟩; replace HF := HF.trans hF; clear hF)
        | (go_at_call 9; with_reducible refine (celled _).mono ?_; rintro e w2 ⟨rfl, hF⟩; replace hA := hA.fr hF id id (fun _ _ => id); replace HF := HF.trans hF; clear hF)
        | (go_at_call 12; first | (with_reducible refine (port_nil _ 1).mono ?_; rintro e w3 ⟨rfl, rfl⟩) | (with_reducible refine (port_no _ a who (.inr (by omega))).mono ?_; rintro e w3 ⟨rfl, rfl⟩))
        | (go_at_call 13; with_reducible refine (grant_nil _).mono ?_; rintro e w3 ⟨rfl, rfl⟩)
        | (go_at_call 19; with_reducible refine (store_nil _ 0 1).mono ?_; rintro e w4 ⟨rfl, hF⟩; replace HF := HF.trans hF; clear hF)
        | (go_at_call 27; with_reducible refine (mPeek_nil _ 0).mono ?_; rintro e w5 ⟨rfl, n, rfl⟩; replace HF := HF.drewN n)
        | (go_at_call 23; with_reducible refine (open_nil _).mono ?_; rintro e w6 ⟨rfl, rfl⟩)
        | (go_at_call 11; with_reducible refine (mPoke_nil _ 0 0).mono ?_; rintro e w6 ⟨rfl, rfl⟩)
        | (go_at_call 29; with_reducible refine (mCells_nil _).mono ?_; rintro e w6 ⟨rfl, rfl⟩)
        | (go_at_call 18; with_reducible refine (mCount_nil _).mono ?_; rintro e w6 ⟨rfl, rfl⟩)
        | (go_at_call 16; with_reducible refine (load_nil _ 0).mono ?_; rintro e w7 ⟨rfl, hF⟩; replace HF := HF.trans hF; clear hF)
        | (go_at_call 20; with_reducible refine (cas_nil _ 0 0 0).mono ?_; rintro e w8 ⟨rfl, hF⟩; replace HF := HF.trans hF; clear hF)
        | (go_at_call 15; with_reducible refine (image_nil _).mono ?_; rintro e w9 ⟨rfl, rfl⟩))
      go_ret
      exact ⟨rfl, HF⟩
  · have g0 := decide_eq_false h0
    go_enter Try.func6, Try.ntmps6
    go_upto_region 12 with (first
      | (go_at_call 10; refine (new_ w.heap.size w 1 false (by decide) (by decide)).mono ?_; rintro e w1 ⟨a, c, rfl, hA, hF, ha, hc⟩; replace HF := HF.trans hF; clear hF)
      | (go_at_call 9; with_reducible refine (celled _).mono ?_; rintro e w2 ⟨rfl, hF⟩; replace hA := hA.fr hF id id (fun _ _ => id); replace HF := HF.trans hF; clear hF)
      | (go_at_call 12; first | (with_reducible refine (port_nil _ 1).mono ?_; rintro e w3 ⟨rfl, rfl⟩) | (with_reducible refine (port_no _ a who (.inl (by omega))).mono ?_; rintro e w3 ⟨rfl, rfl⟩))
      | (go_at_call 13; with_reducible refine (grant_nil _).mono ?_; rintro e w3 ⟨rfl, rfl⟩)
      | (go_at_call 19; with_reducible refine (store_nil _ 0 1).mono ?_; rintro e w4 ⟨rfl, hF⟩; replace HF := HF.trans hF; clear hF)
      | (go_at_call 27; with_reducible refine (mPeek_nil _ 0).mono ?_; rintro e w5 ⟨rfl, n, rfl⟩; replace HF := HF.drewN n)
      | (go_at_call 23; with_reducible refine (open_nil _).mono ?_; rintro e w6 ⟨rfl, rfl⟩)
      | (go_at_call 11; with_reducible refine (mPoke_nil _ 0 0).mono ?_; rintro e w6 ⟨rfl, rfl⟩)
      | (go_at_call 29; with_reducible refine (mCells_nil _).mono ?_; rintro e w6 ⟨rfl, rfl⟩)
      | (go_at_call 18; with_reducible refine (mCount_nil _).mono ?_; rintro e w6 ⟨rfl, rfl⟩)
      | (go_at_call 16; with_reducible refine (load_nil _ 0).mono ?_; rintro e w7 ⟨rfl, hF⟩; replace HF := HF.trans hF; clear hF)
      | (go_at_call 20; with_reducible refine (cas_nil _ 0 0 0).mono ?_; rintro e w8 ⟨rfl, hF⟩; replace HF := HF.trans hF; clear hF)
      | (go_at_call 15; with_reducible refine (image_nil _).mono ?_; rintro e w9 ⟨rfl, rfl⟩))
    simp only [List.append_eq, List.append, List.cons_append, List.nil_append]
    go_wp2_with (first
      | (go_at_call 10; refine (new_ w.heap.size w 1 false (by decide) (by decide)).mono ?_; rintro e w1 ⟨a, c, rfl, hA, hF, ha, hc⟩; replace HF := HF.trans hF; clear hF)
      | (go_at_call 9; with_reducible refine (celled _).mono ?_; rintro e w2 ⟨rfl, hF⟩; replace hA := hA.fr hF id id (fun _ _ => id); replace HF := HF.trans hF; clear hF)
      | (go_at_call 12; first | (with_reducible refine (port_nil _ 1).mono ?_; rintro e w3 ⟨rfl, rfl⟩) | (with_reducible refine (port_no _ a who (.inl (by omega))).mono ?_; rintro e w3 ⟨rfl, rfl⟩))
      | (go_at_call 13; with_reducible refine (grant_nil _).mono ?_; rintro e w3 ⟨rfl, rfl⟩)
      | (go_at_call 19; with_reducible refine (store_nil _ 0 1).mono ?_; rintro e w4 ⟨rfl, hF⟩; replace HF := HF.trans hF; clear hF)
      | (go_at_call 27; with_reducible refine (mPeek_nil _ 0).mono ?_; rintro e w5 ⟨rfl, n, rfl⟩; replace HF := HF.drewN n)
      | (go_at_call 23; with_reducible refine (open_nil _).mono ?_; rintro e w6 ⟨rfl, rfl⟩)
      | (go_at_call 11; with_reducible refine (mPoke_nil _ 0 0).mono ?_; rintro e w6 ⟨rfl, rfl⟩)
      | (go_at_call 29; with_reducible refine (mCells_nil _).mono ?_; rintro e w6 ⟨rfl, rfl⟩)
      | (go_at_call 18; with_reducible refine (mCount_nil _).mono ?_; rintro e w6 ⟨rfl, rfl⟩)
      | (go_at_call 16; with_reducible refine (load_nil _ 0).mono ?_; rintro e w7 ⟨rfl, hF⟩; replace HF := HF.trans hF; clear hF)
      | (go_at_call 20; with_reducible refine (cas_nil _ 0 0 0).mono ?_; rintro e w8 ⟨rfl, hF⟩; replace HF := HF.trans hF; clear hF)
      | (go_at_call 15; with_reducible refine (image_nil _).mono ?_; rintro e w9 ⟨rfl, rfl⟩))
    go_ret
    exact ⟨rfl, HF⟩
end Go.Proofs.Ytneppenmhbjfkaa.Ar
