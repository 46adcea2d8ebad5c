/- The law of wheels, in plain numbers. -/
import Derived.Test.YtahmhhbpdgopjaaDoorWpD
namespace Go.Proofs.YtahmhhbpdgopjaaDoor.Pure
open Go.RowKit Go.Proofs.YtahmhhbpdgopjaaDoor.PAll Go.Proofs.YtahmhhbpdgopjaaDoor.Wp Go.Proofs.YtahmhhbpdgopjaaDoor.Eo Go.Proofs.YtahmhhbpdgopjaaDoor.Wd Go.Proofs.YtahmhhbpdgopjaaDoor.Bt
set_option linter.unusedVariables false

theorem ones_turn {w : Int} (hw : W w) {s : Nat} (hs : s < 64) : ones (turnW w s) = ones w := by
  unfold ones
  have e1 : cnt (tb (turnW w s)) 64 = cnt (tb (turnW w s)) (s + (64 - s)) := by congr 1; omega
  have e2 : cnt (tb w) 64 = cnt (tb w) ((64 - s) + s) := by congr 1; omega
  rw [e1, e2, cnt_add, cnt_add, Nat.add_comm]
  congr 1
  · exact cnt_congr fun i hi => by
      show tb (turnW w s) (s + i) = tb w i
      rw [turnW_tb hw hs (by omega)]; congr 1; omega
  · exact cnt_congr fun i hi => by
      show tb (turnW w s) i = tb w (64 - s + i)
      rw [turnW_tb hw hs (by omega)]; congr 1; omega

theorem WordWheels : windrowlaw01_WordWheels.Pure := by
  intro w a b hw ha hb
  replace hw := wfW hw
  replace ha := wf64 ha
  replace hb := wf64 hb
  obtain ⟨t1, t2, t3⟩ := tmod64 a
  obtain ⟨u1, u2, u3⟩ := tmod64 b
  refine ⟨2, ?_⟩
  unfold windrowlaw01_WordWheels.f
  rw [w64 (x := -(Int.tmod a 64)) (by omega) (by omega), w64 (x := Int.tmod a 64 + Int.tmod b 64) (by omega) (by omega)]
  generalize Int.tmod a 64 = x at *
  generalize Int.tmod b 64 = y at *
  have hx : (x % 64).toNat < 64 := by omega
  have hy : (y % 64).toNat < 64 := by omega
  refine bnd (turn_eq w x) (bnd (worded_eq 0) (itp rfl (bnd (turn_eq _ _) (itp ?_ (bnd (turn_eq _ _) (bnd (turn_eq _ _) (itp ?_ (bnd (ones_eq (turnW_W hw _)) (bnd (ones_eq hw) ?_)))))))))
  · rw [turn_turn hw hx (by omega), show ((x % 64).toNat + (-x % 64).toNat) % 64 = 0 by omega, turn_zero hw]
  · rw [turn_turn hw hx hy]; congr 1; omega
  · rw [ones_turn hw hx]; simp
end Go.Proofs.YtahmhhbpdgopjaaDoor.Pure
