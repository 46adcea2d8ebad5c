/- The heap is all cells from its first one on, page by page; an address of it is a reference, and comes back from its place. For whatever five numbers of the kind int. -/
import Derived.Test.YtmbgfmdmihmgdaaPAllx10
import Derived.Test.YtmbgfmdmihmgdaaLayP
import Derived.Test.YtmbgfmdmihmgdaaLayF
namespace Go.Proofs.Ytmbgfmdmihmgdaa.Pure
open Go.RowKit Go.Proofs.Ytmbgfmdmihmgdaa.PAll Go.Proofs.YtmbgfmdmihmgdaaW.PrintWords Go.Proofs.YtmbgfmdmihmgdaaW.PrintLast
set_option linter.unusedVariables false
set_option linter.unusedSimpArgs false
open Go.Proofs.Ytmbgfmdmihmgdaa.Eo Go.Proofs.Ytmbgfmdmihmgdaa.Lay

theorem cut (x : Int) {m : Int} (h0 : 0 < m) (h1 : m ≤ 1000) : ∃ n : Nat, (n : Int) < m ∧ wrap64 (Int.tmod (IntKind.u64.wrap x) m) = n := by
  have hx : 0 ≤ IntKind.u64.wrap x := by rw [u64w]; omega
  rw [tm hx]
  have hb := Int.emod_lt_of_pos (IntKind.u64.wrap x) h0
  have hb0 := Int.emod_nonneg (IntKind.u64.wrap x) (show m ≠ 0 by omega)
  exact ⟨(IntKind.u64.wrap x % m).toNat, by omega, by rw [w64 (by omega) (by omega)]; omega⟩

/-- All that the law asks, at a page and a word of it that are there; x, y: as the law writes them. -/
theorem asks {P T R : Nat} (h : right P T R) {page at' : Nat} (hp : page < P) (ha : at' < 64) (i j : Int) (k : Nat) (ep : Aside0 (wrap64 (Int.tmod (IntKind.u64.wrap i) (P : Int)) = page)) (ea : Aside0 (wrap64 (Int.tmod (IntKind.u64.wrap j) 64) = at')) :
    windrowlaw06_LayoutHeap.j0 (k + 1) i j false P T R = some true := by
  have hc := cl_le h
  have hb := bs_ge P T R
  have h16 : 16 ≤ tb T R := by unfold tb; omega
  have hcl : cl P T R = bs P T R + 64 * P := rfl
  have hP := h.1
  have wP : Aside0 (IntKind.u64.wrap (P : Int) = P) := ⟨u64i (by omega) (by omega)⟩
  have hP0 : ¬ ((P : Int) = 0) := by omega
  have eA : layout_Plan_Addr.f P T R page at' = some ((bs P T R : Int) + page * 64 + at') := by rw [p_addr h, if_pos (by omega)]
  have eP : layout_Plan_Place.f P T R ((bs P T R : Int) + page * 64 + at') = some ((page : Int), (at' : Int)) := by
    rw [p_place h (by omega), if_pos (by omega)]
    congr 1
    rw [Prod.mk.injEq]; omega
  have eB := p_base h
  have eC := p_cells h
  have w1 : Aside0 (wrap64 (64 * (page : Int)) = 64 * page) := ⟨w64 (by omega) (by omega)⟩
  have w2 : Aside0 (wrap64 ((bs P T R : Int) + 64 * page) = bs P T R + 64 * page) := ⟨w64 (by omega) (by omega)⟩
  have w3 : Aside0 (wrap64 ((bs P T R : Int) + 64 * page + at') = bs P T R + 64 * page + at') := ⟨w64 (by omega) (by omega)⟩
  have w4 : Aside0 (wrap64 (64 * (P : Int)) = 64 * P) := ⟨w64 (by omega) (by omega)⟩
  have w5 : Aside0 (wrap64 ((bs P T R : Int) + 64 * P) = bs P T R + 64 * P) := ⟨w64 (by omega) (by omega)⟩
  have w6 : Aside0 (wrap64 ((bs P T R : Int) - 1) = bs P T R - 1) := ⟨w64 (by omega) (by omega)⟩
  have r1 : layout_Plan_Ref.f P T R (IntKind.u64.wrap ((bs P T R : Int) + page * 64 + at')) = some true := by
    rw [u64i (by omega) (by omega), p_ref h (by omega), decide_eq_true (by omega)]
  have r2 : layout_Plan_Ref.f P T R (IntKind.u64.wrap (wrap64 ((bs P T R : Int) - 1))) = some false := by
    rw [w6.out, u64i (by omega) (by omega), p_ref h (by omega), decide_eq_false (by omega)]
  have r3 : layout_Plan_Ref.f P T R (IntKind.u64.wrap (cl P T R : Int)) = some false := by
    rw [u64i (by omega) (by omega), p_ref h (by omega), decide_eq_false (by omega)]
  have r4 : layout_Plan_Ref.f P T R 0 = some false := by
    rw [p_ref h (by omega), decide_eq_false (by omega)]
  have t1 : Int.tmod (bs P T R : Int) 64 = 0 := by rw [tm (by omega)]; omega
  have t2 : (bs P T R : Int) + page * 64 + at' = wrap64 (wrap64 ((bs P T R : Int) + wrap64 (64 * (page : Int))) + at') := by rw [w1.out, w2.out, w3.out]; omega
  have t3 : (cl P T R : Int) = wrap64 ((bs P T R : Int) + wrap64 (64 * (P : Int))) := by rw [w4.out, w5.out]; omega
  simp only [windrowlaw06_LayoutHeap.j0]
  rw [wP.out, ep.out, ea.out]
  exact itn Bool.false_ne_true (itn hP0 (bnd eA (bnd eP (bnd eB (itp t1 (bnd eB (itp t2 (itp rfl (itp rfl (bnd r1 (itp rfl (bnd eC (bnd eB (itp t3 (bnd eB (bnd r2 (itn Bool.false_ne_true (bnd eC (bnd r3 (itn Bool.false_ne_true (bnd r4 rfl)))))))))))))))))))))

theorem j0_true {P T R : Nat} (h : right P T R) (i j : Int) (k : Nat) : windrowlaw06_LayoutHeap.j0 (k + 1) i j false P T R = some true := by
  have hP := h.1
  have hP2 := h.2.1
  obtain ⟨page, hp, ep⟩ := cut i (m := (P : Int)) (by omega) (by omega)
  obtain ⟨at', ha, ea⟩ := cut j (show (0 : Int) < 64 by omega) (by omega)
  exact asks h (by omega) (by omega) i j k ⟨ep⟩ ⟨ea⟩

theorem LayoutHeap : windrowlaw06_LayoutHeap.Pure := by
  intro a b c i j _ _ _ _ _
  obtain ⟨P', hP, eP⟩ := cut a (show (0 : Int) < 32 by omega) (by omega)
  obtain ⟨T', hT, eT⟩ := cut b (show (0 : Int) < 6 by omega) (by omega)
  obtain ⟨R', hR, eR⟩ := cut c (show (0 : Int) < 16 by omega) (by omega)
  have h : right (1 + P') (1 + T') (1 + R') := by unfold right; omega
  have e1 : ∀ n : Nat, n ≤ 100 → wrap64 (1 + (n : Int)) = ((1 + n : Nat) : Int) := fun n hn => by rw [w64 (by omega) (by omega)]; omega
  refine ⟨0 + 1, ?_⟩
  unfold windrowlaw06_LayoutHeap.f layout_New.f
  rw [eP, eT, eR, e1 _ (by omega), e1 _ (by omega), e1 _ (by omega), plan_right_true h, laid_true]
  simp only [Option.bind_some, if_true]
  rw [show ((0 : Int) != 0) = false from rfl]
  exact j0_true h i j 0
end Go.Proofs.Ytmbgfmdmihmgdaa.Pure
