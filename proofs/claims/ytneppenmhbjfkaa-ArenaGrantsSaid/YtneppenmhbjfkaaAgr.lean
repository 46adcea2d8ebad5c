/- ArenaGrants, walked. -/
import Derived.Test.YtneppenmhbjfkaaImg
namespace Go.Proofs.Ytneppenmhbjfkaa.Ar
open Go Go.RowKit Go.Proofs.Ytneppenmhbjfkaa.Hp
open Go.Proofs.YtneppenmhbjfkaaW.PrintWords (Kd Drawn0 rd LeO)
open Go.Proofs.Ytneppenmhbjfkaa.PH
set_option linter.unusedVariables false
set_option linter.unusedSimpArgs false

/-- An access in an arena that keeps no log. -/
theorem acc_made (cs : List Int) (cn fn : Int) (h0 : 0 ≤ cn) (h1 : cn ≤ 1000) (who kind at_ want put : Int) (h : AS.has ⟨cs, [], false, cn, fn⟩ at_ = true) :
    ∃ cs', cs'.length = cs.length ∧ (AS.acc ⟨cs, [], false, cn, fn⟩ true who kind at_ want put).1 = ⟨cs', [], false, cn + 1, fn⟩ := by
  refine ⟨cs.set at_.toNat (leftOf kind (cs.getD at_.toNat 0) want put), by simp, ?_⟩
  unfold AS.acc
  rw [if_pos ⟨rfl, h⟩]
  have e : wrap64 (cn + 1) = cn + 1 := by unfold wrap64; omega
  simp [AS.done, e]
theorem acc_fault (cs : List Int) (cn fn : Int) (h0 : 0 ≤ fn) (h1 : fn ≤ 1000) (b : Bool) (who kind at_ want put : Int) (h : ¬ (b = true ∧ AS.has ⟨cs, [], false, cn, fn⟩ at_ = true)) :
    (AS.acc ⟨cs, [], false, cn, fn⟩ b who kind at_ want put).1 = ⟨cs, [], false, cn, fn + 1⟩ := by
  unfold AS.acc
  rw [if_neg h]
  have e : wrap64 (fn + 1) = fn + 1 := by unfold wrap64; omega
  simp [AS.fault, e]
theorem cells_of (n : Int) : ∃ N : Nat, wrap64 (1 + wrap64 ((IntKind.u64.wrap n).tmod 40)) = N ∧ 1 ≤ N ∧ N ≤ 40 := by
  have e : (0 : Int) ≤ IntKind.u64.wrap n := by
    simp only [IntKind.wrap, IntKind.bits, IntKind.signed]
    exact Int.emod_nonneg _ (by decide)
  rw [Int.tmod_eq_emod_of_nonneg e]
  exact ⟨(1 + IntKind.u64.wrap n % 40).toNat, by unfold wrap64; omega, by omega, by omega⟩

set_option maxHeartbeats 8000000 in
set_option maxRecDepth 100000 in
theorem grants (n : Int) (A : Option Addr) (c0 : Nat) (rows : List S25) (w : World) (hr : Kd.C k25 w A rows.length rows) (hc0 : rows.length ≤ c0) :
    Calls Try.prog 4 #[.int .i64 n, .slice A rows.length c0] w fun e w' => e = .returned (.bool true) ∧ Below w.heap.size w w' := by
  have hB : Below w.heap.size w w := Below.refl _ _
  have HR := Lib.hid hr
  have hmax : rows.length ≤ 9223372036854775807 := hr.2.1
  clear hr
  obtain ⟨N, hN, hN1, hN2⟩ := cells_of n
  have HN := Lib.hid hN
  clear hN
  go_enter Try.func4, Try.ntmps4
  go_wp2_with (first
    | (go_at_call 9; (refine (celledB _).mono ?_; rintro e w2 ⟨rfl, hb⟩; replace hB := hB.trans (hb.mono hB.size); clear hb))
    | (go_at_call 10; (rw [HN.out]; with_reducible refine (sys_new w.heap.size _ N false (by omega) (by omega) hB.size).mono ?_; rintro e w3 ⟨a, c, rfl, hS, hb, ha, hc⟩; replace hB := hB.trans (hb.mono hB.size); (have HS := Lib.hid hS); clear hS hb ha hc))
    | (go_at_call 12; (with_reducible refine (HS.out.port 4 (by decide) (by decide)).mono ?_; rintro e w4 ⟨p, rfl, hS2, hb, hp⟩; replace hB := hB.trans (hb.mono hB.size); (have HS2 := Lib.hid hS2); clear HS hS2 hb hp)))
  have HB := Lib.hid hB
  clear hB
  go_loopw [8, 9] (fun g i wr => ∃ (k G : Nat) (cs : List Int) (cn fn : Int) (b : Bool), k ≤ rows.length ∧ k ≤ 200 ∧ g = .int .i64 G ∧ i = .int .i64 k ∧ Hid (Sys w.heap.size wr a c ⟨cs, [], false, cn, fn⟩ [(p, 4, b)]) ∧ Hid (Below w.heap.size w wr) ∧ cs.length = N ∧ 0 ≤ cn ∧ 0 ≤ fn ∧ fn ≤ k ∧ Hid (cn + b.toNat ≤ G) ∧ cn ≤ G ∧ G ≤ k) (fun _ i _ => 200 - (intOf i).toNat)
  case atStart => exact ⟨0, 0, _, _, _, _, Nat.zero_le _, Nat.zero_le _, rfl, rfl, HS2, HB, by simp, by decide, by decide, by decide, Lib.hid (by decide), by decide, by decide⟩
  case round =>
    obtain ⟨k, G, cs, cn, fn, b, hk, hk2, rfl, rfl, HS, HBr, hcl, hcn, hfn, hfk, HCG, hcg, hgk⟩ := hrel
    clear HS2 HB
    by_cases hkr : k < rows.length
    case neg =>
      go_wp2
      go_ret
      exact ⟨rfl, HBr.out⟩
    by_cases hk3 : k < 200
    case neg =>
      go_wp2
      go_ret
      exact ⟨rfl, HBr.out⟩
    have HCr := Kd.C_below HR.out HBr.out
    obtain ⟨ad, hA, r0, r1, r2, r3, r4⟩ := at_T25 HCr (k : Int) (by omega) (by omega)
    clear HCr
    subst hA
    rw [Int.toNat_natCast] at r0 r1 r2 r3 r4
    obtain ⟨x, hx⟩ : ∃ x, x = rd_T25 rows (k : Int) := ⟨_, rfl⟩
    rw [← hx] at r0 r1 r2 r3 r4
    clear hx
    obtain ⟨f0, f1, f2, f3, f4⟩ := x
    simp only at r0 r1 r2 r3 r4
    have HSA := Lib.hid (HS.out.alloc (.cells #[.int .i64 f0, .int .i64 f1, .int .i64 f2, .int .u64 f3, .int .u64 f4] 25))
    have HOA := Lib.hid (Hp.blk_new wr (.cells #[.int .i64 f0, .int .i64 f1, .int .i64 f2, .int .u64 f3, .int .u64 f4] 25))
    have HBA := Lib.hid (HBr.out.alloc HBr.out.size (.cells #[.int .i64 f0, .int .i64 f1, .int .i64 f2, .int .u64 f3, .int .u64 f4] 25))
    have hcw := HS.out.lt.2
    have T1 : Hid True := Lib.hid trivial
    clear HS HBr
    by_cases h7 : f1 = 7
    · subst h7
      go_wp2_with (first
          | (go_at_call 15; (first | (clear T1; with_reducible refine HSA.out.image.mono ?_; rintro e w3 ⟨v3, rfl, hown3, hF3⟩; (obtain ⟨g3, cap3, rfl, hg3, hcap3, ⟨cells3, hgb3⟩, hc3⟩ := imageC (xs := cs) hown3 (by omega)); (have hb3 := frBel hF3); (have HO := Lib.hid ((hb3.block _ (blk_lt HOA.out)).trans HOA.out)); (have HG3 := Lib.hid hgb3); (have HC3 := Lib.hid hc3); (have hne3 : g3 ≠ c := by have := World.size_alloc wr (.cells #[.int .i64 f0, .int .i64 7, .int .i64 f2, .int .u64 f3, .int .u64 f4] 25); omega); (have HB := Lib.hid (HBA.out.trans (hb3.mono HBA.out.size))); (have HS := Lib.hid (HSA.out.still hF3)); clear hown3 hgb3 hF3 hb3 HOA HSA HBA hc3 hg3; (obtain ⟨b0, b1, b2, b3, b4⟩ : w3.cell? ⟨wr.heap.size, 0, none⟩ = some (.int .i64 f0) ∧ w3.cell? ⟨wr.heap.size, 1, none⟩ = some (.int .i64 7) ∧ w3.cell? ⟨wr.heap.size, 2, none⟩ = some (.int .i64 f2) ∧ w3.cell? ⟨wr.heap.size, 3, none⟩ = some (.int .u64 f3) ∧ w3.cell? ⟨wr.heap.size, 4, none⟩ = some (.int .u64 f4) := ⟨(Hp.blk_cell HO.out 0 rfl).1, (Hp.blk_cell HO.out 1 rfl).1, (Hp.blk_cell HO.out 2 rfl).1, (Hp.blk_cell HO.out 3 rfl).1, (Hp.blk_cell HO.out 4 rfl).1⟩))))
          | (go_at_call 18; (with_reducible refine HS.out.count.mono ?_; rintro e w4 ⟨rfl, rfl⟩))
          | (go_at_call 17; (with_reducible refine HS.out.faults.mono ?_; rintro e w4 ⟨rfl, rfl⟩))
          | (go_at_call 13; ((have hm := HS.out.grant 0 rfl); (with_reducible refine hm.mono ?_); clear hm; rintro e w5 ⟨rfl, hD⟩; replace HB := Lib.hid (HB.out.trans hD.bel); replace HS := Lib.hid hD.sys; clear hD)))
      go_roundw
      case rel => exact ⟨k + 1, G + 1, _, _, _, _, by omega, by omega, by go_num, by go_num, HS, HB, by omega, by omega, by omega, by omega, Lib.hid (by have := hcg; simp; omega), by omega, by omega⟩
      case measure => simp [intOf]; omega
    have q7 : (f1 == 7) = false := by simpa using h7
    by_cases hl : 1 ≤ f1
    case neg =>
      have ql : decide (1 ≤ f1) = false := decide_eq_false hl
      clear h7 hl
      go_wp2_with (first
          | (go_at_call 15; (first | (clear T1; with_reducible refine HSA.out.image.mono ?_; rintro e w3 ⟨v3, rfl, hown3, hF3⟩; (obtain ⟨g3, cap3, rfl, hg3, hcap3, ⟨cells3, hgb3⟩, hc3⟩ := imageC (xs := cs) hown3 (by omega)); (have hb3 := frBel hF3); (have HO := Lib.hid ((hb3.block _ (blk_lt HOA.out)).trans HOA.out)); (have HG3 := Lib.hid hgb3); (have HC3 := Lib.hid hc3); (have hne3 : g3 ≠ c := by have := World.size_alloc wr (.cells #[.int .i64 f0, .int .i64 f1, .int .i64 f2, .int .u64 f3, .int .u64 f4] 25); omega); (have HB := Lib.hid (HBA.out.trans (hb3.mono HBA.out.size))); (have HS := Lib.hid (HSA.out.still hF3)); clear hown3 hgb3 hF3 hb3 HOA HSA HBA hc3 hg3; (obtain ⟨b0, b1, b2, b3, b4⟩ : w3.cell? ⟨wr.heap.size, 0, none⟩ = some (.int .i64 f0) ∧ w3.cell? ⟨wr.heap.size, 1, none⟩ = some (.int .i64 f1) ∧ w3.cell? ⟨wr.heap.size, 2, none⟩ = some (.int .i64 f2) ∧ w3.cell? ⟨wr.heap.size, 3, none⟩ = some (.int .u64 f3) ∧ w3.cell? ⟨wr.heap.size, 4, none⟩ = some (.int .u64 f4) := ⟨(Hp.blk_cell HO.out 0 rfl).1, (Hp.blk_cell HO.out 1 rfl).1, (Hp.blk_cell HO.out 2 rfl).1, (Hp.blk_cell HO.out 3 rfl).1, (Hp.blk_cell HO.out 4 rfl).1⟩))))
          | (go_at_call 18; (with_reducible refine HS.out.count.mono ?_; rintro e w4 ⟨rfl, rfl⟩))
          | (go_at_call 17; (with_reducible refine HS.out.faults.mono ?_; rintro e w4 ⟨rfl, rfl⟩)))
      go_roundw
      case rel => exact ⟨k + 1, G, _, _, _, _, by omega, by omega, by go_num, by go_num, HS, HB, by omega, by omega, by omega, by omega, Lib.hid (HCG.out), by omega, by omega⟩
      case measure => simp [intOf]; omega
    by_cases hu : f1 ≤ 6
    case neg =>
      have ql : decide (1 ≤ f1) = true := decide_eq_true hl
      have qu : decide (f1 ≤ 6) = false := decide_eq_false hu
      clear h7 hl hu
      go_wp2_with (first
          | (go_at_call 15; (first | (clear T1; with_reducible refine HSA.out.image.mono ?_; rintro e w3 ⟨v3, rfl, hown3, hF3⟩; (obtain ⟨g3, cap3, rfl, hg3, hcap3, ⟨cells3, hgb3⟩, hc3⟩ := imageC (xs := cs) hown3 (by omega)); (have hb3 := frBel hF3); (have HO := Lib.hid ((hb3.block _ (blk_lt HOA.out)).trans HOA.out)); (have HG3 := Lib.hid hgb3); (have HC3 := Lib.hid hc3); (have hne3 : g3 ≠ c := by have := World.size_alloc wr (.cells #[.int .i64 f0, .int .i64 f1, .int .i64 f2, .int .u64 f3, .int .u64 f4] 25); omega); (have HB := Lib.hid (HBA.out.trans (hb3.mono HBA.out.size))); (have HS := Lib.hid (HSA.out.still hF3)); clear hown3 hgb3 hF3 hb3 HOA HSA HBA hc3 hg3; (obtain ⟨b0, b1, b2, b3, b4⟩ : w3.cell? ⟨wr.heap.size, 0, none⟩ = some (.int .i64 f0) ∧ w3.cell? ⟨wr.heap.size, 1, none⟩ = some (.int .i64 f1) ∧ w3.cell? ⟨wr.heap.size, 2, none⟩ = some (.int .i64 f2) ∧ w3.cell? ⟨wr.heap.size, 3, none⟩ = some (.int .u64 f3) ∧ w3.cell? ⟨wr.heap.size, 4, none⟩ = some (.int .u64 f4) := ⟨(Hp.blk_cell HO.out 0 rfl).1, (Hp.blk_cell HO.out 1 rfl).1, (Hp.blk_cell HO.out 2 rfl).1, (Hp.blk_cell HO.out 3 rfl).1, (Hp.blk_cell HO.out 4 rfl).1⟩))))
          | (go_at_call 18; (with_reducible refine HS.out.count.mono ?_; rintro e w4 ⟨rfl, rfl⟩))
          | (go_at_call 17; (with_reducible refine HS.out.faults.mono ?_; rintro e w4 ⟨rfl, rfl⟩)))
      go_roundw
      case rel => exact ⟨k + 1, G, _, _, _, _, by omega, by omega, by go_num, by go_num, HS, HB, by omega, by omega, by omega, by omega, Lib.hid (HCG.out), by omega, by omega⟩
      case measure => simp [intOf]; omega
    have hcase : f1 = 1 ∨ f1 = 2 ∨ f1 = 3 ∨ f1 = 4 ∨ f1 = 5 ∨ f1 = 6 := by omega
    clear h7 q7 hl hu
    by_cases hmade : b = true ∧ AS.has ⟨cs, [], false, cn, fn⟩ f2 = true
    · obtain ⟨rfl, hhas⟩ := hmade
      have hlt : cn + 1 ≤ G := by have := HCG.out; simpa using this
      rcases hcase with rfl | rfl | rfl | rfl | rfl | rfl
      · obtain ⟨cs', hcl', ea⟩ := acc_made cs cn fn hcn (by omega) 4 1 f2 0 0 hhas
        have EA := Lib.hid ea
        clear ea hhas
        go_wp2_with (first
            | (go_at_call 15; (first | (clear T1; with_reducible refine HSA.out.image.mono ?_; rintro e w3 ⟨v3, rfl, hown3, hF3⟩; (obtain ⟨g3, cap3, rfl, hg3, hcap3, ⟨cells3, hgb3⟩, hc3⟩ := imageC (xs := cs) hown3 (by omega)); (have hb3 := frBel hF3); (have HO := Lib.hid ((hb3.block _ (blk_lt HOA.out)).trans HOA.out)); (have HG3 := Lib.hid hgb3); (have HC3 := Lib.hid hc3); (have hne3 : g3 ≠ c := by have := World.size_alloc wr (.cells #[.int .i64 f0, .int .i64 1, .int .i64 f2, .int .u64 f3, .int .u64 f4] 25); omega); (have HB := Lib.hid (HBA.out.trans (hb3.mono HBA.out.size))); (have HS := Lib.hid (HSA.out.still hF3)); clear hown3 hgb3 hF3 hb3 HOA HSA HBA hc3 hg3; (obtain ⟨b0, b1, b2, b3, b4⟩ : w3.cell? ⟨wr.heap.size, 0, none⟩ = some (.int .i64 f0) ∧ w3.cell? ⟨wr.heap.size, 1, none⟩ = some (.int .i64 1) ∧ w3.cell? ⟨wr.heap.size, 2, none⟩ = some (.int .i64 f2) ∧ w3.cell? ⟨wr.heap.size, 3, none⟩ = some (.int .u64 f3) ∧ w3.cell? ⟨wr.heap.size, 4, none⟩ = some (.int .u64 f4) := ⟨(Hp.blk_cell HO.out 0 rfl).1, (Hp.blk_cell HO.out 1 rfl).1, (Hp.blk_cell HO.out 2 rfl).1, (Hp.blk_cell HO.out 3 rfl).1, (Hp.blk_cell HO.out 4 rfl).1⟩))))
            | (go_at_call 18; (with_reducible refine HS.out.count.mono ?_; rintro e w4 ⟨rfl, rfl⟩))
            | (go_at_call 17; (with_reducible refine HS.out.faults.mono ?_; rintro e w4 ⟨rfl, rfl⟩))
            | (go_at_call 16; ((have hm := HS.out.load 0 f2 rfl (Nat.zero_le _)); rw [EA.out] at hm; (with_reducible refine hm.mono ?_); clear hm; rintro e w5 ⟨rfl, hD⟩; replace HB := Lib.hid (HB.out.trans hD.bel); replace HS := Lib.hid hD.sys; clear hD b0 b1 b2 b3 b4))
            | (go_at_call 23; ((have hm := HS.out.open_ 0 rfl); (with_reducible refine hm.mono ?_); clear hm; rintro e w6 ⟨rfl, rfl⟩)))
        go_roundw
        case rel => exact ⟨k + 1, G, _, _, _, _, by omega, by omega, by go_num, by go_num, HS, HB, by omega, by omega, by omega, by omega, Lib.hid (by simp; omega), by omega, by omega⟩
        case measure => simp [intOf]; omega
      · obtain ⟨cs', hcl', ea⟩ := acc_made cs cn fn hcn (by omega) 4 2 f2 0 f4 hhas
        have EA := Lib.hid ea
        clear ea hhas
        go_wp2_with (first
            | (go_at_call 15; (first | (clear T1; with_reducible refine HSA.out.image.mono ?_; rintro e w3 ⟨v3, rfl, hown3, hF3⟩; (obtain ⟨g3, cap3, rfl, hg3, hcap3, ⟨cells3, hgb3⟩, hc3⟩ := imageC (xs := cs) hown3 (by omega)); (have hb3 := frBel hF3); (have HO := Lib.hid ((hb3.block _ (blk_lt HOA.out)).trans HOA.out)); (have HG3 := Lib.hid hgb3); (have HC3 := Lib.hid hc3); (have hne3 : g3 ≠ c := by have := World.size_alloc wr (.cells #[.int .i64 f0, .int .i64 2, .int .i64 f2, .int .u64 f3, .int .u64 f4] 25); omega); (have HB := Lib.hid (HBA.out.trans (hb3.mono HBA.out.size))); (have HS := Lib.hid (HSA.out.still hF3)); clear hown3 hgb3 hF3 hb3 HOA HSA HBA hc3 hg3; (obtain ⟨b0, b1, b2, b3, b4⟩ : w3.cell? ⟨wr.heap.size, 0, none⟩ = some (.int .i64 f0) ∧ w3.cell? ⟨wr.heap.size, 1, none⟩ = some (.int .i64 2) ∧ w3.cell? ⟨wr.heap.size, 2, none⟩ = some (.int .i64 f2) ∧ w3.cell? ⟨wr.heap.size, 3, none⟩ = some (.int .u64 f3) ∧ w3.cell? ⟨wr.heap.size, 4, none⟩ = some (.int .u64 f4) := ⟨(Hp.blk_cell HO.out 0 rfl).1, (Hp.blk_cell HO.out 1 rfl).1, (Hp.blk_cell HO.out 2 rfl).1, (Hp.blk_cell HO.out 3 rfl).1, (Hp.blk_cell HO.out 4 rfl).1⟩))))
            | (go_at_call 18; (with_reducible refine HS.out.count.mono ?_; rintro e w4 ⟨rfl, rfl⟩))
            | (go_at_call 17; (with_reducible refine HS.out.faults.mono ?_; rintro e w4 ⟨rfl, rfl⟩))
            | (go_at_call 19; ((have hm := HS.out.store 0 f2 f4 rfl (Nat.zero_le _)); rw [EA.out] at hm; (with_reducible refine hm.mono ?_); clear hm; rintro e w5 ⟨rfl, hD⟩; replace HB := Lib.hid (HB.out.trans hD.bel); replace HS := Lib.hid hD.sys; clear hD b0 b1 b2 b3 b4))
            | (go_at_call 23; ((have hm := HS.out.open_ 0 rfl); (with_reducible refine hm.mono ?_); clear hm; rintro e w6 ⟨rfl, rfl⟩)))
        go_roundw
        case rel => exact ⟨k + 1, G, _, _, _, _, by omega, by omega, by go_num, by go_num, HS, HB, by omega, by omega, by omega, by omega, Lib.hid (by simp; omega), by omega, by omega⟩
        case measure => simp [intOf]; omega
      · obtain ⟨cs', hcl', ea⟩ := acc_made cs cn fn hcn (by omega) 4 3 f2 0 f4 hhas
        have EA := Lib.hid ea
        clear ea hhas
        go_wp2_with (first
            | (go_at_call 15; (first | (clear T1; with_reducible refine HSA.out.image.mono ?_; rintro e w3 ⟨v3, rfl, hown3, hF3⟩; (obtain ⟨g3, cap3, rfl, hg3, hcap3, ⟨cells3, hgb3⟩, hc3⟩ := imageC (xs := cs) hown3 (by omega)); (have hb3 := frBel hF3); (have HO := Lib.hid ((hb3.block _ (blk_lt HOA.out)).trans HOA.out)); (have HG3 := Lib.hid hgb3); (have HC3 := Lib.hid hc3); (have hne3 : g3 ≠ c := by have := World.size_alloc wr (.cells #[.int .i64 f0, .int .i64 3, .int .i64 f2, .int .u64 f3, .int .u64 f4] 25); omega); (have HB := Lib.hid (HBA.out.trans (hb3.mono HBA.out.size))); (have HS := Lib.hid (HSA.out.still hF3)); clear hown3 hgb3 hF3 hb3 HOA HSA HBA hc3 hg3; (obtain ⟨b0, b1, b2, b3, b4⟩ : w3.cell? ⟨wr.heap.size, 0, none⟩ = some (.int .i64 f0) ∧ w3.cell? ⟨wr.heap.size, 1, none⟩ = some (.int .i64 3) ∧ w3.cell? ⟨wr.heap.size, 2, none⟩ = some (.int .i64 f2) ∧ w3.cell? ⟨wr.heap.size, 3, none⟩ = some (.int .u64 f3) ∧ w3.cell? ⟨wr.heap.size, 4, none⟩ = some (.int .u64 f4) := ⟨(Hp.blk_cell HO.out 0 rfl).1, (Hp.blk_cell HO.out 1 rfl).1, (Hp.blk_cell HO.out 2 rfl).1, (Hp.blk_cell HO.out 3 rfl).1, (Hp.blk_cell HO.out 4 rfl).1⟩))))
            | (go_at_call 18; (with_reducible refine HS.out.count.mono ?_; rintro e w4 ⟨rfl, rfl⟩))
            | (go_at_call 17; (with_reducible refine HS.out.faults.mono ?_; rintro e w4 ⟨rfl, rfl⟩))
            | (go_at_call 14; ((have hm := HS.out.swap 0 f2 f4 rfl (Nat.zero_le _)); rw [EA.out] at hm; (with_reducible refine hm.mono ?_); clear hm; rintro e w5 ⟨rfl, hD⟩; replace HB := Lib.hid (HB.out.trans hD.bel); replace HS := Lib.hid hD.sys; clear hD b0 b1 b2 b3 b4))
            | (go_at_call 23; ((have hm := HS.out.open_ 0 rfl); (with_reducible refine hm.mono ?_); clear hm; rintro e w6 ⟨rfl, rfl⟩)))
        go_roundw
        case rel => exact ⟨k + 1, G, _, _, _, _, by omega, by omega, by go_num, by go_num, HS, HB, by omega, by omega, by omega, by omega, Lib.hid (by simp; omega), by omega, by omega⟩
        case measure => simp [intOf]; omega
      · obtain ⟨cs', hcl', ea⟩ := acc_made cs cn fn hcn (by omega) 4 4 f2 f3 f4 hhas
        have EA := Lib.hid ea
        clear ea hhas
        go_wp2_with (first
            | (go_at_call 15; (first | (clear T1; with_reducible refine HSA.out.image.mono ?_; rintro e w3 ⟨v3, rfl, hown3, hF3⟩; (obtain ⟨g3, cap3, rfl, hg3, hcap3, ⟨cells3, hgb3⟩, hc3⟩ := imageC (xs := cs) hown3 (by omega)); (have hb3 := frBel hF3); (have HO := Lib.hid ((hb3.block _ (blk_lt HOA.out)).trans HOA.out)); (have HG3 := Lib.hid hgb3); (have HC3 := Lib.hid hc3); (have hne3 : g3 ≠ c := by have := World.size_alloc wr (.cells #[.int .i64 f0, .int .i64 4, .int .i64 f2, .int .u64 f3, .int .u64 f4] 25); omega); (have HB := Lib.hid (HBA.out.trans (hb3.mono HBA.out.size))); (have HS := Lib.hid (HSA.out.still hF3)); clear hown3 hgb3 hF3 hb3 HOA HSA HBA hc3 hg3; (obtain ⟨b0, b1, b2, b3, b4⟩ : w3.cell? ⟨wr.heap.size, 0, none⟩ = some (.int .i64 f0) ∧ w3.cell? ⟨wr.heap.size, 1, none⟩ = some (.int .i64 4) ∧ w3.cell? ⟨wr.heap.size, 2, none⟩ = some (.int .i64 f2) ∧ w3.cell? ⟨wr.heap.size, 3, none⟩ = some (.int .u64 f3) ∧ w3.cell? ⟨wr.heap.size, 4, none⟩ = some (.int .u64 f4) := ⟨(Hp.blk_cell HO.out 0 rfl).1, (Hp.blk_cell HO.out 1 rfl).1, (Hp.blk_cell HO.out 2 rfl).1, (Hp.blk_cell HO.out 3 rfl).1, (Hp.blk_cell HO.out 4 rfl).1⟩))))
            | (go_at_call 18; (with_reducible refine HS.out.count.mono ?_; rintro e w4 ⟨rfl, rfl⟩))
            | (go_at_call 17; (with_reducible refine HS.out.faults.mono ?_; rintro e w4 ⟨rfl, rfl⟩))
            | (go_at_call 20; ((have hm := HS.out.cas 0 f2 f3 f4 rfl (Nat.zero_le _)); rw [EA.out] at hm; (with_reducible refine hm.mono ?_); clear hm; rintro e w5 ⟨rfl, hD⟩; replace HB := Lib.hid (HB.out.trans hD.bel); replace HS := Lib.hid hD.sys; clear hD b0 b1 b2 b3 b4))
            | (go_at_call 23; ((have hm := HS.out.open_ 0 rfl); (with_reducible refine hm.mono ?_); clear hm; rintro e w6 ⟨rfl, rfl⟩)))
        go_roundw
        case rel => exact ⟨k + 1, G, _, _, _, _, by omega, by omega, by go_num, by go_num, HS, HB, by omega, by omega, by omega, by omega, Lib.hid (by simp; omega), by omega, by omega⟩
        case measure => simp [intOf]; omega
      · obtain ⟨cs', hcl', ea⟩ := acc_made cs cn fn hcn (by omega) 4 5 f2 0 f4 hhas
        have EA := Lib.hid ea
        clear ea hhas
        go_wp2_with (first
            | (go_at_call 15; (first | (clear T1; with_reducible refine HSA.out.image.mono ?_; rintro e w3 ⟨v3, rfl, hown3, hF3⟩; (obtain ⟨g3, cap3, rfl, hg3, hcap3, ⟨cells3, hgb3⟩, hc3⟩ := imageC (xs := cs) hown3 (by omega)); (have hb3 := frBel hF3); (have HO := Lib.hid ((hb3.block _ (blk_lt HOA.out)).trans HOA.out)); (have HG3 := Lib.hid hgb3); (have HC3 := Lib.hid hc3); (have hne3 : g3 ≠ c := by have := World.size_alloc wr (.cells #[.int .i64 f0, .int .i64 5, .int .i64 f2, .int .u64 f3, .int .u64 f4] 25); omega); (have HB := Lib.hid (HBA.out.trans (hb3.mono HBA.out.size))); (have HS := Lib.hid (HSA.out.still hF3)); clear hown3 hgb3 hF3 hb3 HOA HSA HBA hc3 hg3; (obtain ⟨b0, b1, b2, b3, b4⟩ : w3.cell? ⟨wr.heap.size, 0, none⟩ = some (.int .i64 f0) ∧ w3.cell? ⟨wr.heap.size, 1, none⟩ = some (.int .i64 5) ∧ w3.cell? ⟨wr.heap.size, 2, none⟩ = some (.int .i64 f2) ∧ w3.cell? ⟨wr.heap.size, 3, none⟩ = some (.int .u64 f3) ∧ w3.cell? ⟨wr.heap.size, 4, none⟩ = some (.int .u64 f4) := ⟨(Hp.blk_cell HO.out 0 rfl).1, (Hp.blk_cell HO.out 1 rfl).1, (Hp.blk_cell HO.out 2 rfl).1, (Hp.blk_cell HO.out 3 rfl).1, (Hp.blk_cell HO.out 4 rfl).1⟩))))
            | (go_at_call 18; (with_reducible refine HS.out.count.mono ?_; rintro e w4 ⟨rfl, rfl⟩))
            | (go_at_call 17; (with_reducible refine HS.out.faults.mono ?_; rintro e w4 ⟨rfl, rfl⟩))
            | (go_at_call 21; ((have hm := HS.out.or_ 0 f2 f4 rfl (Nat.zero_le _)); rw [EA.out] at hm; (with_reducible refine hm.mono ?_); clear hm; rintro e w5 ⟨rfl, hD⟩; replace HB := Lib.hid (HB.out.trans hD.bel); replace HS := Lib.hid hD.sys; clear hD b0 b1 b2 b3 b4))
            | (go_at_call 23; ((have hm := HS.out.open_ 0 rfl); (with_reducible refine hm.mono ?_); clear hm; rintro e w6 ⟨rfl, rfl⟩)))
        go_roundw
        case rel => exact ⟨k + 1, G, _, _, _, _, by omega, by omega, by go_num, by go_num, HS, HB, by omega, by omega, by omega, by omega, Lib.hid (by simp; omega), by omega, by omega⟩
        case measure => simp [intOf]; omega
      · obtain ⟨cs', hcl', ea⟩ := acc_made cs cn fn hcn (by omega) 4 6 f2 0 f4 hhas
        have EA := Lib.hid ea
        clear ea hhas
        go_wp2_with (first
            | (go_at_call 15; (first | (clear T1; with_reducible refine HSA.out.image.mono ?_; rintro e w3 ⟨v3, rfl, hown3, hF3⟩; (obtain ⟨g3, cap3, rfl, hg3, hcap3, ⟨cells3, hgb3⟩, hc3⟩ := imageC (xs := cs) hown3 (by omega)); (have hb3 := frBel hF3); (have HO := Lib.hid ((hb3.block _ (blk_lt HOA.out)).trans HOA.out)); (have HG3 := Lib.hid hgb3); (have HC3 := Lib.hid hc3); (have hne3 : g3 ≠ c := by have := World.size_alloc wr (.cells #[.int .i64 f0, .int .i64 6, .int .i64 f2, .int .u64 f3, .int .u64 f4] 25); omega); (have HB := Lib.hid (HBA.out.trans (hb3.mono HBA.out.size))); (have HS := Lib.hid (HSA.out.still hF3)); clear hown3 hgb3 hF3 hb3 HOA HSA HBA hc3 hg3; (obtain ⟨b0, b1, b2, b3, b4⟩ : w3.cell? ⟨wr.heap.size, 0, none⟩ = some (.int .i64 f0) ∧ w3.cell? ⟨wr.heap.size, 1, none⟩ = some (.int .i64 6) ∧ w3.cell? ⟨wr.heap.size, 2, none⟩ = some (.int .i64 f2) ∧ w3.cell? ⟨wr.heap.size, 3, none⟩ = some (.int .u64 f3) ∧ w3.cell? ⟨wr.heap.size, 4, none⟩ = some (.int .u64 f4) := ⟨(Hp.blk_cell HO.out 0 rfl).1, (Hp.blk_cell HO.out 1 rfl).1, (Hp.blk_cell HO.out 2 rfl).1, (Hp.blk_cell HO.out 3 rfl).1, (Hp.blk_cell HO.out 4 rfl).1⟩))))
            | (go_at_call 18; (with_reducible refine HS.out.count.mono ?_; rintro e w4 ⟨rfl, rfl⟩))
            | (go_at_call 17; (with_reducible refine HS.out.faults.mono ?_; rintro e w4 ⟨rfl, rfl⟩))
            | (go_at_call 22; ((have hm := HS.out.and_ 0 f2 f4 rfl (Nat.zero_le _)); rw [EA.out] at hm; (with_reducible refine hm.mono ?_); clear hm; rintro e w5 ⟨rfl, hD⟩; replace HB := Lib.hid (HB.out.trans hD.bel); replace HS := Lib.hid hD.sys; clear hD b0 b1 b2 b3 b4))
            | (go_at_call 23; ((have hm := HS.out.open_ 0 rfl); (with_reducible refine hm.mono ?_); clear hm; rintro e w6 ⟨rfl, rfl⟩)))
        go_roundw
        case rel => exact ⟨k + 1, G, _, _, _, _, by omega, by omega, by go_num, by go_num, HS, HB, by omega, by omega, by omega, by omega, Lib.hid (by simp; omega), by omega, by omega⟩
        case measure => simp [intOf]; omega
    · rcases hcase with rfl | rfl | rfl | rfl | rfl | rfl
      · have EA := Lib.hid (acc_fault cs cn fn hfn (by omega) b 4 1 f2 0 0 hmade)
        obtain ⟨kw, hkw⟩ := words_same cs (by omega)
        have HKW := Lib.hid hkw
        clear hmade hkw
        go_wp2_with (first
            | (go_at_call 15; (first | (clear T1; with_reducible refine HSA.out.image.mono ?_; rintro e w3 ⟨v3, rfl, hown3, hF3⟩; (obtain ⟨g3, cap3, rfl, hg3, hcap3, ⟨cells3, hgb3⟩, hc3⟩ := imageC (xs := cs) hown3 (by omega)); (have hb3 := frBel hF3); (have HO := Lib.hid ((hb3.block _ (blk_lt HOA.out)).trans HOA.out)); (have HG3 := Lib.hid hgb3); (have HC3 := Lib.hid hc3); (have hne3 : g3 ≠ c := by have := World.size_alloc wr (.cells #[.int .i64 f0, .int .i64 1, .int .i64 f2, .int .u64 f3, .int .u64 f4] 25); omega); (have HB := Lib.hid (HBA.out.trans (hb3.mono HBA.out.size))); (have HS := Lib.hid (HSA.out.still hF3)); clear hown3 hgb3 hF3 hb3 HOA HSA HBA hc3 hg3; (obtain ⟨b0, b1, b2, b3, b4⟩ : w3.cell? ⟨wr.heap.size, 0, none⟩ = some (.int .i64 f0) ∧ w3.cell? ⟨wr.heap.size, 1, none⟩ = some (.int .i64 1) ∧ w3.cell? ⟨wr.heap.size, 2, none⟩ = some (.int .i64 f2) ∧ w3.cell? ⟨wr.heap.size, 3, none⟩ = some (.int .u64 f3) ∧ w3.cell? ⟨wr.heap.size, 4, none⟩ = some (.int .u64 f4) := ⟨(Hp.blk_cell HO.out 0 rfl).1, (Hp.blk_cell HO.out 1 rfl).1, (Hp.blk_cell HO.out 2 rfl).1, (Hp.blk_cell HO.out 3 rfl).1, (Hp.blk_cell HO.out 4 rfl).1⟩)) | (with_reducible refine HS.out.image.mono ?_; rintro e w5 ⟨v5, rfl, hown5, hF5⟩; (obtain ⟨g5, cap5, rfl, hg5, hcap5, ⟨cells5, hgb5⟩, hc5⟩ := imageC (xs := cs) hown5 (by omega)); (have hb5 := frBel hF5); (have C3 := Lib.hid (HC3.out w5 ((hb5.block _ (blk_lt HG3.out)).trans HG3e.out))); (have C5 := Lib.hid (hc5 w5 rfl)); replace HB := Lib.hid (HB.out.trans (hb5.mono HB.out.size)); replace HS := Lib.hid (HS.out.still hF5); clear hown5 hgb5 hF5 hb5 hc5)))
            | (go_at_call 18; (with_reducible refine HS.out.count.mono ?_; rintro e w4 ⟨rfl, rfl⟩))
            | (go_at_call 17; (with_reducible refine HS.out.faults.mono ?_; rintro e w4 ⟨rfl, rfl⟩))
            | (go_at_call 16; ((have hm := HS.out.load 0 f2 rfl (Nat.zero_le _)); rw [EA.out] at hm; (with_reducible refine hm.mono ?_); clear hm; rintro e w5 ⟨rfl, hD⟩; (have HG3e := Lib.hid (hD.fr.block _ (blk_lt HG3.out) (not_touch HG3.out hne3 (by decide)))); replace HG3 := Lib.hid (HG3e.out.trans HG3.out); replace HB := Lib.hid (HB.out.trans hD.bel); replace HS := Lib.hid hD.sys; clear hD b0 b1 b2 b3 b4))
            | (go_at_call 23; ((have hm := HS.out.open_ 0 rfl); (with_reducible refine hm.mono ?_); clear hm; rintro e w6 ⟨rfl, rfl⟩))
            | (go_at_call 24; ((have hm := windrowref01_Words.calls kw _ cap3 cs _ cap5 cs true _ C3.out hcap3 C5.out hcap5 HKW.out); rw [hcl] at hm; (with_reducible refine hm.mono ?_); clear hm; rintro e w7 ⟨rfl, hd7⟩; (have hb7 := hd7.below); replace HB := Lib.hid (HB.out.trans (hb7.mono HB.out.size)); replace HS := Lib.hid (HS.out.below hb7); clear hd7 hb7 C3 C5)))
        go_roundw
        case rel => exact ⟨k + 1, G, _, _, _, _, by omega, by omega, by go_num, by go_num, HS, HB, by omega, by omega, by omega, by omega, Lib.hid (by simp; omega), by omega, by omega⟩
        case measure => simp [intOf]; omega
      · have EA := Lib.hid (acc_fault cs cn fn hfn (by omega) b 4 2 f2 0 f4 hmade)
        obtain ⟨kw, hkw⟩ := words_same cs (by omega)
        have HKW := Lib.hid hkw
        clear hmade hkw
        go_wp2_with (first
            | (go_at_call 15; (first | (clear T1; with_reducible refine HSA.out.image.mono ?_; rintro e w3 ⟨v3, rfl, hown3, hF3⟩; (obtain ⟨g3, cap3, rfl, hg3, hcap3, ⟨cells3, hgb3⟩, hc3⟩ := imageC (xs := cs) hown3 (by omega)); (have hb3 := frBel hF3); (have HO := Lib.hid ((hb3.block _ (blk_lt HOA.out)).trans HOA.out)); (have HG3 := Lib.hid hgb3); (have HC3 := Lib.hid hc3); (have hne3 : g3 ≠ c := by have := World.size_alloc wr (.cells #[.int .i64 f0, .int .i64 2, .int .i64 f2, .int .u64 f3, .int .u64 f4] 25); omega); (have HB := Lib.hid (HBA.out.trans (hb3.mono HBA.out.size))); (have HS := Lib.hid (HSA.out.still hF3)); clear hown3 hgb3 hF3 hb3 HOA HSA HBA hc3 hg3; (obtain ⟨b0, b1, b2, b3, b4⟩ : w3.cell? ⟨wr.heap.size, 0, none⟩ = some (.int .i64 f0) ∧ w3.cell? ⟨wr.heap.size, 1, none⟩ = some (.int .i64 2) ∧ w3.cell? ⟨wr.heap.size, 2, none⟩ = some (.int .i64 f2) ∧ w3.cell? ⟨wr.heap.size, 3, none⟩ = some (.int .u64 f3) ∧ w3.cell? ⟨wr.heap.size, 4, none⟩ = some (.int .u64 f4) := ⟨(Hp.blk_cell HO.out 0 rfl).1, (Hp.blk_cell HO.out 1 rfl).1, (Hp.blk_cell HO.out 2 rfl).1, (Hp.blk_cell HO.out 3 rfl).1, (Hp.blk_cell HO.out 4 rfl).1⟩)) | (with_reducible refine HS.out.image.mono ?_; rintro e w5 ⟨v5, rfl, hown5, hF5⟩; (obtain ⟨g5, cap5, rfl, hg5, hcap5, ⟨cells5, hgb5⟩, hc5⟩ := imageC (xs := cs) hown5 (by omega)); (have hb5 := frBel hF5); (have C3 := Lib.hid (HC3.out w5 ((hb5.block _ (blk_lt HG3.out)).trans HG3e.out))); (have C5 := Lib.hid (hc5 w5 rfl)); replace HB := Lib.hid (HB.out.trans (hb5.mono HB.out.size)); replace HS := Lib.hid (HS.out.still hF5); clear hown5 hgb5 hF5 hb5 hc5)))
            | (go_at_call 18; (with_reducible refine HS.out.count.mono ?_; rintro e w4 ⟨rfl, rfl⟩))
            | (go_at_call 17; (with_reducible refine HS.out.faults.mono ?_; rintro e w4 ⟨rfl, rfl⟩))
            | (go_at_call 19; ((have hm := HS.out.store 0 f2 f4 rfl (Nat.zero_le _)); rw [EA.out] at hm; (with_reducible refine hm.mono ?_); clear hm; rintro e w5 ⟨rfl, hD⟩; (have HG3e := Lib.hid (hD.fr.block _ (blk_lt HG3.out) (not_touch HG3.out hne3 (by decide)))); replace HG3 := Lib.hid (HG3e.out.trans HG3.out); replace HB := Lib.hid (HB.out.trans hD.bel); replace HS := Lib.hid hD.sys; clear hD b0 b1 b2 b3 b4))
            | (go_at_call 23; ((have hm := HS.out.open_ 0 rfl); (with_reducible refine hm.mono ?_); clear hm; rintro e w6 ⟨rfl, rfl⟩))
            | (go_at_call 24; ((have hm := windrowref01_Words.calls kw _ cap3 cs _ cap5 cs true _ C3.out hcap3 C5.out hcap5 HKW.out); rw [hcl] at hm; (with_reducible refine hm.mono ?_); clear hm; rintro e w7 ⟨rfl, hd7⟩; (have hb7 := hd7.below); replace HB := Lib.hid (HB.out.trans (hb7.mono HB.out.size)); replace HS := Lib.hid (HS.out.below hb7); clear hd7 hb7 C3 C5)))
        go_roundw
        case rel => exact ⟨k + 1, G, _, _, _, _, by omega, by omega, by go_num, by go_num, HS, HB, by omega, by omega, by omega, by omega, Lib.hid (by simp; omega), by omega, by omega⟩
        case measure => simp [intOf]; omega
      · have EA := Lib.hid (acc_fault cs cn fn hfn (by omega) b 4 3 f2 0 f4 hmade)
        obtain ⟨kw, hkw⟩ := words_same cs (by omega)
        have HKW := Lib.hid hkw
        clear hmade hkw
        go_wp2_with (first
            | (go_at_call 15; (first | (clear T1; with_reducible refine HSA.out.image.mono ?_; rintro e w3 ⟨v3, rfl, hown3, hF3⟩; (obtain ⟨g3, cap3, rfl, hg3, hcap3, ⟨cells3, hgb3⟩, hc3⟩ := imageC (xs := cs) hown3 (by omega)); (have hb3 := frBel hF3); (have HO := Lib.hid ((hb3.block _ (blk_lt HOA.out)).trans HOA.out)); (have HG3 := Lib.hid hgb3); (have HC3 := Lib.hid hc3); (have hne3 : g3 ≠ c := by have := World.size_alloc wr (.cells #[.int .i64 f0, .int .i64 3, .int .i64 f2, .int .u64 f3, .int .u64 f4] 25); omega); (have HB := Lib.hid (HBA.out.trans (hb3.mono HBA.out.size))); (have HS := Lib.hid (HSA.out.still hF3)); clear hown3 hgb3 hF3 hb3 HOA HSA HBA hc3 hg3; (obtain ⟨b0, b1, b2, b3, b4⟩ : w3.cell? ⟨wr.heap.size, 0, none⟩ = some (.int .i64 f0) ∧ w3.cell? ⟨wr.heap.size, 1, none⟩ = some (.int .i64 3) ∧ w3.cell? ⟨wr.heap.size, 2, none⟩ = some (.int .i64 f2) ∧ w3.cell? ⟨wr.heap.size, 3, none⟩ = some (.int .u64 f3) ∧ w3.cell? ⟨wr.heap.size, 4, none⟩ = some (.int .u64 f4) := ⟨(Hp.blk_cell HO.out 0 rfl).1, (Hp.blk_cell HO.out 1 rfl).1, (Hp.blk_cell HO.out 2 rfl).1, (Hp.blk_cell HO.out 3 rfl).1, (Hp.blk_cell HO.out 4 rfl).1⟩)) | (with_reducible refine HS.out.image.mono ?_; rintro e w5 ⟨v5, rfl, hown5, hF5⟩; (obtain ⟨g5, cap5, rfl, hg5, hcap5, ⟨cells5, hgb5⟩, hc5⟩ := imageC (xs := cs) hown5 (by omega)); (have hb5 := frBel hF5); (have C3 := Lib.hid (HC3.out w5 ((hb5.block _ (blk_lt HG3.out)).trans HG3e.out))); (have C5 := Lib.hid (hc5 w5 rfl)); replace HB := Lib.hid (HB.out.trans (hb5.mono HB.out.size)); replace HS := Lib.hid (HS.out.still hF5); clear hown5 hgb5 hF5 hb5 hc5)))
            | (go_at_call 18; (with_reducible refine HS.out.count.mono ?_; rintro e w4 ⟨rfl, rfl⟩))
            | (go_at_call 17; (with_reducible refine HS.out.faults.mono ?_; rintro e w4 ⟨rfl, rfl⟩))
            | (go_at_call 14; ((have hm := HS.out.swap 0 f2 f4 rfl (Nat.zero_le _)); rw [EA.out] at hm; (with_reducible refine hm.mono ?_); clear hm; rintro e w5 ⟨rfl, hD⟩; (have HG3e := Lib.hid (hD.fr.block _ (blk_lt HG3.out) (not_touch HG3.out hne3 (by decide)))); replace HG3 := Lib.hid (HG3e.out.trans HG3.out); replace HB := Lib.hid (HB.out.trans hD.bel); replace HS := Lib.hid hD.sys; clear hD b0 b1 b2 b3 b4))
            | (go_at_call 23; ((have hm := HS.out.open_ 0 rfl); (with_reducible refine hm.mono ?_); clear hm; rintro e w6 ⟨rfl, rfl⟩))
            | (go_at_call 24; ((have hm := windrowref01_Words.calls kw _ cap3 cs _ cap5 cs true _ C3.out hcap3 C5.out hcap5 HKW.out); rw [hcl] at hm; (with_reducible refine hm.mono ?_); clear hm; rintro e w7 ⟨rfl, hd7⟩; (have hb7 := hd7.below); replace HB := Lib.hid (HB.out.trans (hb7.mono HB.out.size)); replace HS := Lib.hid (HS.out.below hb7); clear hd7 hb7 C3 C5)))
        go_roundw
        case rel => exact ⟨k + 1, G, _, _, _, _, by omega, by omega, by go_num, by go_num, HS, HB, by omega, by omega, by omega, by omega, Lib.hid (by simp; omega), by omega, by omega⟩
        case measure => simp [intOf]; omega
      · have EA := Lib.hid (acc_fault cs cn fn hfn (by omega) b 4 4 f2 f3 f4 hmade)
        obtain ⟨kw, hkw⟩ := words_same cs (by omega)
        have HKW := Lib.hid hkw
        clear hmade hkw
        go_wp2_with (first
            | (go_at_call 15; (first | (clear T1; with_reducible refine HSA.out.image.mono ?_; rintro e w3 ⟨v3, rfl, hown3, hF3⟩; (obtain ⟨g3, cap3, rfl, hg3, hcap3, ⟨cells3, hgb3⟩, hc3⟩ := imageC (xs := cs) hown3 (by omega)); (have hb3 := frBel hF3); (have HO := Lib.hid ((hb3.block _ (blk_lt HOA.out)).trans HOA.out)); (have HG3 := Lib.hid hgb3); (have HC3 := Lib.hid hc3); (have hne3 : g3 ≠ c := by have := World.size_alloc wr (.cells #[.int .i64 f0, .int .i64 4, .int .i64 f2, .int .u64 f3, .int .u64 f4] 25); omega); (have HB := Lib.hid (HBA.out.trans (hb3.mono HBA.out.size))); (have HS := Lib.hid (HSA.out.still hF3)); clear hown3 hgb3 hF3 hb3 HOA HSA HBA hc3 hg3; (obtain ⟨b0, b1, b2, b3, b4⟩ : w3.cell? ⟨wr.heap.size, 0, none⟩ = some (.int .i64 f0) ∧ w3.cell? ⟨wr.heap.size, 1, none⟩ = some (.int .i64 4) ∧ w3.cell? ⟨wr.heap.size, 2, none⟩ = some (.int .i64 f2) ∧ w3.cell? ⟨wr.heap.size, 3, none⟩ = some (.int .u64 f3) ∧ w3.cell? ⟨wr.heap.size, 4, none⟩ = some (.int .u64 f4) := ⟨(Hp.blk_cell HO.out 0 rfl).1, (Hp.blk_cell HO.out 1 rfl).1, (Hp.blk_cell HO.out 2 rfl).1, (Hp.blk_cell HO.out 3 rfl).1, (Hp.blk_cell HO.out 4 rfl).1⟩)) | (with_reducible refine HS.out.image.mono ?_; rintro e w5 ⟨v5, rfl, hown5, hF5⟩; (obtain ⟨g5, cap5, rfl, hg5, hcap5, ⟨cells5, hgb5⟩, hc5⟩ := imageC (xs := cs) hown5 (by omega)); (have hb5 := frBel hF5); (have C3 := Lib.hid (HC3.out w5 ((hb5.block _ (blk_lt HG3.out)).trans HG3e.out))); (have C5 := Lib.hid (hc5 w5 rfl)); replace HB := Lib.hid (HB.out.trans (hb5.mono HB.out.size)); replace HS := Lib.hid (HS.out.still hF5); clear hown5 hgb5 hF5 hb5 hc5)))
            | (go_at_call 18; (with_reducible refine HS.out.count.mono ?_; rintro e w4 ⟨rfl, rfl⟩))
            | (go_at_call 17; (with_reducible refine HS.out.faults.mono ?_; rintro e w4 ⟨rfl, rfl⟩))
            | (go_at_call 20; ((have hm := HS.out.cas 0 f2 f3 f4 rfl (Nat.zero_le _)); rw [EA.out] at hm; (with_reducible refine hm.mono ?_); clear hm; rintro e w5 ⟨rfl, hD⟩; (have HG3e := Lib.hid (hD.fr.block _ (blk_lt HG3.out) (not_touch HG3.out hne3 (by decide)))); replace HG3 := Lib.hid (HG3e.out.trans HG3.out); replace HB := Lib.hid (HB.out.trans hD.bel); replace HS := Lib.hid hD.sys; clear hD b0 b1 b2 b3 b4))
            | (go_at_call 23; ((have hm := HS.out.open_ 0 rfl); (with_reducible refine hm.mono ?_); clear hm; rintro e w6 ⟨rfl, rfl⟩))
            | (go_at_call 24; ((have hm := windrowref01_Words.calls kw _ cap3 cs _ cap5 cs true _ C3.out hcap3 C5.out hcap5 HKW.out); rw [hcl] at hm; (with_reducible refine hm.mono ?_); clear hm; rintro e w7 ⟨rfl, hd7⟩; (have hb7 := hd7.below); replace HB := Lib.hid (HB.out.trans (hb7.mono HB.out.size)); replace HS := Lib.hid (HS.out.below hb7); clear hd7 hb7 C3 C5)))
        go_roundw
        case rel => exact ⟨k + 1, G, _, _, _, _, by omega, by omega, by go_num, by go_num, HS, HB, by omega, by omega, by omega, by omega, Lib.hid (by simp; omega), by omega, by omega⟩
        case measure => simp [intOf]; omega
      · have EA := Lib.hid (acc_fault cs cn fn hfn (by omega) b 4 5 f2 0 f4 hmade)
        obtain ⟨kw, hkw⟩ := words_same cs (by omega)
        have HKW := Lib.hid hkw
        clear hmade hkw
        go_wp2_with (first
            | (go_at_call 15; (first | (clear T1; with_reducible refine HSA.out.image.mono ?_; rintro e w3 ⟨v3, rfl, hown3, hF3⟩; (obtain ⟨g3, cap3, rfl, hg3, hcap3, ⟨cells3, hgb3⟩, hc3⟩ := imageC (xs := cs) hown3 (by omega)); (have hb3 := frBel hF3); (have HO := Lib.hid ((hb3.block _ (blk_lt HOA.out)).trans HOA.out)); (have HG3 := Lib.hid hgb3); (have HC3 := Lib.hid hc3); (have hne3 : g3 ≠ c := by have := World.size_alloc wr (.cells #[.int .i64 f0, .int .i64 5, .int .i64 f2, .int .u64 f3, .int .u64 f4] 25); omega); (have HB := Lib.hid (HBA.out.trans (hb3.mono HBA.out.size))); (have HS := Lib.hid (HSA.out.still hF3)); clear hown3 hgb3 hF3 hb3 HOA HSA HBA hc3 hg3; (obtain ⟨b0, b1, b2, b3, b4⟩ : w3.cell? ⟨wr.heap.size, 0, none⟩ = some (.int .i64 f0) ∧ w3.cell? ⟨wr.heap.size, 1, none⟩ = some (.int .i64 5) ∧ w3.cell? ⟨wr.heap.size, 2, none⟩ = some (.int .i64 f2) ∧ w3.cell? ⟨wr.heap.size, 3, none⟩ = some (.int .u64 f3) ∧ w3.cell? ⟨wr.heap.size, 4, none⟩ = some (.int .u64 f4) := ⟨(Hp.blk_cell HO.out 0 rfl).1, (Hp.blk_cell HO.out 1 rfl).1, (Hp.blk_cell HO.out 2 rfl).1, (Hp.blk_cell HO.out 3 rfl).1, (Hp.blk_cell HO.out 4 rfl).1⟩)) | (with_reducible refine HS.out.image.mono ?_; rintro e w5 ⟨v5, rfl, hown5, hF5⟩; (obtain ⟨g5, cap5, rfl, hg5, hcap5, ⟨cells5, hgb5⟩, hc5⟩ := imageC (xs := cs) hown5 (by omega)); (have hb5 := frBel hF5); (have C3 := Lib.hid (HC3.out w5 ((hb5.block _ (blk_lt HG3.out)).trans HG3e.out))); (have C5 := Lib.hid (hc5 w5 rfl)); replace HB := Lib.hid (HB.out.trans (hb5.mono HB.out.size)); replace HS := Lib.hid (HS.out.still hF5); clear hown5 hgb5 hF5 hb5 hc5)))
            | (go_at_call 18; (with_reducible refine HS.out.count.mono ?_; rintro e w4 ⟨rfl, rfl⟩))
            | (go_at_call 17; (with_reducible refine HS.out.faults.mono ?_; rintro e w4 ⟨rfl, rfl⟩))
            | (go_at_call 21; ((have hm := HS.out.or_ 0 f2 f4 rfl (Nat.zero_le _)); rw [EA.out] at hm; (with_reducible refine hm.mono ?_); clear hm; rintro e w5 ⟨rfl, hD⟩; (have HG3e := Lib.hid (hD.fr.block _ (blk_lt HG3.out) (not_touch HG3.out hne3 (by decide)))); replace HG3 := Lib.hid (HG3e.out.trans HG3.out); replace HB := Lib.hid (HB.out.trans hD.bel); replace HS := Lib.hid hD.sys; clear hD b0 b1 b2 b3 b4))
            | (go_at_call 23; ((have hm := HS.out.open_ 0 rfl); (with_reducible refine hm.mono ?_); clear hm; rintro e w6 ⟨rfl, rfl⟩))
            | (go_at_call 24; ((have hm := windrowref01_Words.calls kw _ cap3 cs _ cap5 cs true _ C3.out hcap3 C5.out hcap5 HKW.out); rw [hcl] at hm; (with_reducible refine hm.mono ?_); clear hm; rintro e w7 ⟨rfl, hd7⟩; (have hb7 := hd7.below); replace HB := Lib.hid (HB.out.trans (hb7.mono HB.out.size)); replace HS := Lib.hid (HS.out.below hb7); clear hd7 hb7 C3 C5)))
        go_roundw
        case rel => exact ⟨k + 1, G, _, _, _, _, by omega, by omega, by go_num, by go_num, HS, HB, by omega, by omega, by omega, by omega, Lib.hid (by simp; omega), by omega, by omega⟩
        case measure => simp [intOf]; omega
      · have EA := Lib.hid (acc_fault cs cn fn hfn (by omega) b 4 6 f2 0 f4 hmade)
        obtain ⟨kw, hkw⟩ := words_same cs (by omega)
        have HKW := Lib.hid hkw
        clear hmade hkw
        go_wp2_with (first
            | (go_at_call 15; (first | (clear T1; with_reducible refine HSA.out.image.mono ?_; rintro e w3 ⟨v3, rfl, hown3, hF3⟩; (obtain ⟨g3, cap3, rfl, hg3, hcap3, ⟨cells3, hgb3⟩, hc3⟩ := imageC (xs := cs) hown3 (by omega)); (have hb3 := frBel hF3); (have HO := Lib.hid ((hb3.block _ (blk_lt HOA.out)).trans HOA.out)); (have HG3 := Lib.hid hgb3); (have HC3 := Lib.hid hc3); (have hne3 : g3 ≠ c := by have := World.size_alloc wr (.cells #[.int .i64 f0, .int .i64 6, .int .i64 f2, .int .u64 f3, .int .u64 f4] 25); omega); (have HB := Lib.hid (HBA.out.trans (hb3.mono HBA.out.size))); (have HS := Lib.hid (HSA.out.still hF3)); clear hown3 hgb3 hF3 hb3 HOA HSA HBA hc3 hg3; (obtain ⟨b0, b1, b2, b3, b4⟩ : w3.cell? ⟨wr.heap.size, 0, none⟩ = some (.int .i64 f0) ∧ w3.cell? ⟨wr.heap.size, 1, none⟩ = some (.int .i64 6) ∧ w3.cell? ⟨wr.heap.size, 2, none⟩ = some (.int .i64 f2) ∧ w3.cell? ⟨wr.heap.size, 3, none⟩ = some (.int .u64 f3) ∧ w3.cell? ⟨wr.heap.size, 4, none⟩ = some (.int .u64 f4) := ⟨(Hp.blk_cell HO.out 0 rfl).1, (Hp.blk_cell HO.out 1 rfl).1, (Hp.blk_cell HO.out 2 rfl).1, (Hp.blk_cell HO.out 3 rfl).1, (Hp.blk_cell HO.out 4 rfl).1⟩)) | (with_reducible refine HS.out.image.mono ?_; rintro e w5 ⟨v5, rfl, hown5, hF5⟩; (obtain ⟨g5, cap5, rfl, hg5, hcap5, ⟨cells5, hgb5⟩, hc5⟩ := imageC (xs := cs) hown5 (by omega)); (have hb5 := frBel hF5); (have C3 := Lib.hid (HC3.out w5 ((hb5.block _ (blk_lt HG3.out)).trans HG3e.out))); (have C5 := Lib.hid (hc5 w5 rfl)); replace HB := Lib.hid (HB.out.trans (hb5.mono HB.out.size)); replace HS := Lib.hid (HS.out.still hF5); clear hown5 hgb5 hF5 hb5 hc5)))
            | (go_at_call 18; (with_reducible refine HS.out.count.mono ?_; rintro e w4 ⟨rfl, rfl⟩))
            | (go_at_call 17; (with_reducible refine HS.out.faults.mono ?_; rintro e w4 ⟨rfl, rfl⟩))
            | (go_at_call 22; ((have hm := HS.out.and_ 0 f2 f4 rfl (Nat.zero_le _)); rw [EA.out] at hm; (with_reducible refine hm.mono ?_); clear hm; rintro e w5 ⟨rfl, hD⟩; (have HG3e := Lib.hid (hD.fr.block _ (blk_lt HG3.out) (not_touch HG3.out hne3 (by decide)))); replace HG3 := Lib.hid (HG3e.out.trans HG3.out); replace HB := Lib.hid (HB.out.trans hD.bel); replace HS := Lib.hid hD.sys; clear hD b0 b1 b2 b3 b4))
            | (go_at_call 23; ((have hm := HS.out.open_ 0 rfl); (with_reducible refine hm.mono ?_); clear hm; rintro e w6 ⟨rfl, rfl⟩))
            | (go_at_call 24; ((have hm := windrowref01_Words.calls kw _ cap3 cs _ cap5 cs true _ C3.out hcap3 C5.out hcap5 HKW.out); rw [hcl] at hm; (with_reducible refine hm.mono ?_); clear hm; rintro e w7 ⟨rfl, hd7⟩; (have hb7 := hd7.below); replace HB := Lib.hid (HB.out.trans (hb7.mono HB.out.size)); replace HS := Lib.hid (HS.out.below hb7); clear hd7 hb7 C3 C5)))
        go_roundw
        case rel => exact ⟨k + 1, G, _, _, _, _, by omega, by omega, by go_num, by go_num, HS, HB, by omega, by omega, by omega, by omega, Lib.hid (by simp; omega), by omega, by omega⟩
        case measure => simp [intOf]; omega
end Go.Proofs.Ytneppenmhbjfkaa.Ar
