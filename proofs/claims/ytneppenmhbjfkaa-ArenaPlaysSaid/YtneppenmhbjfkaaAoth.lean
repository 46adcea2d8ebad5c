/- ArenaOthers, walked. -/
import Derived.Test.YtneppenmhbjfkaaLw
import Derived.Test.YtneppenmhbjfkaaArP
namespace Go.Proofs.Ytneppenmhbjfkaa.Ar
open Go Go.RowKit Go.Proofs.Ytneppenmhbjfkaa.Hp
open Go.Proofs.YtneppenmhbjfkaaW.PrintWords (Kd)
set_option linter.unusedVariables false
set_option linter.unusedSimpArgs false

theorem celledB (w : World) : Calls Try.prog 9 #[] w fun e w' => e = .returned (.bool true) ∧ Below w.heap.size w w' := (celled w).mono fun e w' hw => ⟨hw.1, frBel hw.2⟩

theorem swap_step (l : List Int) (at_ : Nat) (v : Int) (h : at_ < l.length) : AS.acc ⟨l, [], false, 0, 0⟩ true 0 3 at_ 0 v = (⟨l.set at_ v, [], false, 1, 0⟩, l.getD at_ 0) := by
  unfold AS.acc
  have hh : AS.has ⟨l, [], false, 0, 0⟩ (at_ : Int) = true := decide_eq_true ⟨by omega, by simp; omega⟩
  rw [if_pos ⟨rfl, hh⟩]
  simp [AS.done, leftOf, wrap64]
theorem load_step (l : List Int) (at_ : Nat) (h : at_ < l.length) : AS.acc ⟨l, [], false, 1, 0⟩ true 0 1 at_ 0 0 = (⟨l, [], false, 2, 0⟩, l.getD at_ 0) := by
  unfold AS.acc
  have hh : AS.has ⟨l, [], false, 1, 0⟩ (at_ : Int) = true := decide_eq_true ⟨by omega, by simp; omega⟩
  rw [if_pos ⟨rfl, hh⟩]
  simp only [AS.done, leftOf, Int.toNat_natCast, if_true]
  congr 2
  · rw [List.getD_eq_getElem?_getD, List.getElem?_eq_getElem h, Option.getD_some, List.set_getElem_self]
  · unfold wrap64; omega
theorem at_of (o2 : Int) (n : Nat) (h : 0 < n) (h2 : n ≤ 4096) : ∃ at_ : Nat, wrap64 ((IntKind.u64.wrap o2).tmod (n : Int)) = at_ ∧ at_ < n := by
  have e : (0 : Int) ≤ IntKind.u64.wrap o2 := by
    simp only [IntKind.wrap, IntKind.bits, IntKind.signed]
    exact Int.emod_nonneg _ (by decide)
  rw [Int.tmod_eq_emod_of_nonneg e]
  have h2 := Int.emod_nonneg (IntKind.u64.wrap o2) (show (n : Int) ≠ 0 by omega)
  have h3 := Int.emod_lt_of_pos (IntKind.u64.wrap o2) (show (0 : Int) < n by omega)
  exact ⟨(IntKind.u64.wrap o2 % (n : Int)).toNat, by unfold wrap64; omega, by omega⟩
theorem poke_step (l : List Int) (k : Nat) (hk : k < l.length) : AS.poked ⟨l.take k ++ List.replicate (l.length - k) 0, [], false, 0, 0⟩ k (l.getD k 0) = ⟨l.take (k + 1) ++ List.replicate (l.length - (k + 1)) 0, [], false, 0, 0⟩ := by
  unfold AS.poked
  congr 1
  simp only [Int.toNat_natCast]
  have e1 : l.length - k = (l.length - (k + 1)) + 1 := by omega
  rw [e1, List.replicate_succ, List.set_append_right _ _ (by simp; omega), List.take_succ_eq_append_getElem hk]
  simp only [List.append_assoc, List.singleton_append, List.length_take, Nat.min_eq_left (Nat.le_of_lt hk), Nat.sub_self, List.set_cons_zero, List.getD_eq_getElem?_getD, List.getElem?_eq_getElem hk, Option.getD_some]
set_option maxHeartbeats 8000000 in
set_option maxRecDepth 100000 in
theorem others (A : Option Addr) (c0 : Nat) (l : List Int) (o0 o1 o2 o3 o4 : Int) (w : World) (hr : Kd.C (Kd.int .u64) w A l.length l) (hc0 : l.length ≤ c0) :
    Calls Try.prog 3 #[.slice A l.length c0, .agg #[.int .i64 o0, .int .i64 o1, .int .i64 o2, .int .u64 o3, .int .u64 o4]] w fun e w' => e = .returned (.bool true) ∧ Below w.heap.size w w' := by
  by_cases h0 : l.length < 1
  · have g0 := decide_eq_true (p := ((l.length : Int) < 1)) (by omega)
    have hB : Below w.heap.size w (w.alloc (.cells #[.int .i64 o0, .int .i64 o1, .int .i64 o2, .int .u64 o3, .int .u64 o4] 25)) := (Below.refl _ w).alloc (Nat.le_refl _) _
    go_enter Try.func3, Try.ntmps3
    go_wp2_with (first | (go_at_call 9; go_loud (refine (celledB _).mono ?_; rintro e w2 ⟨rfl, hb⟩; replace hB := hB.trans (hb.mono hB.size); clear hb)))
    go_ret
    exact ⟨rfl, hB⟩
  by_cases h1 : 200 < l.length
  · have g0 := decide_eq_false (p := ((l.length : Int) < 1)) (by omega)
    have g1 := decide_eq_true (p := (200 < (l.length : Int))) (by omega)
    have hB : Below w.heap.size w (w.alloc (.cells #[.int .i64 o0, .int .i64 o1, .int .i64 o2, .int .u64 o3, .int .u64 o4] 25)) := (Below.refl _ w).alloc (Nat.le_refl _) _
    go_enter Try.func3, Try.ntmps3
    go_wp2_with (first | (go_at_call 9; go_loud (refine (celledB _).mono ?_; rintro e w2 ⟨rfl, hb⟩; replace hB := hB.trans (hb.mono hB.size); clear hb)))
    go_ret
    exact ⟨rfl, hB⟩
  have g0 := decide_eq_false (p := ((l.length : Int) < 1)) (by omega)
  have g1 := decide_eq_false (p := (200 < (l.length : Int))) (by omega)
  obtain ⟨ad, rfl, hcell⟩ := row_ints hr (by omega)
  have hlt0 : (ad.add 0).block < w.heap.size := World.block_lt_of_cell? w _ (hcell 0 (by omega))
  have hlt : ∀ k, (ad.add k).block < w.heap.size := fun k => by rw [add_blk] at hlt0 ⊢; exact hlt0
  have HC := Lib.hid hcell
  clear hcell hr
  have hB : Below w.heap.size w (w.alloc (.cells #[.int .i64 o0, .int .i64 o1, .int .i64 o2, .int .u64 o3, .int .u64 o4] 25)) := (Below.refl _ w).alloc (Nat.le_refl _) _
  have hO := blk_new w (.cells #[.int .i64 o0, .int .i64 o1, .int .i64 o2, .int .u64 o3, .int .u64 o4] 25)
  have HO := Lib.hid hO
  clear hO
  go_enter Try.func3, Try.ntmps3
  go_wp2_with (first
    | (go_at_call 9; refine (celledB _).mono ?_; rintro e w2 ⟨rfl, hb⟩; replace hB := hB.trans (hb.mono hB.size); (have HO2 := Lib.hid ((hb.block _ (blk_lt HO.out)).trans HO.out)); clear hb HO)
    | (go_at_call 10; go_loud (refine (sys_new w.heap.size _ l.length false (by omega) (by omega) hB.size).mono ?_; rintro e w3 ⟨a, c, rfl, hS, hb, ha, hc⟩; replace hB := hB.trans (hb.mono hB.size); (have HO3 := Lib.hid ((hb.block _ (blk_lt HO2.out)).trans HO2.out)); (have hoc : w.heap.size ≠ c := by have := blk_lt HO2.out; omega); clear hb HO2 ha hc)))
  go_loopw [7] (fun i wr => ∃ k : Nat, k ≤ l.length ∧ i = .int .i64 k ∧ Sys w.heap.size wr a c ⟨l.take k ++ List.replicate (l.length - k) 0, [], false, 0, 0⟩ [] ∧ Below w.heap.size w wr ∧ Hid (wr.heap[w.heap.size]? = some (.cells #[.int .i64 o0, .int .i64 o1, .int .i64 o2, .int .u64 o3, .int .u64 o4] 25 (0, 0)))) (fun i _ => l.length - (intOf i).toNat)
  case atStart => exact ⟨0, Nat.zero_le _, rfl, by simpa using hS, hB, HO3⟩
  case round =>
    obtain ⟨k, hk, rfl, hSr, hBr, HOr⟩ := hrel
    clear hS hB HO3
    by_cases hkl : k < l.length
    · obtain ⟨x, hx⟩ : ∃ x, x = l.getD k 0 := ⟨_, rfl⟩
      have hcl : wr.cell? (ad.add k) = some (.int .u64 x) := by rw [hx]; exact (hBr.cell (p := ad.add k) (hlt k)).trans (HC.out k hkl)
      have hhas : AS.has ⟨l.take k ++ List.replicate (l.length - k) 0, [], false, 0, 0⟩ k = true := decide_eq_true ⟨by omega, by simp; omega⟩
      have hst : AS.poked ⟨l.take k ++ List.replicate (l.length - k) 0, [], false, 0, 0⟩ k x = ⟨l.take (k + 1) ++ List.replicate (l.length - (k + 1)) 0, [], false, 0, 0⟩ := by
        rw [hx]
        exact poke_step l k hkl
      have hpk := hSr.poke (k : Int) x hhas
      rw [hst] at hpk
      have HP := Lib.hid hpk
      clear hpk hhas hx hst hSr
      go_wp2_with (first | (go_at_call 11; go_loud (with_reducible refine HP.out.mono ?_; rintro e w4 ⟨rfl, hD⟩)))
      go_roundw
      case rel => exact ⟨k + 1, by omega, by go_num, hD.sys, hBr.trans (hD.bel.mono (Nat.le_refl _)), Lib.hid ((hD.fr.block _ (blk_lt HOr.out) (not_touch HOr.out hoc (by decide))).trans HOr.out)⟩
      case measure => simp [intOf]; omega
    · obtain rfl : k = l.length := by omega
      rw [List.take_length, Nat.sub_self, List.replicate_zero, List.append_nil] at hSr
      obtain ⟨at_, hat, hatl⟩ := at_of o2 l.length (by omega) (by omega)
      have HAT := Lib.hid hat
      clear hat
      obtain ⟨b0, b1, b2, b3, b4⟩ : wr.cell? ⟨w.heap.size, 0, none⟩ = some (.int .i64 o0) ∧ wr.cell? ⟨w.heap.size, 1, none⟩ = some (.int .i64 o1) ∧ wr.cell? ⟨w.heap.size, 2, none⟩ = some (.int .i64 o2) ∧ wr.cell? ⟨w.heap.size, 3, none⟩ = some (.int .u64 o3) ∧ wr.cell? ⟨w.heap.size, 4, none⟩ = some (.int .u64 o4) := ⟨(blk_cell HOr.out 0 rfl).1, (blk_cell HOr.out 1 rfl).1, (blk_cell HOr.out 2 rfl).1, (blk_cell HOr.out 3 rfl).1, (blk_cell HOr.out 4 rfl).1⟩
      have hpt := hSr.port 0 (by decide) (by decide)
      have HP := Lib.hid hpt
      clear hpt hSr
      go_wp2_with (first
        | (go_at_call 12; go_loud (with_reducible refine HP.out.mono ?_; rintro e w4 ⟨p, rfl, hS4, hb4, hp⟩; (have HO4 := Lib.hid ((hb4.block _ (blk_lt HOr.out)).trans HOr.out)); replace hBr := hBr.trans (hb4.mono hBr.size); clear b0 b1 b2 b3 b4 HOr hb4 hp HP; (obtain ⟨b0, b1, b2, b3, b4⟩ : w4.cell? ⟨w.heap.size, 0, none⟩ = some (.int .i64 o0) ∧ w4.cell? ⟨w.heap.size, 1, none⟩ = some (.int .i64 o1) ∧ w4.cell? ⟨w.heap.size, 2, none⟩ = some (.int .i64 o2) ∧ w4.cell? ⟨w.heap.size, 3, none⟩ = some (.int .u64 o3) ∧ w4.cell? ⟨w.heap.size, 4, none⟩ = some (.int .u64 o4) := ⟨(blk_cell HO4.out 0 rfl).1, (blk_cell HO4.out 1 rfl).1, (blk_cell HO4.out 2 rfl).1, (blk_cell HO4.out 3 rfl).1, (blk_cell HO4.out 4 rfl).1⟩); (have hg := hS4.grant 0 rfl); (have HG := Lib.hid hg); clear hg hS4))
        | (go_at_call 13; go_loud (with_reducible refine HG.out.mono ?_; rintro e w5 ⟨rfl, hD5⟩; clear HG; (have HO5 := Lib.hid ((hD5.fr.block _ (blk_lt HO4.out) (not_touch HO4.out hoc (by decide))).trans HO4.out)); replace hBr := hBr.trans hD5.bel; clear b0 b1 b2 b3 b4 HO4; (obtain ⟨b0, b1, b2, b3, b4⟩ : w5.cell? ⟨w.heap.size, 0, none⟩ = some (.int .i64 o0) ∧ w5.cell? ⟨w.heap.size, 1, none⟩ = some (.int .i64 o1) ∧ w5.cell? ⟨w.heap.size, 2, none⟩ = some (.int .i64 o2) ∧ w5.cell? ⟨w.heap.size, 3, none⟩ = some (.int .u64 o3) ∧ w5.cell? ⟨w.heap.size, 4, none⟩ = some (.int .u64 o4) := ⟨(blk_cell HO5.out 0 rfl).1, (blk_cell HO5.out 1 rfl).1, (blk_cell HO5.out 2 rfl).1, (blk_cell HO5.out 3 rfl).1, (blk_cell HO5.out 4 rfl).1⟩); (have HS5 := Lib.hid hD5.sys); clear hD5))
        | (go_at_call 14; go_loud (rw [HAT.out]; (have hsw := HS5.out.swap 0 (at_ : Int) o4 rfl (Nat.zero_le _)); rw [swap_step l at_ o4 hatl] at hsw; (obtain ⟨x0, hx0⟩ : ∃ x0, x0 = l.getD at_ 0 := ⟨_, rfl⟩); (obtain ⟨m, hm⟩ : ∃ m, m = l.set at_ o4 := ⟨_, rfl⟩); (have hml : m.length = l.length := by rw [hm]; simp); rw [← hx0, ← hm] at hsw; (have HX0 := Lib.hid hx0); (have HM := Lib.hid hm); (have HML := Lib.hid hml); clear hx0 hm hml; (with_reducible refine hsw.mono ?_); clear hsw; rintro e w6 ⟨rfl, hD6⟩; (have HO6 := Lib.hid ((hD6.fr.block _ (blk_lt HO5.out) (not_touch HO5.out hoc (by decide))).trans HO5.out)); replace hBr := hBr.trans hD6.bel; clear b0 b1 b2 b3 b4 HO5 HS5; (have HS6 := Lib.hid hD6.sys); clear hD6))
        | (go_at_call 15; go_loud ((have him := HS6.out.image); (with_reducible refine him.mono ?_); clear him; rintro e w7 ⟨v, rfl, hown, hF7⟩; (have hb7 := frBel hF7); (have HO7 := Lib.hid ((hb7.block _ (blk_lt HO6.out)).trans HO6.out)); replace hBr := hBr.trans (hb7.mono hBr.size); (have HS7 := Lib.hid (HS6.out.still hF7)); clear HS6 HO6 hF7 hb7; (have hown2 : w7.ownsRow w6.heap.size 23 1 v m.length (m.map (Value.int .u64)) := hown); (obtain ⟨g, cap, rfl, hg, hcap, ⟨cells, hgb⟩, hgc⟩ := own_read hown2 (by rw [HML.out]; omega)); rw [HML.out] at hcap hgc; rw [HML.out]; (have HGC := Lib.hid hgc); (have HGB := Lib.hid hgb); clear hown hown2 hgc hgb)))
      go_loop [12] (fun i => ∃ k : Nat, k ≤ l.length ∧ i = .int .i64 k) (fun i => l.length - (intOf i).toNat)
      case atStart => exact ⟨0, Nat.zero_le _, rfl⟩
      case round =>
        obtain ⟨k, hk2, rfl⟩ := hrel
        by_cases hkl2 : k < l.length
        · obtain ⟨x, hx⟩ : ∃ x, x = l.getD k 0 := ⟨_, rfl⟩
          have hcl : w7.cell? (ad.add k) = some (.int .u64 x) := by rw [hx]; exact (hBr.cell (p := ad.add k) (hlt k)).trans (HC.out k hkl2)
          obtain ⟨b0, b1, b2, b3, b4⟩ : w7.cell? ⟨w.heap.size, 0, none⟩ = some (.int .i64 o0) ∧ w7.cell? ⟨w.heap.size, 1, none⟩ = some (.int .i64 o1) ∧ w7.cell? ⟨w.heap.size, 2, none⟩ = some (.int .i64 o2) ∧ w7.cell? ⟨w.heap.size, 3, none⟩ = some (.int .u64 o3) ∧ w7.cell? ⟨w.heap.size, 4, none⟩ = some (.int .u64 o4) := ⟨(blk_cell HO7.out 0 rfl).1, (blk_cell HO7.out 1 rfl).1, (blk_cell HO7.out 2 rfl).1, (blk_cell HO7.out 3 rfl).1, (blk_cell HO7.out 4 rfl).1⟩
          have hcm := HGC.out k hkl2
          by_cases hka : k = at_
          · subst hka
            have e : m.getD k 0 = o4 := by rw [HM.out]; simp [List.getD_eq_getElem?_getD, hkl2]
            rw [e] at hcm
            clear e hx
            go_wp2
            go_round
            case rel => exact ⟨k + 1, by omega, by go_num⟩
            case measure => simp [intOf]; omega
          · have e : m.getD k 0 = x := by rw [hx, HM.out]; simp [List.getD_eq_getElem?_getD, List.getElem?_set_ne (Ne.symm hka)]
            rw [e] at hcm
            have q1 : ((k : Int) == (at_ : Int)) = false := by simp; omega
            clear e hx
            go_wp2
            go_round
            case rel => exact ⟨k + 1, by omega, by go_num⟩
            case measure => simp [intOf]; omega
        · obtain rfl : k = l.length := by omega
          have hg2 := HS7.out.grant 0 rfl
          have HG2 := Lib.hid hg2
          clear hg2
          go_wp2_with (first
            | (go_at_call 13; go_loud (with_reducible refine HG2.out.mono ?_; rintro e w8 ⟨rfl, hD8⟩; clear HG2; (have HO8 := Lib.hid ((hD8.fr.block _ (blk_lt HO7.out) (not_touch HO7.out hoc (by decide))).trans HO7.out)); replace hBr := hBr.trans hD8.bel; clear HO7; (have HS8 := Lib.hid hD8.sys); clear hD8)))
          obtain ⟨b0, b1, b2, b3, b4⟩ : w8.cell? ⟨w.heap.size, 0, none⟩ = some (.int .i64 o0) ∧ w8.cell? ⟨w.heap.size, 1, none⟩ = some (.int .i64 o1) ∧ w8.cell? ⟨w.heap.size, 2, none⟩ = some (.int .i64 o2) ∧ w8.cell? ⟨w.heap.size, 3, none⟩ = some (.int .u64 o3) ∧ w8.cell? ⟨w.heap.size, 4, none⟩ = some (.int .u64 o4) := ⟨(blk_cell HO8.out 0 rfl).1, (blk_cell HO8.out 1 rfl).1, (blk_cell HO8.out 2 rfl).1, (blk_cell HO8.out 3 rfl).1, (blk_cell HO8.out 4 rfl).1⟩
          have hcl : w8.cell? (ad.add at_) = some (.int .u64 x0) := by rw [HX0.out]; exact (hBr.cell (p := ad.add at_) (hlt at_)).trans (HC.out at_ hatl)
          have hld := HS8.out.drew.load 0 (at_ : Int) rfl (Nat.zero_le _)
          rw [load_step m at_ (by rw [HML.out]; exact hatl), show m.getD at_ 0 = o4 by rw [HM.out]; simp [List.getD_eq_getElem?_getD, hatl]] at hld
          have HLD := Lib.hid hld
          have HO8d := Lib.hid (drew_blk HO8.out)
          have hBd := hBr.drew
          clear hld
          go_region_with (first
            | (go_at_call 16; go_loud (with_reducible refine HLD.out.mono ?_; rintro e w9 ⟨rfl, hD9⟩; (have HO9 := Lib.hid ((hD9.fr.block _ (blk_lt HO8d.out) (not_touch HO8d.out hoc (by decide))).trans HO8d.out)); (have hB9 := hBd.trans hD9.bel); (have b49 := (blk_cell HO9.out 4 (v := .int .u64 o4) rfl).1); (have HS9 := Lib.hid hD9.sys); clear hD9))
            | (go_at_call 17; go_loud ((have hf9 := HS9.out.faults); (with_reducible refine hf9.mono ?_); rintro e w10 ⟨rfl, rfl⟩)))
          all_goals go_wp2
          all_goals go_ret
          all_goals exact ⟨rfl, hB9⟩
end Go.Proofs.Ytneppenmhbjfkaa.Ar
