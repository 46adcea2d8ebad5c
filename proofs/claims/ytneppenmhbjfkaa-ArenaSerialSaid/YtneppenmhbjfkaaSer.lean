/- ArenaSerial, walked. -/
import Derived.Test.YtneppenmhbjfkaaRep
import Derived.StillTailTactics
namespace Go.Proofs.Ytneppenmhbjfkaa.Ar
open Go Go.RowKit Go.Proofs.Ytneppenmhbjfkaa.Hp
open Go.Proofs.YtneppenmhbjfkaaW.PrintWords (Kd Drawn0 rd LeO)
open Go.Proofs.Ytneppenmhbjfkaa.PH
set_option linter.unusedVariables false
set_option linter.unusedSimpArgs false

set_option maxHeartbeats 4000000 in
set_option maxRecDepth 100000 in
theorem serial_out (A : Option Addr) (c0 : Nat) (l : List Int) (A1 : Option Addr) (c1 : Nat) (rows : List S25) (w : World) (h : l.length < 1 ∨ 100 < l.length) :
    Calls Try.prog 8 #[.slice A l.length c0, .slice A1 rows.length c1] w fun e w' => e = .returned (.bool true) ∧ Below w.heap.size w w' := by
  have hB : Below w.heap.size w w := Below.refl _ _
  by_cases h0 : l.length < 1
  · have g0 := decide_eq_true (p := ((l.length : Int) < 1)) (by omega)
    go_enter Try.func8, Try.ntmps8
    go_wp2_with (first | (go_at_call 9; (refine (celledB _).mono ?_; rintro e w2 ⟨rfl, hb⟩; replace hB := hB.trans (hb.mono hB.size); clear hb)))
    go_ret
    exact ⟨rfl, hB⟩
  · have g0 := decide_eq_false (p := ((l.length : Int) < 1)) (by omega)
    have g1 := decide_eq_true (p := (100 < (l.length : Int))) (by omega)
    go_enter Try.func8, Try.ntmps8
    go_wp2_with (first | (go_at_call 9; (refine (celledB _).mono ?_; rintro e w2 ⟨rfl, hb⟩; replace hB := hB.trans (hb.mono hB.size); clear hb)))
    go_ret
    exact ⟨rfl, hB⟩

set_option maxHeartbeats 8000000 in
set_option maxRecDepth 100000 in
theorem serial (A : Option Addr) (c0 : Nat) (l : List Int) (A1 : Option Addr) (c1 : Nat) (rows : List S25) (w : World) (hr : Kd.C (Kd.int .u64) w A l.length l) (hc0 : l.length ≤ c0) (hr1 : Kd.C k25 w A1 rows.length rows) (hc1 : rows.length ≤ c1) :
    Calls Try.prog 8 #[.slice A l.length c0, .slice A1 rows.length c1] w fun e w' => e = .returned (.bool true) ∧ Below w.heap.size w w' := by
  by_cases hout : l.length < 1 ∨ 100 < l.length
  · exact serial_out A c0 l A1 c1 rows w hout
  have h0 : 1 ≤ l.length := by omega
  have h1 : l.length ≤ 100 := by omega
  clear hout
  have g0 := decide_eq_false (p := ((l.length : Int) < 1)) (by omega)
  have g1 := decide_eq_false (p := (100 < (l.length : Int))) (by omega)
  obtain ⟨ad, rfl, hcell⟩ := row_ints hr (by omega)
  have hlt0 : (ad.add 0).block < w.heap.size := World.block_lt_of_cell? w _ (hcell 0 (by omega))
  have hlt : ∀ k, (ad.add k).block < w.heap.size := fun k => by rw [add_blk] at hlt0 ⊢; exact hlt0
  have HC := Lib.hid hcell
  have HR := Lib.hid hr
  have HR1 := Lib.hid hr1
  have hmax : rows.length ≤ 9223372036854775807 := hr1.2.1
  clear hcell hr hr1
  have hB : Below w.heap.size w w := Below.refl _ _
  go_enter Try.func8, Try.ntmps8
  go_wp2_with (first
    | (go_at_call 9; (refine (celledB _).mono ?_; rintro e w2 ⟨rfl, hb⟩; replace hB := hB.trans (hb.mono hB.size); clear hb))
    | (go_at_call 10; (with_reducible refine (sys_new w.heap.size _ l.length true (by omega) (by omega) hB.size).mono ?_; rintro e w3 ⟨a, c, rfl, hS, hb, ha, hc⟩; replace hB := hB.trans (hb.mono hB.size); (have HS := Lib.hid hS); clear hS hb ha hc)))
  have HB := Lib.hid hB
  clear hB
  go_loopw [7] (fun i wr => ∃ k : Nat, k ≤ l.length ∧ i = .int .i64 k ∧ Hid (Sys w.heap.size wr a c ⟨l.take k ++ List.replicate (l.length - k) 0, [], true, 0, 0⟩ []) ∧ Hid (Below w.heap.size w wr)) (fun i _ => l.length - (intOf i).toNat)
  case atStart => exact ⟨0, Nat.zero_le _, rfl, by simpa using HS, HB⟩
  case round =>
    obtain ⟨k, hk, rfl, HSr, HBr⟩ := hrel
    clear HS HB
    by_cases hkl : k < l.length
    · obtain ⟨x, hx⟩ : ∃ x, x = l.getD k 0 := ⟨_, rfl⟩
      have hcl : wr.cell? (ad.add k) = some (.int .u64 x) := by rw [hx]; exact (HBr.out.cell (p := ad.add k) (hlt k)).trans (HC.out k hkl)
      have hhas : AS.has ⟨l.take k ++ List.replicate (l.length - k) 0, [], true, 0, 0⟩ k = true := decide_eq_true ⟨by omega, by simp; omega⟩
      have hst : AS.poked ⟨l.take k ++ List.replicate (l.length - k) 0, [], true, 0, 0⟩ k x = ⟨l.take (k + 1) ++ List.replicate (l.length - (k + 1)) 0, [], true, 0, 0⟩ := by
        rw [hx]
        exact poke_stepK true l k hkl
      have hpk := HSr.out.poke (k : Int) x hhas
      rw [hst] at hpk
      have HP := Lib.hid hpk
      clear hpk hhas hx hst HSr
      go_wp2_with (first | (go_at_call 11; (with_reducible refine HP.out.mono ?_; rintro e w4 ⟨rfl, hD⟩)))
      go_roundw
      case rel => exact ⟨k + 1, by omega, by go_num, Lib.hid hD.sys, Lib.hid (HBr.out.trans hD.bel)⟩
      case measure => simp [intOf]; omega
    · obtain rfl : k = l.length := by omega
      rw [List.take_length, Nat.sub_self, List.replicate_zero, List.append_nil] at HSr
      have T1 : Hid True := Lib.hid trivial
      have hinv : Inv l 0 ⟨l, [], true, 0, 0⟩ := ⟨rfl, rfl, by simp, by simp, by simp, rfl, rfl⟩
      have HI := Lib.hid hinv
      clear hinv
      go_wp2_with (first
        | (go_at_call 12; (first | (clear T1; with_reducible refine (HSr.out.port 1 (by decide) (by decide)).mono ?_; rintro e w4 ⟨p, rfl, hS2, hb, hp⟩; replace HBr := Lib.hid (HBr.out.trans (hb.mono HBr.out.size)); (have HS2 := Lib.hid hS2); clear HSr hS2 hb hp) | (with_reducible refine (HS2.out.port 2 (by decide) (by decide)).mono ?_; rintro e w5 ⟨p2, rfl, hS3, hb, hp⟩; replace HBr := Lib.hid (HBr.out.trans (hb.mono HBr.out.size)); (have HS3 := Lib.hid hS3); clear HS2 hS3 hb hp))))
      go_loopw [11] (fun i wr => ∃ (k : Nat) (s : AS) (b1 b2 : Bool), k ≤ rows.length ∧ k ≤ 200 ∧ i = .int .i64 k ∧ Hid (Sys w.heap.size wr a c s [(p, 1, b1), (p2, 2, b2)]) ∧ Hid (Below w.heap.size w wr) ∧ Hid (Inv l k s)) (fun i _ => 200 - (intOf i).toNat)
      case atStart => exact ⟨0, _, _, _, Nat.zero_le _, Nat.zero_le _, rfl, HS3, HBr, HI⟩
      case round =>
        obtain ⟨k, s, b1, b2, hk4, hk2, rfl, HS, HB, HIs⟩ := hrel
        clear HS3 HBr HI
        by_cases hend : k < rows.length ∧ k < 200
        · obtain ⟨hkr, hk3⟩ := hend
          have HCr := Kd.C_below HR1.out HB.out
          obtain ⟨ad1, hA, r0, r1, r2, r3, r4⟩ := at_T25 HCr (k : Int) (by omega) (by omega)
          have hblt : (ad1.add (((k : Int)).toNat * 5)).block < w.heap.size := by
            obtain ⟨ad2, hA2, q0, _⟩ := at_T25 HR1.out (k : Int) (by omega) (by omega)
            have := World.block_lt_of_cell? w _ q0
            obtain rfl : ad1 = ad2 := by rw [hA] at hA2; exact Option.some.inj hA2
            exact this
          clear HCr
          subst hA
          rw [Int.toNat_natCast] at r0 r1 r2 r3 r4 hblt
          obtain ⟨x, hx⟩ : ∃ x, x = rd_T25 rows (k : Int) := ⟨_, rfl⟩
          rw [← hx] at r0 r1 r2 r3 r4
          clear hx
          obtain ⟨f0, f1, f2, f3, f4⟩ := x
          simp only at r0 r1 r2 r3 r4
          by_cases hcase : f1 = 1 ∨ f1 = 2 ∨ f1 = 3 ∨ f1 = 4 ∨ f1 = 5 ∨ f1 = 6
          · by_cases hodd : f0.tmod 2 = 0
            · have ho : (f0.tmod 2 != 0) = false := by simpa using hodd
              clear hodd
              rcases hcase with rfl | rfl | rfl | rfl | rfl | rfl
              · go_wp2_with (first | (go_at_call 13; ((have hm := HS.out.grant 0 rfl); (with_reducible refine hm.mono ?_); clear hm; rintro e w6 ⟨rfl, hD5⟩; replace HB := Lib.hid (HB.out.trans hD5.bel); replace HS := Lib.hid hD5.sys; (have q0 := (hD5.bel.cell (p := ad1.add (k * 5)) hblt).trans r0); (have q1 := (hD5.bel.cell (p := ⟨(ad1.add (k * 5)).block, (ad1.add (k * 5)).off + 1, none⟩) hblt).trans r1); (have q2 := (hD5.bel.cell (p := ⟨(ad1.add (k * 5)).block, (ad1.add (k * 5)).off + 2, none⟩) hblt).trans r2); (have q3 := (hD5.bel.cell (p := ⟨(ad1.add (k * 5)).block, (ad1.add (k * 5)).off + 3, none⟩) hblt).trans r3); (have q4 := (hD5.bel.cell (p := ⟨(ad1.add (k * 5)).block, (ad1.add (k * 5)).off + 4, none⟩) hblt).trans r4); clear r0 r1 r2 r3 r4; clear hD5)) | (go_at_call 16; ((have hm := HS.out.load 0 f2 rfl (by have := HIs.out.len; omega)); (obtain ⟨s', hs'⟩ : ∃ s', s' = (s.acc true 1 1 f2 0 0).1 := ⟨_, rfl⟩); rw [← hs'] at hm; (have hI' := HIs.out.acc (by omega) true 1 1 f2 0 0 (by decide) (by decide)); rw [← hs'] at hI'; clear hs'; replace HIs := Lib.hid hI'; clear hI'; (with_reducible refine hm.mono ?_); clear hm; rintro e w7 ⟨rfl, hD7⟩; replace HB := Lib.hid (HB.out.trans hD7.bel); replace HS := Lib.hid hD7.sys; clear hD7)))
                go_roundw
                case rel => exact ⟨k + 1, _, false, b2, by omega, by omega, by go_num, HS, HB, HIs⟩
                case measure => simp [intOf]; omega
              · go_wp2_with (first | (go_at_call 13; ((have hm := HS.out.grant 0 rfl); (with_reducible refine hm.mono ?_); clear hm; rintro e w6 ⟨rfl, hD5⟩; replace HB := Lib.hid (HB.out.trans hD5.bel); replace HS := Lib.hid hD5.sys; (have q0 := (hD5.bel.cell (p := ad1.add (k * 5)) hblt).trans r0); (have q1 := (hD5.bel.cell (p := ⟨(ad1.add (k * 5)).block, (ad1.add (k * 5)).off + 1, none⟩) hblt).trans r1); (have q2 := (hD5.bel.cell (p := ⟨(ad1.add (k * 5)).block, (ad1.add (k * 5)).off + 2, none⟩) hblt).trans r2); (have q3 := (hD5.bel.cell (p := ⟨(ad1.add (k * 5)).block, (ad1.add (k * 5)).off + 3, none⟩) hblt).trans r3); (have q4 := (hD5.bel.cell (p := ⟨(ad1.add (k * 5)).block, (ad1.add (k * 5)).off + 4, none⟩) hblt).trans r4); clear r0 r1 r2 r3 r4; clear hD5)))
                go_still_tail 11, (by kernel_rfl)
                change wpList _ _ _ _ _ (World.drew _)
                replace HB := Lib.hid HB.out.drew
                replace HS := Lib.hid HS.out.drew
                go_wp2_with (first | (go_at_call 19; ((have hm := HS.out.store 0 f2 f4 rfl (by have := HIs.out.len; omega)); (obtain ⟨s', hs'⟩ : ∃ s', s' = (s.acc true 1 2 f2 0 f4).1 := ⟨_, rfl⟩); rw [← hs'] at hm; (have hI' := HIs.out.acc (by omega) true 1 2 f2 0 f4 (by decide) (by decide)); rw [← hs'] at hI'; clear hs'; replace HIs := Lib.hid hI'; clear hI'; (with_reducible refine hm.mono ?_); clear hm; rintro e w7 ⟨rfl, hD7⟩; replace HB := Lib.hid (HB.out.trans hD7.bel); replace HS := Lib.hid hD7.sys; clear hD7)))
                go_roundw
                case rel => exact ⟨k + 1, _, false, b2, by omega, by omega, by go_num, HS, HB, HIs⟩
                case measure => simp [intOf]; omega
              · go_wp2_with (first | (go_at_call 13; ((have hm := HS.out.grant 0 rfl); (with_reducible refine hm.mono ?_); clear hm; rintro e w6 ⟨rfl, hD5⟩; replace HB := Lib.hid (HB.out.trans hD5.bel); replace HS := Lib.hid hD5.sys; (have q0 := (hD5.bel.cell (p := ad1.add (k * 5)) hblt).trans r0); (have q1 := (hD5.bel.cell (p := ⟨(ad1.add (k * 5)).block, (ad1.add (k * 5)).off + 1, none⟩) hblt).trans r1); (have q2 := (hD5.bel.cell (p := ⟨(ad1.add (k * 5)).block, (ad1.add (k * 5)).off + 2, none⟩) hblt).trans r2); (have q3 := (hD5.bel.cell (p := ⟨(ad1.add (k * 5)).block, (ad1.add (k * 5)).off + 3, none⟩) hblt).trans r3); (have q4 := (hD5.bel.cell (p := ⟨(ad1.add (k * 5)).block, (ad1.add (k * 5)).off + 4, none⟩) hblt).trans r4); clear r0 r1 r2 r3 r4; clear hD5)))
                go_still_tail 11, (by kernel_rfl)
                change wpList _ _ _ _ _ (World.drew _)
                replace HB := Lib.hid HB.out.drew
                replace HS := Lib.hid HS.out.drew
                go_wp2_with (first | (go_at_call 14; ((have hm := HS.out.swap 0 f2 f4 rfl (by have := HIs.out.len; omega)); (obtain ⟨s', hs'⟩ : ∃ s', s' = (s.acc true 1 3 f2 0 f4).1 := ⟨_, rfl⟩); rw [← hs'] at hm; (have hI' := HIs.out.acc (by omega) true 1 3 f2 0 f4 (by decide) (by decide)); rw [← hs'] at hI'; clear hs'; replace HIs := Lib.hid hI'; clear hI'; (with_reducible refine hm.mono ?_); clear hm; rintro e w7 ⟨rfl, hD7⟩; replace HB := Lib.hid (HB.out.trans hD7.bel); replace HS := Lib.hid hD7.sys; clear hD7)))
                go_roundw
                case rel => exact ⟨k + 1, _, false, b2, by omega, by omega, by go_num, HS, HB, HIs⟩
                case measure => simp [intOf]; omega
              · go_wp2_with (first | (go_at_call 13; ((have hm := HS.out.grant 0 rfl); (with_reducible refine hm.mono ?_); clear hm; rintro e w6 ⟨rfl, hD5⟩; replace HB := Lib.hid (HB.out.trans hD5.bel); replace HS := Lib.hid hD5.sys; (have q0 := (hD5.bel.cell (p := ad1.add (k * 5)) hblt).trans r0); (have q1 := (hD5.bel.cell (p := ⟨(ad1.add (k * 5)).block, (ad1.add (k * 5)).off + 1, none⟩) hblt).trans r1); (have q2 := (hD5.bel.cell (p := ⟨(ad1.add (k * 5)).block, (ad1.add (k * 5)).off + 2, none⟩) hblt).trans r2); (have q3 := (hD5.bel.cell (p := ⟨(ad1.add (k * 5)).block, (ad1.add (k * 5)).off + 3, none⟩) hblt).trans r3); (have q4 := (hD5.bel.cell (p := ⟨(ad1.add (k * 5)).block, (ad1.add (k * 5)).off + 4, none⟩) hblt).trans r4); clear r0 r1 r2 r3 r4; clear hD5)))
                go_still_tail 16, (by kernel_rfl)
                change wpList _ _ _ _ _ (World.drew _)
                replace HB := Lib.hid HB.out.drew
                replace HS := Lib.hid HS.out.drew
                go_wp2_with (first | (go_at_call 20; ((have hm := HS.out.cas 0 f2 f3 f4 rfl (by have := HIs.out.len; omega)); (obtain ⟨s', hs'⟩ : ∃ s', s' = (s.acc true 1 4 f2 f3 f4).1 := ⟨_, rfl⟩); rw [← hs'] at hm; (have hI' := HIs.out.acc (by omega) true 1 4 f2 f3 f4 (by decide) (by decide)); rw [← hs'] at hI'; clear hs'; replace HIs := Lib.hid hI'; clear hI'; (with_reducible refine hm.mono ?_); clear hm; rintro e w7 ⟨rfl, hD7⟩; replace HB := Lib.hid (HB.out.trans hD7.bel); replace HS := Lib.hid hD7.sys; clear hD7)))
                go_roundw
                case rel => exact ⟨k + 1, _, false, b2, by omega, by omega, by go_num, HS, HB, HIs⟩
                case measure => simp [intOf]; omega
              · go_wp2_with (first | (go_at_call 13; ((have hm := HS.out.grant 0 rfl); (with_reducible refine hm.mono ?_); clear hm; rintro e w6 ⟨rfl, hD5⟩; replace HB := Lib.hid (HB.out.trans hD5.bel); replace HS := Lib.hid hD5.sys; (have q0 := (hD5.bel.cell (p := ad1.add (k * 5)) hblt).trans r0); (have q1 := (hD5.bel.cell (p := ⟨(ad1.add (k * 5)).block, (ad1.add (k * 5)).off + 1, none⟩) hblt).trans r1); (have q2 := (hD5.bel.cell (p := ⟨(ad1.add (k * 5)).block, (ad1.add (k * 5)).off + 2, none⟩) hblt).trans r2); (have q3 := (hD5.bel.cell (p := ⟨(ad1.add (k * 5)).block, (ad1.add (k * 5)).off + 3, none⟩) hblt).trans r3); (have q4 := (hD5.bel.cell (p := ⟨(ad1.add (k * 5)).block, (ad1.add (k * 5)).off + 4, none⟩) hblt).trans r4); clear r0 r1 r2 r3 r4; clear hD5)))
                go_still_tail 11, (by kernel_rfl)
                change wpList _ _ _ _ _ (World.drew _)
                replace HB := Lib.hid HB.out.drew
                replace HS := Lib.hid HS.out.drew
                go_wp2_with (first | (go_at_call 21; ((have hm := HS.out.or_ 0 f2 f4 rfl (by have := HIs.out.len; omega)); (obtain ⟨s', hs'⟩ : ∃ s', s' = (s.acc true 1 5 f2 0 f4).1 := ⟨_, rfl⟩); rw [← hs'] at hm; (have hI' := HIs.out.acc (by omega) true 1 5 f2 0 f4 (by decide) (by decide)); rw [← hs'] at hI'; clear hs'; replace HIs := Lib.hid hI'; clear hI'; (with_reducible refine hm.mono ?_); clear hm; rintro e w7 ⟨rfl, hD7⟩; replace HB := Lib.hid (HB.out.trans hD7.bel); replace HS := Lib.hid hD7.sys; clear hD7)))
                go_roundw
                case rel => exact ⟨k + 1, _, false, b2, by omega, by omega, by go_num, HS, HB, HIs⟩
                case measure => simp [intOf]; omega
              · go_wp2_with (first | (go_at_call 13; ((have hm := HS.out.grant 0 rfl); (with_reducible refine hm.mono ?_); clear hm; rintro e w6 ⟨rfl, hD5⟩; replace HB := Lib.hid (HB.out.trans hD5.bel); replace HS := Lib.hid hD5.sys; (have q0 := (hD5.bel.cell (p := ad1.add (k * 5)) hblt).trans r0); (have q1 := (hD5.bel.cell (p := ⟨(ad1.add (k * 5)).block, (ad1.add (k * 5)).off + 1, none⟩) hblt).trans r1); (have q2 := (hD5.bel.cell (p := ⟨(ad1.add (k * 5)).block, (ad1.add (k * 5)).off + 2, none⟩) hblt).trans r2); (have q3 := (hD5.bel.cell (p := ⟨(ad1.add (k * 5)).block, (ad1.add (k * 5)).off + 3, none⟩) hblt).trans r3); (have q4 := (hD5.bel.cell (p := ⟨(ad1.add (k * 5)).block, (ad1.add (k * 5)).off + 4, none⟩) hblt).trans r4); clear r0 r1 r2 r3 r4; clear hD5)))
                go_still_tail 11, (by kernel_rfl)
                change wpList _ _ _ _ _ (World.drew _)
                replace HB := Lib.hid HB.out.drew
                replace HS := Lib.hid HS.out.drew
                go_wp2_with (first | (go_at_call 22; ((have hm := HS.out.and_ 0 f2 f4 rfl (by have := HIs.out.len; omega)); (obtain ⟨s', hs'⟩ : ∃ s', s' = (s.acc true 1 6 f2 0 f4).1 := ⟨_, rfl⟩); rw [← hs'] at hm; (have hI' := HIs.out.acc (by omega) true 1 6 f2 0 f4 (by decide) (by decide)); rw [← hs'] at hI'; clear hs'; replace HIs := Lib.hid hI'; clear hI'; (with_reducible refine hm.mono ?_); clear hm; rintro e w7 ⟨rfl, hD7⟩; replace HB := Lib.hid (HB.out.trans hD7.bel); replace HS := Lib.hid hD7.sys; clear hD7)))
                go_roundw
                case rel => exact ⟨k + 1, _, false, b2, by omega, by omega, by go_num, HS, HB, HIs⟩
                case measure => simp [intOf]; omega
            · have ho : (f0.tmod 2 != 0) = true := by simpa using hodd
              clear hodd
              rcases hcase with rfl | rfl | rfl | rfl | rfl | rfl
              · go_wp2_with (first | (go_at_call 13; ((have hm := HS.out.grant 1 rfl); (with_reducible refine hm.mono ?_); clear hm; rintro e w6 ⟨rfl, hD5⟩; replace HB := Lib.hid (HB.out.trans hD5.bel); replace HS := Lib.hid hD5.sys; (have q0 := (hD5.bel.cell (p := ad1.add (k * 5)) hblt).trans r0); (have q1 := (hD5.bel.cell (p := ⟨(ad1.add (k * 5)).block, (ad1.add (k * 5)).off + 1, none⟩) hblt).trans r1); (have q2 := (hD5.bel.cell (p := ⟨(ad1.add (k * 5)).block, (ad1.add (k * 5)).off + 2, none⟩) hblt).trans r2); (have q3 := (hD5.bel.cell (p := ⟨(ad1.add (k * 5)).block, (ad1.add (k * 5)).off + 3, none⟩) hblt).trans r3); (have q4 := (hD5.bel.cell (p := ⟨(ad1.add (k * 5)).block, (ad1.add (k * 5)).off + 4, none⟩) hblt).trans r4); clear r0 r1 r2 r3 r4; clear hD5)) | (go_at_call 16; ((have hm := HS.out.load 1 f2 rfl (by have := HIs.out.len; omega)); (obtain ⟨s', hs'⟩ : ∃ s', s' = (s.acc true 2 1 f2 0 0).1 := ⟨_, rfl⟩); rw [← hs'] at hm; (have hI' := HIs.out.acc (by omega) true 2 1 f2 0 0 (by decide) (by decide)); rw [← hs'] at hI'; clear hs'; replace HIs := Lib.hid hI'; clear hI'; (with_reducible refine hm.mono ?_); clear hm; rintro e w7 ⟨rfl, hD7⟩; replace HB := Lib.hid (HB.out.trans hD7.bel); replace HS := Lib.hid hD7.sys; clear hD7)))
                go_roundw
                case rel => exact ⟨k + 1, _, b1, false, by omega, by omega, by go_num, HS, HB, HIs⟩
                case measure => simp [intOf]; omega
              · go_wp2_with (first | (go_at_call 13; ((have hm := HS.out.grant 1 rfl); (with_reducible refine hm.mono ?_); clear hm; rintro e w6 ⟨rfl, hD5⟩; replace HB := Lib.hid (HB.out.trans hD5.bel); replace HS := Lib.hid hD5.sys; (have q0 := (hD5.bel.cell (p := ad1.add (k * 5)) hblt).trans r0); (have q1 := (hD5.bel.cell (p := ⟨(ad1.add (k * 5)).block, (ad1.add (k * 5)).off + 1, none⟩) hblt).trans r1); (have q2 := (hD5.bel.cell (p := ⟨(ad1.add (k * 5)).block, (ad1.add (k * 5)).off + 2, none⟩) hblt).trans r2); (have q3 := (hD5.bel.cell (p := ⟨(ad1.add (k * 5)).block, (ad1.add (k * 5)).off + 3, none⟩) hblt).trans r3); (have q4 := (hD5.bel.cell (p := ⟨(ad1.add (k * 5)).block, (ad1.add (k * 5)).off + 4, none⟩) hblt).trans r4); clear r0 r1 r2 r3 r4; clear hD5)))
                go_still_tail 11, (by kernel_rfl)
                change wpList _ _ _ _ _ (World.drew _)
                replace HB := Lib.hid HB.out.drew
                replace HS := Lib.hid HS.out.drew
                go_wp2_with (first | (go_at_call 19; ((have hm := HS.out.store 1 f2 f4 rfl (by have := HIs.out.len; omega)); (obtain ⟨s', hs'⟩ : ∃ s', s' = (s.acc true 2 2 f2 0 f4).1 := ⟨_, rfl⟩); rw [← hs'] at hm; (have hI' := HIs.out.acc (by omega) true 2 2 f2 0 f4 (by decide) (by decide)); rw [← hs'] at hI'; clear hs'; replace HIs := Lib.hid hI'; clear hI'; (with_reducible refine hm.mono ?_); clear hm; rintro e w7 ⟨rfl, hD7⟩; replace HB := Lib.hid (HB.out.trans hD7.bel); replace HS := Lib.hid hD7.sys; clear hD7)))
                go_roundw
                case rel => exact ⟨k + 1, _, b1, false, by omega, by omega, by go_num, HS, HB, HIs⟩
                case measure => simp [intOf]; omega
              · go_wp2_with (first | (go_at_call 13; ((have hm := HS.out.grant 1 rfl); (with_reducible refine hm.mono ?_); clear hm; rintro e w6 ⟨rfl, hD5⟩; replace HB := Lib.hid (HB.out.trans hD5.bel); replace HS := Lib.hid hD5.sys; (have q0 := (hD5.bel.cell (p := ad1.add (k * 5)) hblt).trans r0); (have q1 := (hD5.bel.cell (p := ⟨(ad1.add (k * 5)).block, (ad1.add (k * 5)).off + 1, none⟩) hblt).trans r1); (have q2 := (hD5.bel.cell (p := ⟨(ad1.add (k * 5)).block, (ad1.add (k * 5)).off + 2, none⟩) hblt).trans r2); (have q3 := (hD5.bel.cell (p := ⟨(ad1.add (k * 5)).block, (ad1.add (k * 5)).off + 3, none⟩) hblt).trans r3); (have q4 := (hD5.bel.cell (p := ⟨(ad1.add (k * 5)).block, (ad1.add (k * 5)).off + 4, none⟩) hblt).trans r4); clear r0 r1 r2 r3 r4; clear hD5)))
                go_still_tail 11, (by kernel_rfl)
                change wpList _ _ _ _ _ (World.drew _)
                replace HB := Lib.hid HB.out.drew
                replace HS := Lib.hid HS.out.drew
                go_wp2_with (first | (go_at_call 14; ((have hm := HS.out.swap 1 f2 f4 rfl (by have := HIs.out.len; omega)); (obtain ⟨s', hs'⟩ : ∃ s', s' = (s.acc true 2 3 f2 0 f4).1 := ⟨_, rfl⟩); rw [← hs'] at hm; (have hI' := HIs.out.acc (by omega) true 2 3 f2 0 f4 (by decide) (by decide)); rw [← hs'] at hI'; clear hs'; replace HIs := Lib.hid hI'; clear hI'; (with_reducible refine hm.mono ?_); clear hm; rintro e w7 ⟨rfl, hD7⟩; replace HB := Lib.hid (HB.out.trans hD7.bel); replace HS := Lib.hid hD7.sys; clear hD7)))
                go_roundw
                case rel => exact ⟨k + 1, _, b1, false, by omega, by omega, by go_num, HS, HB, HIs⟩
                case measure => simp [intOf]; omega
              · go_wp2_with (first | (go_at_call 13; ((have hm := HS.out.grant 1 rfl); (with_reducible refine hm.mono ?_); clear hm; rintro e w6 ⟨rfl, hD5⟩; replace HB := Lib.hid (HB.out.trans hD5.bel); replace HS := Lib.hid hD5.sys; (have q0 := (hD5.bel.cell (p := ad1.add (k * 5)) hblt).trans r0); (have q1 := (hD5.bel.cell (p := ⟨(ad1.add (k * 5)).block, (ad1.add (k * 5)).off + 1, none⟩) hblt).trans r1); (have q2 := (hD5.bel.cell (p := ⟨(ad1.add (k * 5)).block, (ad1.add (k * 5)).off + 2, none⟩) hblt).trans r2); (have q3 := (hD5.bel.cell (p := ⟨(ad1.add (k * 5)).block, (ad1.add (k * 5)).off + 3, none⟩) hblt).trans r3); (have q4 := (hD5.bel.cell (p := ⟨(ad1.add (k * 5)).block, (ad1.add (k * 5)).off + 4, none⟩) hblt).trans r4); clear r0 r1 r2 r3 r4; clear hD5)))
                go_still_tail 16, (by kernel_rfl)
                change wpList _ _ _ _ _ (World.drew _)
                replace HB := Lib.hid HB.out.drew
                replace HS := Lib.hid HS.out.drew
                go_wp2_with (first | (go_at_call 20; ((have hm := HS.out.cas 1 f2 f3 f4 rfl (by have := HIs.out.len; omega)); (obtain ⟨s', hs'⟩ : ∃ s', s' = (s.acc true 2 4 f2 f3 f4).1 := ⟨_, rfl⟩); rw [← hs'] at hm; (have hI' := HIs.out.acc (by omega) true 2 4 f2 f3 f4 (by decide) (by decide)); rw [← hs'] at hI'; clear hs'; replace HIs := Lib.hid hI'; clear hI'; (with_reducible refine hm.mono ?_); clear hm; rintro e w7 ⟨rfl, hD7⟩; replace HB := Lib.hid (HB.out.trans hD7.bel); replace HS := Lib.hid hD7.sys; clear hD7)))
                go_roundw
                case rel => exact ⟨k + 1, _, b1, false, by omega, by omega, by go_num, HS, HB, HIs⟩
                case measure => simp [intOf]; omega
              · go_wp2_with (first | (go_at_call 13; ((have hm := HS.out.grant 1 rfl); (with_reducible refine hm.mono ?_); clear hm; rintro e w6 ⟨rfl, hD5⟩; replace HB := Lib.hid (HB.out.trans hD5.bel); replace HS := Lib.hid hD5.sys; (have q0 := (hD5.bel.cell (p := ad1.add (k * 5)) hblt).trans r0); (have q1 := (hD5.bel.cell (p := ⟨(ad1.add (k * 5)).block, (ad1.add (k * 5)).off + 1, none⟩) hblt).trans r1); (have q2 := (hD5.bel.cell (p := ⟨(ad1.add (k * 5)).block, (ad1.add (k * 5)).off + 2, none⟩) hblt).trans r2); (have q3 := (hD5.bel.cell (p := ⟨(ad1.add (k * 5)).block, (ad1.add (k * 5)).off + 3, none⟩) hblt).trans r3); (have q4 := (hD5.bel.cell (p := ⟨(ad1.add (k * 5)).block, (ad1.add (k * 5)).off + 4, none⟩) hblt).trans r4); clear r0 r1 r2 r3 r4; clear hD5)))
                go_still_tail 11, (by kernel_rfl)
                change wpList _ _ _ _ _ (World.drew _)
                replace HB := Lib.hid HB.out.drew
                replace HS := Lib.hid HS.out.drew
                go_wp2_with (first | (go_at_call 21; ((have hm := HS.out.or_ 1 f2 f4 rfl (by have := HIs.out.len; omega)); (obtain ⟨s', hs'⟩ : ∃ s', s' = (s.acc true 2 5 f2 0 f4).1 := ⟨_, rfl⟩); rw [← hs'] at hm; (have hI' := HIs.out.acc (by omega) true 2 5 f2 0 f4 (by decide) (by decide)); rw [← hs'] at hI'; clear hs'; replace HIs := Lib.hid hI'; clear hI'; (with_reducible refine hm.mono ?_); clear hm; rintro e w7 ⟨rfl, hD7⟩; replace HB := Lib.hid (HB.out.trans hD7.bel); replace HS := Lib.hid hD7.sys; clear hD7)))
                go_roundw
                case rel => exact ⟨k + 1, _, b1, false, by omega, by omega, by go_num, HS, HB, HIs⟩
                case measure => simp [intOf]; omega
              · go_wp2_with (first | (go_at_call 13; ((have hm := HS.out.grant 1 rfl); (with_reducible refine hm.mono ?_); clear hm; rintro e w6 ⟨rfl, hD5⟩; replace HB := Lib.hid (HB.out.trans hD5.bel); replace HS := Lib.hid hD5.sys; (have q0 := (hD5.bel.cell (p := ad1.add (k * 5)) hblt).trans r0); (have q1 := (hD5.bel.cell (p := ⟨(ad1.add (k * 5)).block, (ad1.add (k * 5)).off + 1, none⟩) hblt).trans r1); (have q2 := (hD5.bel.cell (p := ⟨(ad1.add (k * 5)).block, (ad1.add (k * 5)).off + 2, none⟩) hblt).trans r2); (have q3 := (hD5.bel.cell (p := ⟨(ad1.add (k * 5)).block, (ad1.add (k * 5)).off + 3, none⟩) hblt).trans r3); (have q4 := (hD5.bel.cell (p := ⟨(ad1.add (k * 5)).block, (ad1.add (k * 5)).off + 4, none⟩) hblt).trans r4); clear r0 r1 r2 r3 r4; clear hD5)))
                go_still_tail 11, (by kernel_rfl)
                change wpList _ _ _ _ _ (World.drew _)
                replace HB := Lib.hid HB.out.drew
                replace HS := Lib.hid HS.out.drew
                go_wp2_with (first | (go_at_call 22; ((have hm := HS.out.and_ 1 f2 f4 rfl (by have := HIs.out.len; omega)); (obtain ⟨s', hs'⟩ : ∃ s', s' = (s.acc true 2 6 f2 0 f4).1 := ⟨_, rfl⟩); rw [← hs'] at hm; (have hI' := HIs.out.acc (by omega) true 2 6 f2 0 f4 (by decide) (by decide)); rw [← hs'] at hI'; clear hs'; replace HIs := Lib.hid hI'; clear hI'; (with_reducible refine hm.mono ?_); clear hm; rintro e w7 ⟨rfl, hD7⟩; replace HB := Lib.hid (HB.out.trans hD7.bel); replace HS := Lib.hid hD7.sys; clear hD7)))
                go_roundw
                case rel => exact ⟨k + 1, _, b1, false, by omega, by omega, by go_num, HS, HB, HIs⟩
                case measure => simp [intOf]; omega
          · have n1 : (f1 == 1) = false := by simp; omega
            have n2 : (f1 == 2) = false := by simp; omega
            have n3 : (f1 == 3) = false := by simp; omega
            have n4 : (f1 == 4) = false := by simp; omega
            have n5 : (f1 == 5) = false := by simp; omega
            have n6 : (f1 == 6) = false := by simp; omega
            clear hcase
            by_cases hodd : f0.tmod 2 = 0
            · have ho : (f0.tmod 2 != 0) = false := by simpa using hodd
              clear hodd
              go_wp2_with (first | (go_at_call 13; ((have hm := HS.out.grant 0 rfl); (with_reducible refine hm.mono ?_); clear hm; rintro e w6 ⟨rfl, hD5⟩; replace HB := Lib.hid (HB.out.trans hD5.bel); replace HS := Lib.hid hD5.sys; (have q0 := (hD5.bel.cell (p := ad1.add (k * 5)) hblt).trans r0); (have q1 := (hD5.bel.cell (p := ⟨(ad1.add (k * 5)).block, (ad1.add (k * 5)).off + 1, none⟩) hblt).trans r1); (have q2 := (hD5.bel.cell (p := ⟨(ad1.add (k * 5)).block, (ad1.add (k * 5)).off + 2, none⟩) hblt).trans r2); (have q3 := (hD5.bel.cell (p := ⟨(ad1.add (k * 5)).block, (ad1.add (k * 5)).off + 3, none⟩) hblt).trans r3); (have q4 := (hD5.bel.cell (p := ⟨(ad1.add (k * 5)).block, (ad1.add (k * 5)).off + 4, none⟩) hblt).trans r4); clear r0 r1 r2 r3 r4; clear hD5)))
              go_roundw
              case rel => exact ⟨k + 1, _, true, b2, by omega, by omega, by go_num, HS, HB, Lib.hid HIs.out.next⟩
              case measure => simp [intOf]; omega
            · have ho : (f0.tmod 2 != 0) = true := by simpa using hodd
              clear hodd
              go_wp2_with (first | (go_at_call 13; ((have hm := HS.out.grant 1 rfl); (with_reducible refine hm.mono ?_); clear hm; rintro e w6 ⟨rfl, hD5⟩; replace HB := Lib.hid (HB.out.trans hD5.bel); replace HS := Lib.hid hD5.sys; (have q0 := (hD5.bel.cell (p := ad1.add (k * 5)) hblt).trans r0); (have q1 := (hD5.bel.cell (p := ⟨(ad1.add (k * 5)).block, (ad1.add (k * 5)).off + 1, none⟩) hblt).trans r1); (have q2 := (hD5.bel.cell (p := ⟨(ad1.add (k * 5)).block, (ad1.add (k * 5)).off + 2, none⟩) hblt).trans r2); (have q3 := (hD5.bel.cell (p := ⟨(ad1.add (k * 5)).block, (ad1.add (k * 5)).off + 3, none⟩) hblt).trans r3); (have q4 := (hD5.bel.cell (p := ⟨(ad1.add (k * 5)).block, (ad1.add (k * 5)).off + 4, none⟩) hblt).trans r4); clear r0 r1 r2 r3 r4; clear hD5)))
              go_roundw
              case rel => exact ⟨k + 1, _, b1, true, by omega, by omega, by go_num, HS, HB, Lib.hid HIs.out.next⟩
              case measure => simp [intOf]; omega
        · have hll := HIs.out.len
          have hcl := HIs.out.cl
          have T1 : Hid True := Lib.hid trivial
          obtain ⟨kr, hkr⟩ := replay_all l s.cells s.log HIs.out.rp (by omega) (by omega)
          have HKR := Lib.hid hkr
          obtain ⟨kw, hkw⟩ := words_same s.cells (by omega)
          have HKW := Lib.hid hkw
          obtain ⟨cn, hcn⟩ : ∃ cn, cn = s.log.length := ⟨_, rfl⟩
          have hct := HIs.out.cnt
          rw [← hcn] at hct
          have HCT := Lib.hid hct
          have HCN := Lib.hid hcn
          clear hkr hkw hcn hct
          have hend2 : rows.length ≤ k ∨ 200 ≤ k := by omega
          clear hend
          have hw2 : (rows.length ≤ k) ∨ (k < rows.length ∧ 200 ≤ k) := by omega
          clear hend2
          rcases hw2 with hw2 | ⟨hw2, hw3⟩
          all_goals
            go_wp2_with (first
              | (go_at_call 31; ((have hm := HS.out.logged (by omega)); (with_reducible refine hm.mono ?_); clear hm; rintro e w6 ⟨v6, rfl, hown6, hb6⟩; (obtain ⟨A6, cap6, rfl, hcap6, hc6⟩ := c76_of_own hown6 (by omega)); rw [← HCN.out] at hcap6; rw [← HCN.out]; replace HB := Lib.hid (HB.out.trans (hb6.mono HB.out.size)); replace HS := Lib.hid (HS.out.below hb6); (have HC6 := Lib.hid hc6); clear hown6 hb6 hc6))
              | (go_at_call 25; ((have hm := arena_Replay.calls kr _ c0 l _ cap6 (s.log.map toS) s.cells 0 0 _ (Kd.C_below HR.out HB.out) hc0 HC6.out (by rw [List.length_map, ← HCN.out]; exact hcap6) HKR.out); rw [List.length_map, ← HCN.out] at hm; (with_reducible refine hm.mono ?_); clear hm; rintro e w7 ⟨v7, rfl, hR7, hb7⟩; (obtain ⟨A7, cap7, rfl, hcap7, hc7⟩ := Kd.R_reads hR7); replace HB := Lib.hid (HB.out.trans (hb7.mono HB.out.size)); replace HS := Lib.hid (HS.out.below hb7); (have HC7 := Lib.hid hc7); clear hR7 hb7 hc7))
              | (go_at_call 15; ((have hm := HS.out.image); (with_reducible refine hm.mono ?_); clear hm; rintro e w8 ⟨v8, rfl, hown8, hF8⟩; (obtain ⟨g8, cap8, rfl, hg8, hcap8, ⟨cells8, hgb8⟩, hc8⟩ := imageC (xs := s.cells) hown8 (by omega)); (have hb8 := frBel hF8); (have C7 := Lib.hid (Kd.C_below HC7.out hb8)); (have C8 := Lib.hid (hc8 _ rfl)); replace HB := Lib.hid (HB.out.trans (hb8.mono HB.out.size)); replace HS := Lib.hid (HS.out.below hb8); clear hown8 hF8 hg8 hgb8 hc8 hb8))
              | (go_at_call 24; ((have hm := windrowref01_Words.calls kw _ cap7 s.cells _ cap8 s.cells true _ C7.out hcap7 C8.out hcap8 HKW.out); rw [hcl] at hm; (with_reducible refine hm.mono ?_); clear hm; rintro e w9 ⟨rfl, hd9⟩; (have hb9 := hd9.below); replace HB := Lib.hid (HB.out.trans (hb9.mono HB.out.size)); replace HS := Lib.hid (HS.out.below hb9); clear hd9 hb9 C7 C8))
              | (go_at_call 18; ((have hm := HS.out.count); rw [HCT.out] at hm; (with_reducible refine hm.mono ?_); clear hm; rintro e w10 ⟨rfl, rfl⟩)))
            go_ret
            exact ⟨rfl, HB.out⟩
end Go.Proofs.Ytneppenmhbjfkaa.Ar
