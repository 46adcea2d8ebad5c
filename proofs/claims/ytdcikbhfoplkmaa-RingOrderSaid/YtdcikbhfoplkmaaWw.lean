/- Waiting, of a ring that is right. -/
import Derived.Test.YtdcikbhfoplkmaaPt
namespace Go.Proofs.Ytdcikbhfoplkmaa.Ar
open Go Go.RowKit Go.Proofs.Ytdcikbhfoplkmaa.Hp Go.Proofs.Ytdcikbhfoplkmaa.PH
set_option linter.unusedVariables false
set_option linter.unusedSimpArgs false

/-- The ring of the first thread. -/
structure Vw (s : AS) (R h t : Int) (f : Int → Int) : Prop where
  len : 21 + R ≤ s.cells.length
  hd : s.cells.getD 19 0 = h
  tl : s.cells.getD 20 0 = t
  sl : ∀ j : Int, 0 ≤ j → j < R → s.cells.getD (21 + j).toNat 0 = f j
  nof : s.faults = 0
theorem Vw.has {s : AS} {R h t : Int} {f : Int → Int} (v : Vw s R h t f) {q : Int} (h0 : 0 ≤ q) (h1 : q < 21 + R) : s.has q = true := decide_eq_true ⟨h0, by have := v.len; omega⟩
theorem getD_set2 (l : List Int) (i j : Nat) (v : Int) (hi : i < l.length) : (l.set i v).getD j 0 = if i = j then v else l.getD j 0 := by
  rw [List.getD_eq_getElem?_getD, List.getElem?_set]
  split
  · rename_i e
    subst e
    first | rfl | (rw [if_pos hi]; rfl)
  · rw [List.getD_eq_getElem?_getD]
theorem acc_cells {s : AS} {who kind q want put : Int} (h : s.has q = true) : (s.acc true who kind q want put).1.cells = s.cells.set q.toNat (leftOf kind (s.cells.getD q.toNat 0) want put) ∧ (s.acc true who kind q want put).1.faults = s.faults ∧ (s.acc true who kind q want put).2 = s.cells.getD q.toNat 0 := by
  unfold AS.acc
  rw [if_pos ⟨rfl, h⟩]
  exact ⟨rfl, rfl, rfl⟩
theorem Vw.load {s : AS} {R h t : Int} {f : Int → Int} (v : Vw s R h t f) {q : Int} (h0 : 0 ≤ q) (h1 : q < 21 + R) (who want put : Int) : Vw (s.acc true who 1 q want put).1 R h t f := by
  have hc := acc_load s true who q want put
  have ha := acc_cells (who := who) (kind := 1) (want := want) (put := put) (v.has h0 h1)
  exact ⟨by rw [hc]; exact v.len, by rw [hc]; exact v.hd, by rw [hc]; exact v.tl, by rw [hc]; exact v.sl, ha.2.1.trans v.nof⟩
theorem Vw.store {s : AS} {R h t : Int} {f : Int → Int} (v : Vw s R h t f) {q : Int} (h0 : 0 ≤ q) (h1 : q < 21 + R) (who x : Int) :
    Vw (s.acc true who 2 q 0 x).1 R (if q = 19 then x else h) (if q = 20 then x else t) (fun j => if q = 21 + j then x else f j) := by
  have ha := acc_cells (who := who) (kind := 2) (want := 0) (put := x) (v.has h0 h1)
  have hl := v.len
  have e : leftOf 2 (s.cells.getD q.toNat 0) 0 x = x := rfl
  rw [e] at ha
  refine ⟨by rw [ha.1, List.length_set]; exact hl, ?_, ?_, fun j j0 j1 => ?_, ha.2.1.trans v.nof⟩
  · rw [ha.1, getD_set2 _ _ _ _ (by omega)]
    by_cases hq : q = 19
    · rw [if_pos (by omega), if_pos hq]
    · rw [if_neg (by omega), if_neg hq]; exact v.hd
  · rw [ha.1, getD_set2 _ _ _ _ (by omega)]
    by_cases hq : q = 20
    · rw [if_pos (by omega), if_pos hq]
    · rw [if_neg (by omega), if_neg hq]; exact v.tl
  · rw [ha.1, getD_set2 _ _ _ _ (by omega)]
    by_cases hq : q = 21 + j
    · rw [if_pos (by omega), if_pos hq]
    · rw [if_neg (by omega), if_neg hq]; exact v.sl j j0 j1
theorem Vw.head {s : AS} {R h t : Int} {f : Int → Int} (v : Vw s R h t f) (hR : 1 ≤ R) (who want put : Int) : (s.acc true who 1 19 want put).2 = h := (acc_cells (v.has (by omega) (by omega))).2.2.trans v.hd
theorem Vw.tail {s : AS} {R h t : Int} {f : Int → Int} (v : Vw s R h t f) (hR : 1 ≤ R) (who want put : Int) : (s.acc true who 1 20 want put).2 = t := (acc_cells (v.has (by omega) (by omega))).2.2.trans v.tl
theorem Vw.slot {s : AS} {R h t : Int} {f : Int → Int} (v : Vw s R h t f) {j : Int} (j0 : 0 ≤ j) (j1 : j < R) (who want put : Int) : (s.acc true who 1 (21 + j) want put).2 = f j := (acc_cells (v.has (by omega) (by omega))).2.2.trans (v.sl j j0 j1)
/-- The words that wait. -/
def waitL (R h : Int) (f : Int → Int) (k : Nat) : List Int := (List.range k).map fun (j : Nat) => f ((h + j) % R)
theorem waitL_succ (R h : Int) (f : Int → Int) (k : Nat) : waitL R h f (k + 1) = waitL R h f k ++ [f ((h + k) % R)] := by
  unfold waitL
  rw [List.range_succ, List.map_append]
  rfl
theorem waitL_len (R h : Int) (f : Int → Int) (k : Nat) : (waitL R h f k).length = k := by simp [waitL]
theorem u64_big {x : Int} (h0 : 0 ≤ x) (h1 : x < 18446744073709551616) : IntKind.u64.wrap x = x := by
  simp only [IntKind.wrap, IntKind.bits, IntKind.signed]
  have : (1 : Int) <<< 64 = 18446744073709551616 := by decide
  first | (simp only [this]; omega) | omega | (simp; omega)
theorem below_peek {w w' : World} (h : ∃ n, w' = w.drewN n) : Below w.heap.size w w' := by
  obtain ⟨n, rfl⟩ := h
  exact ⟨rfl, rfl, rfl, Nat.le_refl _, fun _ _ => rfl⟩
theorem peek_at {B : Nat} {w : World} {a c : Nat} {s : AS} {ps : List (Nat × Int × Bool)} (h : Sys B w a c s ps) {q x : Int} (hh : s.has q = true) (hx : s.cells.getD q.toNat 0 = x) :
    Calls Try.prog 46 #[.pointer (some ⟨a, 0, none⟩), .int .i64 q] w fun e w' => e = .returned (.tuple #[.int .u64 x, .int .i64 0]) ∧ ∃ n, w' = w.drewN n := by
  have hp := h.peek q
  rw [if_pos hh, if_pos hh, hx] at hp
  exact hp
set_option maxHeartbeats 4000000 in
set_option maxRecDepth 100000 in
theorem waiting_ok {B : Nat} {w : World} {a c : Nat} {s : AS} {ps : List (Nat × Int × Bool)} {P T R h t : Int} {f : Int → Int} (hs : Sys B w a c s ps) (hr : plOk P T R) (hv : Vw s R h t f) (D : Nat) (hD : t = h + D) (hDR : (D : Int) ≤ R) (h0 : 0 ≤ h) (hb : t < 9223372036854775807) :
    Calls Try.prog 20 #[.pointer (some ⟨a, 0, none⟩), .agg #[.int .i64 P, .int .i64 T, .int .i64 R], .int .i64 0] w fun e w' => ∃ v, e = .returned (.tuple #[v, .int .i64 0]) ∧ w'.ownsRow w.heap.size 24 1 v (waitL R h f D).length ((waitL R h f D).map (Value.int .u64)) ∧ Below w.heap.size w w' := by
  have hr' := hr
  unfold plOk at hr'
  have hp0 : plOk P T R ∧ (0 : Int) ≤ 0 ∧ 0 < T := ⟨hr, by omega, by omega⟩
  have HR := Lib.hid (show ring_right.f P T R 0 = some true by rw [rp_ring, decide_eq_true hp0])
  have HH := Lib.hid (show layout_Plan_Head.f P T R 0 = some 19 by have := (rp_head hp0).1; simpa using this)
  have HT := Lib.hid (show layout_Plan_Tail.f P T R 0 = some 20 by have := rp_tail hp0; simpa using this)
  have HSL : Hid (∀ n, 0 ≤ n → layout_Plan_Slot.f P T R 0 n = some (21 + n % R)) := Lib.hid (fun n hn => by have := rp_slot hp0 hn; simpa using this)
  have HV := Lib.hid hv
  have HP := Lib.hid (And.intro (show 1 ≤ R by omega) (show R ≤ 16 by omega))
  have HDD := Lib.hid (And.intro hD (And.intro hDR (And.intro h0 hb)))
  have KB : Hid ((w.alloc (.cells #[.int .i64 P, .int .i64 T, .int .i64 R] 39)).heap[w.heap.size]? = some (.cells #[.int .i64 P, .int .i64 T, .int .i64 R] 39 (0, 0))) := Lib.hid (Hp.blk_new w _)
  have HB := Lib.hid ((Below.refl w.heap.size w).alloc (Nat.le_refl _) (.cells #[.int .i64 P, .int .i64 T, .int .i64 R] 39))
  have HS := Lib.hid (hs.alloc (.cells #[.int .i64 P, .int .i64 T, .int .i64 R] 39))
  have HCL := Lib.hid hs.lt.2
  have z1 : IntKind.u64.wrap R = R := u64_small (by omega) (by omega)
  have z2 : IntKind.u64.wrap (t - h) = D := by rw [u64_big (by omega) (by omega)]; omega
  have z3 : ¬ R < (D : Int) := by omega
  have z4 : ¬ IntKind.u64.wrap R < IntKind.u64.wrap (t - h) := by rw [z1, z2]; exact z3
  obtain ⟨i0, hi0, hz0, hz1, hz2⟩ := info_parts infoU
  clear hs hr hr' hp0 hv hD hDR h0 hb
  obtain ⟨c0, -⟩ := Hp.blk_cell KB.out 0 rfl
  obtain ⟨c1, -⟩ := Hp.blk_cell KB.out 1 rfl
  obtain ⟨c2, -⟩ := Hp.blk_cell KB.out 2 rfl
  go_enter Try.func20, Try.ntmps20
  go_upto_region 6 with (first
    | (go_at_call 42; ((with_reducible refine (ring_right.calls P T R 0 true _ HR.out).mono ?_); rintro e w9 ⟨rfl, hb⟩; clear c0 c1 c2; replace KB := Lib.hid (blk_below KB.out hb); replace HS := Lib.hid (HS.out.below hb); replace HB := Lib.hid (HB.out.trans (hb.mono HB.out.size)); clear hb; (obtain ⟨c0, -⟩ := Hp.blk_cell KB.out 0 rfl); (obtain ⟨c1, -⟩ := Hp.blk_cell KB.out 1 rfl); (obtain ⟨c2, -⟩ := Hp.blk_cell KB.out 2 rfl)))
    | (go_at_call 47; ((with_reducible refine (layout_Plan_Head.calls P T R 0 19 _ HH.out).mono ?_); rintro e w9 ⟨rfl, hb⟩; clear c0 c1 c2; replace KB := Lib.hid (blk_below KB.out hb); replace HS := Lib.hid (HS.out.below hb); replace HB := Lib.hid (HB.out.trans (hb.mono HB.out.size)); clear hb; (obtain ⟨c0, -⟩ := Hp.blk_cell KB.out 0 rfl); (obtain ⟨c1, -⟩ := Hp.blk_cell KB.out 1 rfl); (obtain ⟨c2, -⟩ := Hp.blk_cell KB.out 2 rfl)))
    | (go_at_call 46; ((have hp := peek_at HS.out (q := 19) (HV.out.has (by decide) (by have := HP.out; omega)) HV.out.hd); (with_reducible refine hp.mono ?_); clear hp; rintro e w8 ⟨rfl, hn⟩; (have hb := below_peek hn); clear hn; clear c0 c1 c2; replace KB := Lib.hid (blk_below KB.out hb); replace HS := Lib.hid (HS.out.below hb); replace HB := Lib.hid (HB.out.trans (hb.mono HB.out.size)); clear hb; (obtain ⟨c0, -⟩ := Hp.blk_cell KB.out 0 rfl); (obtain ⟨c1, -⟩ := Hp.blk_cell KB.out 1 rfl); (obtain ⟨c2, -⟩ := Hp.blk_cell KB.out 2 rfl))))
  go_wp2_with (first
    | (go_at_call 48; ((with_reducible refine (layout_Plan_Tail.calls P T R 0 20 _ HT.out).mono ?_); rintro e w9 ⟨rfl, hb⟩; clear c0 c1 c2; replace KB := Lib.hid (blk_below KB.out hb); replace HS := Lib.hid (HS.out.below hb); replace HB := Lib.hid (HB.out.trans (hb.mono HB.out.size)); clear hb; (obtain ⟨c0, -⟩ := Hp.blk_cell KB.out 0 rfl); (obtain ⟨c1, -⟩ := Hp.blk_cell KB.out 1 rfl); (obtain ⟨c2, -⟩ := Hp.blk_cell KB.out 2 rfl)))
    | (go_at_call 46; ((have hp := peek_at HS.out (q := 20) (HV.out.has (by decide) (by have := HP.out; omega)) HV.out.tl); (with_reducible refine hp.mono ?_); clear hp; rintro e w8 ⟨rfl, hn⟩; (have hb := below_peek hn); clear hn; clear c0 c1 c2; replace KB := Lib.hid (blk_below KB.out hb); replace HS := Lib.hid (HS.out.below hb); replace HB := Lib.hid (HB.out.trans (hb.mono HB.out.size)); clear hb; (obtain ⟨c0, -⟩ := Hp.blk_cell KB.out 0 rfl); (obtain ⟨c1, -⟩ := Hp.blk_cell KB.out 1 rfl); (obtain ⟨c2, -⟩ := Hp.blk_cell KB.out 2 rfl))))
  clear c0 c1 c2
  go_loopw [11, 12, 13, 14] (fun v11 v12 v13 v14 wr => ∃ k : Nat, k ≤ D ∧ v12 = .int .u64 (h + k) ∧ Hid (wr.ownsRow w.heap.size 24 1 v11 k ((waitL R h f k).map (Value.int .u64))) ∧ Hid (Sys B wr a c s ps) ∧ Hid (wr.heap[w.heap.size]? = some (.cells #[.int .i64 P, .int .i64 T, .int .i64 R] 39 (0, 0))) ∧ Hid (Below w.heap.size w wr) ∧ True) (fun _ v12 _ _ _ => D - ((intOf v12) - h).toNat)
  case atStart => exact ⟨0, Nat.zero_le _, by simp, Lib.hid (World.ownsRow_nil _ _ _ _), HS, KB, HB, trivial⟩
  case round =>
    obtain ⟨k, hk, rfl, HW, HS2, KB2, HB2, -⟩ := hrel
    clear HS KB HB
    have HS := HS2
    have KB := KB2
    have HB := HB2
    clear HS2 KB2 HB2
    obtain ⟨hd1, hd2, hd3, hd4⟩ := HDD.out
    have HDE := Lib.hid hd1
    (obtain ⟨c0, -⟩ := Hp.blk_cell KB.out 0 rfl); (obtain ⟨c1, -⟩ := Hp.blk_cell KB.out 1 rfl); (obtain ⟨c2, -⟩ := Hp.blk_cell KB.out 2 rfl)
    by_cases hkD : k < D
    · have hne : (h + (k : Int) != t) = true := by simp; omega
      have hpos := Int.emod_nonneg (h + k) (show R ≠ 0 by have := HP.out; omega)
      have hlt := Int.emod_lt_of_pos (h + k) (show 0 < R by have := HP.out; omega)
      have HJ := Lib.hid (And.intro hpos hlt)
      have HQ := Lib.hid (HSL.out (h + k) (by omega))
      obtain ⟨x, hx⟩ : ∃ x, x = f ((h + k) % R) := ⟨_, rfl⟩
      have HX : Hid (s.cells.getD (21 + (h + k) % R).toNat 0 = x) := Lib.hid (by rw [hx]; exact HV.out.sl _ hpos hlt)
      have HWS : Hid ((waitL R h f (k + 1)).map (Value.int .u64) = (waitL R h f k).map (Value.int .u64) ++ [.int .u64 x]) := Lib.hid (by rw [waitL_succ, List.map_append, hx]; rfl)
      have hk16 : k ≤ 16 := by have := HP.out.2; omega
      clear hpos hlt hx hd1 hd2
      go_upto_region 18 with (first
        | (go_at_call 49; ((with_reducible refine (layout_Plan_Slot.calls P T R 0 (h + k) _ _ HQ.out).mono ?_); rintro e w9 ⟨rfl, hb⟩; clear c0 c1 c2; replace HW := Lib.hid (own_fr2 HW.out (S := fun _ => False) ⟨hb.os, hb.tape, hb.output, hb.size, fun k2 hk2 _ => hb.block k2 hk2⟩ (fun _ _ => id)); replace KB := Lib.hid (blk_below KB.out hb); replace HS := Lib.hid (HS.out.below hb); replace HB := Lib.hid (HB.out.trans (hb.mono HB.out.size)); clear hb; (obtain ⟨c0, -⟩ := Hp.blk_cell KB.out 0 rfl); (obtain ⟨c1, -⟩ := Hp.blk_cell KB.out 1 rfl); (obtain ⟨c2, -⟩ := Hp.blk_cell KB.out 2 rfl)))
        | (go_at_call 46; ((have hp := peek_at HS.out (q := 21 + (h + k) % R) (HV.out.has (by have := HJ.out; omega) (by have := HJ.out; omega)) HX.out); (with_reducible refine hp.mono ?_); clear hp; rintro e w8 ⟨rfl, hn⟩; (have hb := below_peek hn); clear hn; clear c0 c1 c2; replace HW := Lib.hid (own_fr2 HW.out (S := fun _ => False) ⟨hb.os, hb.tape, hb.output, hb.size, fun k2 hk2 _ => hb.block k2 hk2⟩ (fun _ _ => id)); replace KB := Lib.hid (blk_below KB.out hb); replace HS := Lib.hid (HS.out.below hb); replace HB := Lib.hid (HB.out.trans (hb.mono HB.out.size)); clear hb; (obtain ⟨c0, -⟩ := Hp.blk_cell KB.out 0 rfl); (obtain ⟨c1, -⟩ := Hp.blk_cell KB.out 1 rfl); (obtain ⟨c2, -⟩ := Hp.blk_cell KB.out 2 rfl))))
      go_wp2_with (first
        | (at_builtin; (refine wpList_append_own _ rfl _ _ 33 rfl w.heap.size 24 i0 _ 1 8 Try.underlying33 hi0 hz0 hz1 hz2 rfl (by decide) u11 k ((waitL R h f k).map (Value.int .u64)) rfl (own_fr2 HW.out ((Fr.refl (fun _ => False) _).alloc _) (fun _ _ => id)) ⟨w8.heap.size, 0, none⟩ 1 1 [.int .u64 x] rfl rfl (World.news_of_block (Hp.blk_new w8 _)) (by simp [Value.oneCell']) (by unfold maxLen; omega) (by omega) (by have := HB.out.size; simp; omega) ?_; intro v6 w6 own6 grow6 _; (have e0 : Fr (fun k => u11.ownBlock = some k) w8 w6 := ((Fr.refl _ w8).alloc _).grown grow6 (fun k hk => .inl hk)); (have HKB6 := Lib.hid (e0.blk KB.out (fun z => row_ne HW.out KB.out (by decide) _ z rfl))); (have HS6 := Lib.hid (HS.out.fr e0 (fun k2 _ hk2 => row_far HW.out k2 hk2 (by have := (row_blk HW.out k2 hk2).2; have := HCL.out; omega)))); (have HB6 := Lib.hid (HB.out.trans (b := w8) (c := w6) ⟨e0.os, e0.tape, e0.output, e0.size, fun k2 hk2 => e0.block k2 (Nat.lt_of_lt_of_le hk2 HB.out.size) (fun z => by have := (row_blk HW.out k2 z).2; omega)⟩)); (have HO6 := Lib.hid own6); clear own6 grow6 e0 HW HS KB HB c0 c1 c2)))
      go_roundw
      case rel => exact ⟨k + 1, by omega, by rw [u64_big (by have := HDD.out; omega) (by have := HDD.out; omega)]; push_cast; congr 1; omega, Lib.hid (by rw [HWS.out]; exact HO6.out), HS6, HKB6, HB6, trivial⟩
      case measure => simp only [intOf]; rw [u64_big (by have := HDD.out; omega) (by have := HDD.out; omega)]; omega
    · obtain rfl : k = D := by omega
      have hne : (h + (k : Int) != t) = false := by simp; omega
      go_wp2_with (fail)
      go_ret2
      exact ⟨_, rfl, by rw [waitL_len]; exact HW.out, HB.out⟩
end Go.Proofs.Ytdcikbhfoplkmaa.Ar
