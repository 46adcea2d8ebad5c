/- Waiting, where no ring is told. -/
import Derived.Test.YtdcikbhfoplkmaaGed
namespace Go.Proofs.Ytdcikbhfoplkmaa.Ar
open Go Go.RowKit Go.Proofs.Ytdcikbhfoplkmaa.Hp Go.Proofs.Ytdcikbhfoplkmaa.PH
set_option linter.unusedVariables false
set_option linter.unusedSimpArgs false

set_option maxHeartbeats 1000000 in
set_option maxRecDepth 100000 in
theorem waiting_no (w : World) (a : Value) (P T R t : Int) (h : ring_right.f P T R t = some false) :
    Calls Try.prog 20 #[a, .agg #[.int .i64 P, .int .i64 T, .int .i64 R], .int .i64 t] w fun e w' => e = .returned (.tuple #[.slice none 0 0, .int .i64 1]) ∧ Below w.heap.size w w' := by
  have hm := ring_right.calls P T R t false (w.alloc (.cells #[.int .i64 P, .int .i64 T, .int .i64 R] 39)) h
  have HB := Lib.hid ((Below.refl w.heap.size w).alloc (Nat.le_refl _) (.cells #[.int .i64 P, .int .i64 T, .int .i64 R] 39))
  clear h
  go_enter Try.func20, Try.ntmps20
  go_wp2_with (first | (go_at_call 42; (refine hm.mono ?_; clear hm; rintro e w2 ⟨rfl, hb⟩; replace HB := Lib.hid (HB.out.trans (hb.mono HB.out.size)); clear hb)))
  go_ret2
  exact ⟨rfl, HB.out⟩
set_option maxHeartbeats 1000000 in
set_option maxRecDepth 100000 in
theorem waiting_addr {B : Nat} {w : World} {a c : Nat} {s : AS} {ps : List (Nat × Int × Bool)} (hs : Sys B w a c s ps) (P T R t q : Int) (h : ring_right.f P T R t = some true) (hq : layout_Plan_Head.f P T R t = some q) (ho : s.has q = false) :
    Calls Try.prog 20 #[.pointer (some ⟨a, 0, none⟩), .agg #[.int .i64 P, .int .i64 T, .int .i64 R], .int .i64 t] w fun e w' => e = .returned (.tuple #[.slice none 0 0, .int .i64 5]) ∧ Below w.heap.size w w' := by
  have hm := ring_right.calls P T R t true (w.alloc (.cells #[.int .i64 P, .int .i64 T, .int .i64 R] 39)) h
  have KB := Lib.hid (Hp.blk_new w (.cells #[.int .i64 P, .int .i64 T, .int .i64 R] 39))
  have HB := Lib.hid ((Below.refl w.heap.size w).alloc (Nat.le_refl _) (.cells #[.int .i64 P, .int .i64 T, .int .i64 R] 39))
  have HS := Lib.hid (hs.alloc (.cells #[.int .i64 P, .int .i64 T, .int .i64 R] 39))
  have HQ := Lib.hid hq
  have HO := Lib.hid ho
  clear h hs hq ho
  go_enter Try.func20, Try.ntmps20
  go_wp2_with (first
    | (go_at_call 42; (refine hm.mono ?_; clear hm; rintro e w2 ⟨rfl, hb⟩; replace KB := Lib.hid (blk_below KB.out hb); replace HS := Lib.hid (HS.out.below hb); replace HB := Lib.hid (HB.out.trans (hb.mono HB.out.size)); clear hb; (obtain ⟨c0, -⟩ := Hp.blk_cell KB.out 0 rfl); (obtain ⟨c1, -⟩ := Hp.blk_cell KB.out 1 rfl); (obtain ⟨c2, -⟩ := Hp.blk_cell KB.out 2 rfl)))
    | (go_at_call 47; (refine (layout_Plan_Head.calls P T R t q _ HQ.out).mono ?_; rintro e w3 ⟨rfl, hb⟩; replace HS := Lib.hid (HS.out.below hb); replace HB := Lib.hid (HB.out.trans (hb.mono HB.out.size)); clear hb))
    | (go_at_call 46; ((have hp := HS.out.peek q); rw [if_neg (by rw [HO.out]; decide), if_neg (by rw [HO.out]; decide)] at hp; refine hp.mono ?_; clear hp; rintro e w4 ⟨rfl, n, rfl⟩)))
  go_ret2
  exact ⟨rfl, HB.out.os, HB.out.tape, HB.out.output, HB.out.size, HB.out.block⟩
end Go.Proofs.Ytdcikbhfoplkmaa.Ar
