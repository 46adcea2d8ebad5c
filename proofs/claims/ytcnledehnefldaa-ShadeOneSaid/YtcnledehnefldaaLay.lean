/- An arena of a plan, with a port. -/
import Derived.Test.YtcnledehnefldaaRng
namespace Go.Proofs.Ytcnledehnefldaa.Ar
open Go Go.RowKit Go.Proofs.Ytcnledehnefldaa.Hp Go.Proofs.Ytcnledehnefldaa.PH
set_option linter.unusedVariables false
set_option linter.unusedSimpArgs false

theorem below_fr {w w' : World} (h : Fr (fun _ => False) w w') : Below w.heap.size w w' := ⟨h.os, h.tape, h.output, h.size, fun k hk => h.block k hk id⟩
set_option maxHeartbeats 2000000 in
set_option maxRecDepth 100000 in
theorem lay (w : World) (P T R who : Int) (N k : Nat) (hc : windrowref06_Cells.f k P T R = some (N : Int)) (h1 : 1 ≤ N) (h2 : N ≤ 4096) (h3 : 0 ≤ who) (h4 : who ≤ 15) :
    Calls Try.prog 24 #[.agg #[.int .i64 P, .int .i64 T, .int .i64 R], .int .i64 who] w fun e w' => ∃ a c p, e = .returned (.tuple #[.pointer (some ⟨a, 0, none⟩), .pointer (some ⟨p, 0, none⟩), .bool true]) ∧ Sys w.heap.size w' a c ⟨List.replicate N 0, [], true, 0, 0⟩ [(p, who, false)] ∧ Below w.heap.size w w' := by
  have HC := Lib.hid hc
  have H12 := Lib.hid (And.intro h1 h2)
  have H34 := Lib.hid (And.intro h3 h4)
  have KB := Lib.hid (Hp.blk_new w (.cells #[.int .i64 P, .int .i64 T, .int .i64 R] 23))
  have HB := Lib.hid ((Below.refl w.heap.size w).alloc (Nat.le_refl _) (.cells #[.int .i64 P, .int .i64 T, .int .i64 R] 23))
  clear hc h1 h2 h3 h4
  go_enter Try.func24, Try.ntmps24
  go_wp2_with (first
    | (go_at_call 31; (refine (windrowref06_Cells.calls k P T R N _ HC.out).mono ?_; rintro e w2 ⟨rfl, hb⟩; replace HB := Lib.hid (HB.out.trans (hb.mono (by have := HB.out.size; first | exact HB.out.size | exact Nat.le_refl _ | omega))); clear hb))
    | (go_at_call 55; (refine (sys_new w.heap.size _ N true H12.out.1 H12.out.2 HB.out.size).mono ?_; rintro e w3 ⟨a, c, rfl, hS, hb, -, -⟩; (have HS := Lib.hid hS); replace HB := Lib.hid (HB.out.trans (hb.mono HB.out.size)); clear hS hb))
    | (go_at_call 56; (refine (HS.out.port who H34.out.1 H34.out.2).mono ?_; rintro e w4 ⟨p, rfl, hS, hb, -⟩; (have HS2 := Lib.hid hS); replace HB := Lib.hid (HB.out.trans (hb.mono HB.out.size)); clear hS hb)))
  have hr : ∀ (x y z : Value) (tmps : Array Value), True := fun _ _ _ _ => trivial
  refine bodyPost_ret (results_tmp3 rfl _ _ _) rfl ?_
  exact ⟨a, c, p, rfl, HS2.out, HB.out⟩
end Go.Proofs.Ytcnledehnefldaa.Ar
