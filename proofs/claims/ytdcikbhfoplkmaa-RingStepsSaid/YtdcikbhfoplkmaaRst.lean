/- RingSteps, walked: pushes and pops at any rings make the accesses that the chapter says, and come to what it says. -/
import Derived.Test.YtdcikbhfoplkmaaWts
namespace Go.Proofs.Ytdcikbhfoplkmaa.Dd
open Go Go.RowKit Go.Shelf Go.Proofs.Ytdcikbhfoplkmaa.Hp Go.Proofs.Ytdcikbhfoplkmaa.PH Go.Proofs.Ytdcikbhfoplkmaa.Ar Go.Proofs.Ytdcikbhfoplkmaa.Eo
open Go.Proofs.YtdcikbhfoplkmaaW.PrintWords (Kd add_field Drawn0)
open Go.Proofs.YtdcikbhfoplkmaaW.PrintLast (i64_w)
set_option linter.unusedVariables false
set_option linter.unusedSimpArgs false
set_option linter.unusedSectionVars false
attribute [local go_sem] Oper.semAt_some

abbrev kOp : Kd (Int × Int × Int × Bool) := Kd.pair (Kd.int .i64) (Kd.pair (Kd.int .i64) (Kd.pair (Kd.int .u64) Kd.bool))
theorem at_op {w : World} {A : Option Addr} {n : Nat} {xs : List (Int × Int × Int × Bool)} (h : Kd.C kOp w A n xs) (i : Nat) (h1 : i < n) (x : Int × Int × Int × Bool) (hx : x = xs.getD i (0, 0, 0, false)) : ∃ ad, A = some ad ∧ w.cell? (ad.add (i * 4)) = some (.int .i64 x.1) ∧ w.cell? ⟨(ad.add (i * 4)).block, (ad.add (i * 4)).off + 1, none⟩ = some (.int .i64 x.2.1) ∧ w.cell? ⟨(ad.add (i * 4)).block, (ad.add (i * 4)).off + 2, none⟩ = some (.int .u64 x.2.2.1) ∧ w.cell? ⟨(ad.add (i * 4)).block, (ad.add (i * 4)).off + 3, none⟩ = some (.bool x.2.2.2) := by
  obtain ⟨ad, c, e, _, hK, hc0⟩ := Kd.C_get h (0, 0, 0, false) (i : Int) (by omega) (by omega)
  rw [Int.toNat_natCast, ← hx] at hK
  rw [Int.toNat_natCast] at hc0
  have hc : ∀ j u, c[j]? = some u → w.cell? (ad.add (i * 4 + j)) = some u := hc0
  obtain ⟨x1, x2, x3, x4⟩ := x
  obtain ⟨c1, c2, rfl, e2, d1, d2, rfl, e3, f1, f2, rfl, e4, e5⟩ := hK
  have e2' : c1 = [.int .i64 x1] := e2
  have e3' : d1 = [.int .i64 x2] := e3
  have e4' : f1 = [.int .u64 x3] := e4
  have e5' : f2 = [.bool x4] := e5
  subst e2' e3' e4' e5'
  exact ⟨ad, e, hc 0 _ rfl, by rw [← add_field _ _ 1 (by omega)]; exact hc 1 _ rfl, by rw [← add_field _ _ 2 (by omega)]; exact hc 2 _ rfl, by rw [← add_field _ _ 3 (by omega)]; exact hc 3 _ rfl⟩

def pls (pre : List (Nat × Acc)) : List Value := pre.flatMap fun x => Acc.cells x.2
theorem pls_snoc (pre : List (Nat × Acc)) (x : Nat × Acc) : pls (pre ++ [x]) = pls pre ++ Acc.cells x.2 := by simp [pls]
theorem blk_own {β : Type} (B : Nat) (t : TypeId) (f : β → Array Value) : Own (fun s W => W.heap[B]? = some (.cells (f s) t (0, 0))) := fun s X Y row hs hg hrow =>
  (hg.block B (blk_lt hs) (fun e => by obtain ⟨o, ho, hc⟩ := hrow B e.symm; rw [hs] at ho; cases ho; cases hc)).trans hs
theorem own_slice {B e size n : Nat} {w : World} {v : Value} {xs : List Value} (h : w.ownsRow B e size v n xs) : ∃ A cap, v = .slice A n cap := by
  rcases h.2 with ⟨rfl, h2⟩ | ⟨g, cap, cur, rfl, _⟩
  · exact ⟨none, 0, by rw [h2]⟩
  · exact ⟨_, _, rfl⟩
theorem told_all (log : List Acc) : pls (told log log.length) = log.flatMap Acc.cells ∧ (told log log.length).length = log.length := by
  have h : ∀ k, k ≤ log.length → pls (told log k) = (log.take k).flatMap Acc.cells ∧ (told log k).length = k := by
    intro k
    induction k with
    | zero => intro _; exact ⟨rfl, rfl⟩
    | succ k ih =>
      intro hk
      obtain ⟨h2, h3⟩ := ih (by omega)
      have hx : log[k]? = some log[k] := List.getElem?_eq_getElem (by omega)
      rw [told_succ log k _ hx]
      refine ⟨?_, by simp [h3]⟩
      rw [pls_snoc, h2, List.take_succ_eq_append_getElem (show k < log.length by omega), List.flatMap_append]
      simp
  have := h log.length (Nat.le_refl _)
  rwa [List.take_length] at this
def accArr (x : Acc) : Array Value := #[.int .i64 x.who, .int .i64 x.kind, .int .i64 x.at_, .int .u64 x.want, .int .u64 x.put, .int .u64 x.seen, .int .u64 x.left]
/-- An answer without a panic. -/
def calmly (Q : Exit → Act → World → Prop) : Exit → Act → World → Prop
  | .panic _, _, _ => False
  | e, a, w => Q e a w
theorem calmly_of {Q : Exit → Act → World → Prop} {e : Exit} {a : Act} {w : World} (h : calmly Q e a w) : Q e a w := by
  cases e <;> first | exact h | exact h.elim
theorem cut8 (x : Int) {m : Int} (h0 : 0 < m) (h1 : m ≤ 1000) : ∃ n : Nat, (n : Int) < m ∧ wrap64 (Int.tmod (IntKind.u64.wrap x) m) = n := by
  have hx : 0 ≤ IntKind.u64.wrap x := by rw [u64w]; omega
  rw [Lay.tm hx]
  have hb := Int.emod_lt_of_pos (IntKind.u64.wrap x) h0
  have hb0 := Int.emod_nonneg (IntKind.u64.wrap x) (show m ≠ 0 by omega)
  exact ⟨(IntKind.u64.wrap x % m).toNat, by omega, by rw [w64 (by omega) (by omega)]; omega⟩
theorem small_yes (P0 T0 R0 : Int) : ∃ P T R : Nat, Lay.right P T R ∧ P ≤ 4 ∧ T ≤ 3 ∧ windrowlaw07_small.f P0 T0 R0 = some ((P : Int), (T : Int), (R : Int)) := by
  obtain ⟨p, hp, ep⟩ := cut8 P0 (show (0 : Int) < 4 by omega) (by omega)
  obtain ⟨t, ht, et⟩ := cut8 T0 (show (0 : Int) < 3 by omega) (by omega)
  obtain ⟨r, hr, er⟩ := cut8 R0 (show (0 : Int) < 5 by omega) (by omega)
  refine ⟨1 + p, 1 + t, 1 + r, by unfold Lay.right; omega, by omega, by omega, ?_⟩
  unfold windrowlaw07_small.f
  rw [ep, et, er, w64 (by omega) (by omega), w64 (by omega) (by omega), w64 (by omega) (by omega)]
  push_cast
  rfl
theorem idx_of (x : Int) {T : Nat} (h1 : 1 ≤ T) (h2 : T ≤ 6) : ∃ k : Nat, k < T ∧ wrap64 (Int.tmod (IntKind.u64.wrap x) (T : Int)) = k := by
  obtain ⟨k, hk, e⟩ := cut8 x (m := (T : Int)) (by omega) (by omega)
  exact ⟨k, by omega, e⟩
theorem one_cl {P T R : Nat} (h : Lay.right P T R) : 1 ≤ Lay.cl P T R ∧ Lay.cl P T R ≤ 4096 := by
  have h1 := Lay.cl_le h
  have h2 := h.1
  have h3 : Lay.cl P T R = Lay.bs P T R + 64 * P := rfl
  omega
theorem poke_at {qs q : Nat} {j : Nat} (h : q = qs + 3 + j) (hq : q ≤ 4096) : IntKind.i64.wrap (IntKind.i64.wrap ((qs : Int) + 3) + IntKind.i64.wrap (j : Int)) = (q : Int) := by
  rw [i64_w, i64_w, i64_w, w64 (x := (qs : Int) + 3) (by omega) (by omega), w64 (x := (j : Int)) (by omega) (by omega), w64 (by omega) (by omega)]
  omega
theorem alloc_set (w : World) (p : Addr) (u : Value) (o : Obj) (hp : p.block < w.heap.size) : (w.setCell p u).alloc o = (w.alloc o).setCell p u := by
  unfold World.setCell World.alloc
  congr 1
  apply Array.ext_getElem?
  intro i
  simp only [Array.getElem?_push, Array.getElem?_modify, Array.size_modify]
  by_cases h1 : i = w.heap.size
  · subst h1
    rw [if_pos rfl, if_neg (by omega), if_pos rfl]
  · rw [if_neg h1]
    split <;> simp_all

set_option maxHeartbeats 8000000 in
set_option maxRecDepth 100000 in
theorem steps_law (P0 T0 R0 : Int) (A : Option Addr) (cp : Nat) (rows : List (Int × Int × Int × Bool)) (w : World) (hr : Kd.C kOp w A rows.length rows) (hw : ∀ x ∈ rows, 0 ≤ x.2.2.1 ∧ x.2.2.1 < 18446744073709551616) :
    Calls Try.prog 7 #[.agg #[.int .i64 P0, .int .i64 T0, .int .i64 R0], .slice A rows.length cp] w fun e w' => e = .returned (.bool true) ∧ Below w.heap.size w w' := by
  have HR := Lib.hid hr
  have HW := Lib.hid hw
  have hmax : rows.length ≤ 9223372036854775807 := hr.2.1
  clear hr hw
  refine callsIn_wide.1 (callsIn_of_wp_marks (n := 5) Try.func7 rfl trivial ?_ rfl)
  simp only [Try.ntmps7, List.size_toArray, List.length_cons, List.length_nil, Nat.reduceAdd, Nat.reduceSub, Array.replicate_succ, Array.replicate_zero, List.push_toArray, List.append_toArray, List.nil_append, List.cons_append]
  refine wpIn_wide.2 (Code.wp_mono (fun e a w h => calmly_of h) ?_)
  go_upto_region 1 with (fail)
  have KQ : Hid (((w.alloc (.cells #[.int .i64 P0, .int .i64 T0, .int .i64 R0] 23)).alloc (.cells #[.bool false] 4)).heap[w.heap.size]? = some (.cells #[.int .i64 P0, .int .i64 T0, .int .i64 R0] 23 (0, 0))) := Lib.hid (Hp.blk_alloc (Hp.blk_new w _) _)
  have KR : Hid (((w.alloc (.cells #[.int .i64 P0, .int .i64 T0, .int .i64 R0] 23)).alloc (.cells #[.bool false] 4)).heap[w.heap.size + 1]? = some (.cells #[.bool false] 4 (0, 0))) := Lib.hid (by have h := Hp.blk_new (w.alloc (.cells #[.int .i64 P0, .int .i64 T0, .int .i64 R0] 23)) (.cells #[.bool false] 4); rw [World.size_alloc] at h; exact h)
  have HB : Hid (Below w.heap.size w ((w.alloc (.cells #[.int .i64 P0, .int .i64 T0, .int .i64 R0] 23)).alloc (.cells #[.bool false] 4))) := Lib.hid (((Below.refl w.heap.size w).alloc (Nat.le_refl _) _).alloc (by simp) _)
  generalize (w.alloc (.cells #[.int .i64 P0, .int .i64 T0, .int .i64 R0] 23)).alloc (.cells #[.bool false] 4) = w1 at KQ KR HB ⊢
  have hqb : w.heap.size ≤ w.heap.size := Nat.le_refl _
  have hrb : w.heap.size ≤ w.heap.size + 1 := Nat.le_succ _
  have hqr : w.heap.size < w.heap.size + 1 := Nat.lt_succ_self _
  obtain ⟨qb, eqb⟩ : ∃ qb, qb = w.heap.size := ⟨_, rfl⟩
  obtain ⟨rb, erb⟩ : ∃ rb, rb = w.heap.size + 1 := ⟨_, rfl⟩
  have KQ' : Hid (w1.heap[qb]? = some (.cells #[.int .i64 P0, .int .i64 T0, .int .i64 R0] 23 (0, 0))) := Lib.hid (by rw [eqb]; exact KQ.out)
  have KR' : Hid (w1.heap[rb]? = some (.cells #[.bool false] 4 (0, 0))) := Lib.hid (by rw [erb]; exact KR.out)
  rw [← erb]
  rw [show (Value.pointer (some ⟨w.heap.size, 0, none⟩)) = Value.pointer (some ⟨qb, 0, none⟩) from by rw [eqb]]
  have HQ1 : Hid (w.heap.size ≤ qb ∧ w.heap.size ≤ rb ∧ qb < rb) := Lib.hid (by omega)
  clear KQ KR hqb hrb hqr eqb erb
  have KQ := KQ'
  have KR := KR'
  clear KQ' KR'
  obtain ⟨P, T, R, hrt, hP3, hT4, hsm⟩ := small_yes P0 T0 R0
  have HSM := Lib.hid hsm
  have HRT := Lib.hid hrt
  have HP3 := Lib.hid (And.intro hP3 hT4)
  clear hsm hrt hP3 hT4
  obtain ⟨c0, d0⟩ := Hp.blk_cell KQ.out 0 rfl
  obtain ⟨c1, d1⟩ := Hp.blk_cell KQ.out 1 rfl
  obtain ⟨c2, d2⟩ := Hp.blk_cell KQ.out 2 rfl
  go_upto_region 4 with (first
    | (go_at_call 8; ((with_reducible refine (ringed _).mono ?_); rintro e w2 ⟨rfl, hb⟩; clear c0 c1 c2 d0 d1 d2; replace KQ := Lib.hid (blk_below KQ.out hb); replace KR := Lib.hid (blk_below KR.out hb); replace HB := Lib.hid (HB.out.trans (hb.mono HB.out.size)); (obtain ⟨c0, d0⟩ := Hp.blk_cell KQ.out 0 rfl); (obtain ⟨c1, d1⟩ := Hp.blk_cell KQ.out 1 rfl); (obtain ⟨c2, d2⟩ := Hp.blk_cell KQ.out 2 rfl); clear hb))
    | (go_at_call 9; ((with_reducible refine (windrowlaw07_small.calls P0 T0 R0 _ _ _ _ HSM.out).mono ?_); rintro e w3 ⟨rfl, hb⟩; clear c0 c1 c2 d0 d1 d2; replace KQ := Lib.hid (blk_below KQ.out hb); replace KR := Lib.hid (blk_below KR.out hb); replace HB := Lib.hid (HB.out.trans (hb.mono HB.out.size)); (obtain ⟨c0, d0⟩ := Hp.blk_cell KQ.out 0 rfl); (obtain ⟨c1, d1⟩ := Hp.blk_cell KQ.out 1 rfl); (obtain ⟨c2, d2⟩ := Hp.blk_cell KQ.out 2 rfl); clear hb)))
  clear c0 c1 c2 d0 d1 d2
  have KQ4 : Hid ((((w3.setCell ⟨qb, 0, none⟩ (.int .i64 P)).setCell ⟨qb, 1, none⟩ (.int .i64 T)).setCell ⟨qb, 2, none⟩ (.int .i64 R)).heap[qb]? = some (.cells #[.int .i64 P, .int .i64 T, .int .i64 R] 23 (0, 0))) := Lib.hid (Hp.blk_set (Hp.blk_set (Hp.blk_set KQ.out 0 _) 1 _) 2 _)
  have KR4 : Hid ((((w3.setCell ⟨qb, 0, none⟩ (.int .i64 P)).setCell ⟨qb, 1, none⟩ (.int .i64 T)).setCell ⟨qb, 2, none⟩ (.int .i64 R)).heap[rb]? = some (.cells #[.bool false] 4 (0, 0))) := Lib.hid (by
    have hn : rb ≠ qb := by have := HQ1.out.2.2; omega
    exact Hp.blk_far (Hp.blk_far (Hp.blk_far KR.out ⟨qb, 0, none⟩ hn _) ⟨qb, 1, none⟩ hn _) ⟨qb, 2, none⟩ hn _)
  replace HB : Hid (Below w.heap.size w (((w3.setCell ⟨qb, 0, none⟩ (.int .i64 P)).setCell ⟨qb, 1, none⟩ (.int .i64 T)).setCell ⟨qb, 2, none⟩ (.int .i64 R))) := Lib.hid (((HB.out.setCell (p := ⟨qb, 0, none⟩) HQ1.out.1 _).setCell (p := ⟨qb, 1, none⟩) HQ1.out.1 _).setCell (p := ⟨qb, 2, none⟩) HQ1.out.1 _)
  clear KQ KR
  generalize (((w3.setCell ⟨qb, 0, none⟩ (.int .i64 P)).setCell ⟨qb, 1, none⟩ (.int .i64 T)).setCell ⟨qb, 2, none⟩ (.int .i64 R)) = w4 at KQ4 KR4 HB ⊢
  have KQ := KQ4
  have KR := KR4
  clear KQ4 KR4
  obtain ⟨c0, d0⟩ := Hp.blk_cell KQ.out 0 rfl
  obtain ⟨c1, d1⟩ := Hp.blk_cell KQ.out 1 rfl
  obtain ⟨c2, d2⟩ := Hp.blk_cell KQ.out 2 rfl
  obtain ⟨K, hK0⟩ := Lay.draw_ev HRT.out
  have HDr : Hid (windrowref06_Draw.f K P T R = some ((P : Int), (T : Int), (R : Int), ((Lay.bs P T R : Nat) : Int), ((Lay.tb T R : Nat) : Int), ((Lay.cl P T R : Nat) : Int))) := Lib.hid (hK0 K (Nat.le_refl _))
  obtain ⟨K2, hK2⟩ := Lay.cells_ev HRT.out
  have HCl : Hid (windrowref06_Cells.f K2 P T R = some ((Lay.cl P T R : Nat) : Int)) := Lib.hid (hK2 K2 (Nat.le_refl _))
  have HCL := Lib.hid (one_cl HRT.out)
  clear hK0 hK2
  obtain ⟨i0, hi0, hz0, hz1, hz2⟩ := info_parts infoU
  obtain ⟨i1, hi1, hy0, hy1, hy2⟩ := info_parts infoSide
  have HI := Lib.hid (And.intro hi0 (And.intro hz0 (And.intro hz1 hz2)))
  have HJ := Lib.hid (And.intro hi1 (And.intro hy0 (And.intro hy1 hy2)))
  clear hi0 hz0 hz1 hz2 hi1 hy0 hy1 hy2
  go_upto_region 7 with (first
    | (go_at_call 10; ((with_reducible refine (lay _ P T R 9 (Lay.cl P T R) K2 HCl.out HCL.out.1 HCL.out.2 (by decide) (by decide)).mono ?_); rintro e w5 ⟨a, c, p, rfl, hS, hb⟩; (have HS := Lib.hid (hS.mono HB.out.size)); clear c0 c1 c2 d0 d1 d2; replace KQ := Lib.hid (blk_below KQ.out hb); replace KR := Lib.hid (blk_below KR.out hb); replace HB := Lib.hid (HB.out.trans (hb.mono HB.out.size)); (obtain ⟨c0, d0⟩ := Hp.blk_cell KQ.out 0 rfl); (obtain ⟨c1, d1⟩ := Hp.blk_cell KQ.out 1 rfl); (obtain ⟨c2, d2⟩ := Hp.blk_cell KQ.out 2 rfl); clear hb hS)))
  have hbB := HB.out.size
  go_upto_region 8 with (first
    | (go_at_call 35; ((with_reducible refine (windrowref06_Cells.calls K2 P T R _ _ HCl.out).mono ?_); rintro e w6 ⟨rfl, hb⟩; clear c0 c1 c2 d0 d1 d2; replace KQ := Lib.hid (blk_below KQ.out hb); replace KR := Lib.hid (blk_below KR.out hb); replace HS := Lib.hid (HS.out.below hb); replace HB := Lib.hid (HB.out.trans (hb.mono HB.out.size)); (obtain ⟨c0, d0⟩ := Hp.blk_cell KQ.out 0 rfl); (obtain ⟨c1, d1⟩ := Hp.blk_cell KQ.out 1 rfl); (obtain ⟨c2, d2⟩ := Hp.blk_cell KQ.out 2 rfl); clear hb; replace hbB := HB.out.size))
    | (at_make; (refine wpList_make_full _ rfl _ _ 33 rfl w.heap.size 24 i0 (.int .u64 0) 1 Try.underlying33 HI.out.1 HI.out.2.1 HI.out.2.2.1 _ _ _ _ (Lay.cl P T R) rfl rfl rfl rfl (by rw [HI.out.2.2.2]; have := HCL.out.2; omega) (by have := HCL.out.2; unfold maxLen; omega) hbB ?_; intro w7 own1 grow1)))
  have hsz0 := HB.out.size
  have hcl := HS.out.lt.2
  have hF1 : Fr (fun _ => False) w6 w7 := (Fr.refl _ w6).grown grow1 (fun k hk => by cases hk)
  have hb1 := Fr.toBelow (Below.refl _ w6) (Nat.le_refl _) hF1 (fun _ z => z.elim)
  have cel1 := own_full own1
  have hcc : c ≠ w6.heap.size := by omega
  clear c0 c1 c2 d0 d1 d2
  have hw7 : w.heap.size ≤ w7.heap.size := Nat.le_trans hsz0 hF1.size
  have HD : Hid (Duo w.heap.size (w7.alloc (.cells #[.slice (some ⟨w6.heap.size, 0, none⟩) (Lay.cl P T R) (Lay.cl P T R), .slice none 0 0, .int .i64 0] 74)) a c ⟨List.replicate (Lay.cl P T R) 0, [], true, 0, 0⟩ [(p, 9, false)] w7.heap.size w6.heap.size ⟨List.replicate (Lay.cl P T R) 0, [], true, 0, 0⟩ []) :=
    Lib.hid (sys_duo ((HS.out.still hF1).alloc _) (Hp.blk_new w7 _) (by rw [Hp.blk_alloc cel1]; rw [show (madeCells (Value.int IntKind.u64 0).cells (Lay.cl P T R * 1)).toList = List.replicate (Lay.cl P T R) (Value.int IntKind.u64 0) from (by rw [Nat.mul_one]; exact toList_madeCells_one _ _)]; simp) HCL.out.2 hcc ⟨hw7, hsz0⟩)
  have KQ' : Hid ((w7.alloc (.cells #[.slice (some ⟨w6.heap.size, 0, none⟩) (Lay.cl P T R) (Lay.cl P T R), .slice none 0 0, .int .i64 0] 74)).heap[qb]? = some (.cells #[.int .i64 P, .int .i64 T, .int .i64 R] 23 (0, 0))) := Lib.hid (Hp.blk_alloc (hF1.blk KQ.out id) _)
  have KR' : Hid ((w7.alloc (.cells #[.slice (some ⟨w6.heap.size, 0, none⟩) (Lay.cl P T R) (Lay.cl P T R), .slice none 0 0, .int .i64 0] 74)).heap[rb]? = some (.cells #[.bool false] 4 (0, 0))) := Lib.hid (Hp.blk_alloc (hF1.blk KR.out id) _)
  replace HB : Hid (Below w.heap.size w (w7.alloc (.cells #[.slice (some ⟨w6.heap.size, 0, none⟩) (Lay.cl P T R) (Lay.cl P T R), .slice none 0 0, .int .i64 0] 74))) := Lib.hid ((HB.out.trans (hb1.mono hsz0)).alloc hw7 _)
  clear hF1 hb1 own1 grow1 hsz0 hcl hcc hw7 cel1 HS KQ KR hbB
  have KQ := KQ'
  have KR := KR'
  clear KQ' KR'
  generalize w7.alloc (.cells #[.slice (some ⟨w6.heap.size, 0, none⟩) (Lay.cl P T R) (Lay.cl P T R), .slice none 0 0, .int .i64 0] 74) = w8 at HD KQ KR HB ⊢
  generalize w7.heap.size = am at HD ⊢
  generalize w6.heap.size = cc at HD ⊢
  obtain ⟨c0, d0⟩ := Hp.blk_cell KQ.out 0 rfl
  obtain ⟨c1, d1⟩ := Hp.blk_cell KQ.out 1 rfl
  obtain ⟨c2, d2⟩ := Hp.blk_cell KQ.out 2 rfl
  go_upto_region 9 with (first
    | (go_at_call 15; ((with_reducible refine (windrowref06_Draw.calls K P T R _ _ _ _ _ _ _ HDr.out).mono ?_); rintro e w9 ⟨rfl, hb⟩; clear c0 c1 c2 d0 d1 d2; replace KQ := Lib.hid (blk_below KQ.out hb); replace KR := Lib.hid (blk_below KR.out hb); replace HD := Lib.hid (HD.out.below hb); replace HB := Lib.hid (HB.out.trans (hb.mono HB.out.size)); (obtain ⟨c0, d0⟩ := Hp.blk_cell KQ.out 0 rfl); (obtain ⟨c1, d1⟩ := Hp.blk_cell KQ.out 1 rfl); (obtain ⟨c2, d2⟩ := Hp.blk_cell KQ.out 2 rfl); clear hb)))
  clear c0 c1 c2 d0 d1 d2
  have KD : Hid ((w9.alloc (.cells #[.int .i64 P, .int .i64 T, .int .i64 R, .int .i64 (Lay.bs P T R : Nat), .int .i64 (Lay.tb T R : Nat), .int .i64 (Lay.cl P T R : Nat)] 43)).heap[w9.heap.size]? = some (.cells (mapC P T R) 43 (0, 0))) := Lib.hid (Hp.blk_new w9 _)
  replace KQ := Lib.hid (Hp.blk_alloc KQ.out (.cells #[.int .i64 P, .int .i64 T, .int .i64 R, .int .i64 (Lay.bs P T R : Nat), .int .i64 (Lay.tb T R : Nat), .int .i64 (Lay.cl P T R : Nat)] 43))
  replace KR := Lib.hid (Hp.blk_alloc KR.out (.cells #[.int .i64 P, .int .i64 T, .int .i64 R, .int .i64 (Lay.bs P T R : Nat), .int .i64 (Lay.tb T R : Nat), .int .i64 (Lay.cl P T R : Nat)] 43))
  replace HD := Lib.hid (HD.out.alloc (.cells #[.int .i64 P, .int .i64 T, .int .i64 R, .int .i64 (Lay.bs P T R : Nat), .int .i64 (Lay.tb T R : Nat), .int .i64 (Lay.cl P T R : Nat)] 43))
  have HD1 := Lib.hid HB.out.size
  replace HB := Lib.hid (HB.out.alloc HB.out.size (.cells #[.int .i64 P, .int .i64 T, .int .i64 R, .int .i64 (Lay.bs P T R : Nat), .int .i64 (Lay.tb T R : Nat), .int .i64 (Lay.cl P T R : Nat)] 43))
  generalize w9.heap.size = db at KD HD1 ⊢
  generalize w9.alloc (.cells #[.int .i64 P, .int .i64 T, .int .i64 R, .int .i64 (Lay.bs P T R : Nat), .int .i64 (Lay.tb T R : Nat), .int .i64 (Lay.cl P T R : Nat)] 43) = w10 at KD KQ KR HD HB ⊢
  obtain ⟨c1, d1⟩ := Hp.blk_cell KQ.out 1 rfl
  have hbB := HB.out.size
  go_upto_region 10 with (first
    | (at_make; (refine wpList_make_full _ rfl _ _ 75 rfl w.heap.size 81 i1 (.agg side0) 5 Try.underlying75 HJ.out.1 HJ.out.2.1 HJ.out.2.2.1 _ _ _ _ T rfl rfl rfl rfl (by rw [HJ.out.2.2.2]; have := HP3.out.2; omega) (by have := HP3.out.2; unfold maxLen; omega) hbB ?_; intro w11 own1 grow1)))
  have hF1 : Fr (fun _ => False) w10 w11 := (Fr.refl _ w10).grown grow1 (fun k hk => by cases hk)
  have hb1 := Fr.toBelow (Below.refl _ w10) (Nat.le_refl _) hF1 (fun _ z => z.elim)
  have cel1 : w11.heap[w10.heap.size]? = some (.cells (madeCells side0 (T * 5)) 81 (0, 0)) := by
    have h := own_full6 own1
    rw [Array.toArray_toList] at h
    exact h
  have HI0 : Hid (Inv w w11 ⟨a, c, am, cc, p, w10.heap.size, qb, db, rb, w11.heap.size⟩ P T R ⟨List.replicate (Lay.cl P T R) 0, [], true, 0, 0⟩ (fun _ _ => False) (madeCells side0 (T * 5))) := Lib.hid (Inv.start (HD.out.still hF1) (arok_start HRT.out) (HB.out.trans (hb1.mono hbB)) ⟨cel1, hF1.blk KQ.out id, hF1.blk KD.out id, hF1.blk KR.out id⟩ ⟨blk_lt cel1, blk_lt (hF1.blk KQ.out id), blk_lt (hF1.blk KD.out id), blk_lt (hF1.blk KR.out id), Nat.le_refl _⟩ hbB)
  clear hF1 hb1 own1 grow1 cel1 hbB HD HB KD KQ KR c1 d1
  generalize w11.heap.size = fb at HI0 ⊢
  generalize w10.heap.size = sb at HI0 ⊢
  go_wp2_with (fail)
  go_loopw [11, 12] (fun v11 v12 wr => ∃ (bg : Bool) (k : Nat) (s : AS) (O : Nat → Nat → Prop) (arr : Array Value), k ≤ rows.length ∧ k ≤ 120 ∧ v11 = .bool bg ∧ v12 = .int .i64 k ∧ Hid (Inv w wr ⟨a, c, am, cc, p, sb, qb, db, rb, fb⟩ P T R s O arr) ∧ Hid (s.log.length ≤ k)) (fun v11 v12 _ => 120 - (intOf v12).toNat)
  case atStart => exact ⟨false, 0, _, _, _, Nat.zero_le _, Nat.zero_le _, rfl, rfl, HI0, Lib.hid (Nat.zero_le _)⟩
  case round =>
    clear HI0
    obtain ⟨bg, k, s, O, arr, hk1, hk2, rfl, rfl, HV, HL⟩ := hrel
    by_cases hend : k < rows.length ∧ k < 120
    · obtain ⟨hk3, hk4⟩ := hend
      have t1 : (k : Int) < (rows.length : Int) := by omega
      have t2 : (k : Int) < 120 := by omega
      obtain ⟨x, hx⟩ : ∃ x, x = rows.getD k (0, 0, 0, false) := ⟨_, rfl⟩
      obtain ⟨ad, hA, r0, r1, r2, r3⟩ := at_op (Kd.C_below HR.out HV.out.bel) k hk3 x hx
      subst hA
      have HXW : Hid (Wd x.2.2.1) := Lib.hid (HW.out x (by rw [hx, List.getD_eq_getElem?_getD, List.getElem?_eq_getElem hk3]; exact List.getElem_mem _))
      clear hx
      obtain ⟨kind, th, ref0, bare⟩ := x
      simp only at r0 r1 r2 r3 HXW
      have hTb := HRT.out.2.2.1
      have hP34 := HP3.out
      obtain ⟨t, ht, et⟩ := idx_of th hTb (by omega)
      go_upto_region 15 with (fail)
      clear r0 r1 r2 r3
      have KO : Hid ((wr.alloc (.cells #[.int .i64 kind, .int .i64 th, .int .u64 ref0, .bool bare] 77)).heap[wr.heap.size]? = some (.cells #[.int .i64 kind, .int .i64 th, .int .u64 ref0, .bool bare] 77 (0, 0))) := Lib.hid (Hp.blk_new wr _)
      replace HV := Lib.hid (HV.out.still ((Fr.refl _ wr).alloc (.cells #[.int .i64 kind, .int .i64 th, .int .u64 ref0, .bool bare] 77)))
      generalize wr.alloc (.cells #[.int .i64 kind, .int .i64 th, .int .u64 ref0, .bool bare] 77) = w12 at KO HV ⊢
      generalize wr.heap.size = ob at KO ⊢
      obtain ⟨c1, d1⟩ := Hp.blk_cell HV.out.bx.qk 1 rfl
      obtain ⟨o0, -⟩ := Hp.blk_cell KO.out 0 rfl
      obtain ⟨o1, -⟩ := Hp.blk_cell KO.out 1 rfl
      have HTT := Lib.hid ht
      have ht2 : (t : Int) < (T : Int) := by omega
      go_upto_region 16 with (fail)
      rw [et]
      clear et c1 d1
      go_upto_region 18 with (fail)
      clear o0 o1
      by_cases h1 : kind = 1
      · subst h1
        as_aux_lemma =>
          have HRG : Hid (ring_right.f P T R t = some true) := Lib.hid (by
            have h' := HRT.out
            unfold Lay.right at h'
            have h'' := HTT.out
            rw [rp_ring, decide_eq_true (by unfold plOk; omega)])
          go_upto_region 19 with (fail)
          by_cases hV : ref0 = 0
          · subst hV
            go_cut [16, 17] from 75 to 83 (fun va vb wc => va = .pointer none ∧ vb = .int .i64 1 ∧ Hid (Below w12.heap.size w12 wc))
            case first =>
              refine Rg.Upto.start (fun w' => Below w12.heap.size w12 w') 1000 (by kernel_rfl) ((Below.refl _ _).drew) (fun HS0 => ?_)
              have HSC := HS0
              clear HS0
              refine Rg.Upto.takeA (i := 0) (v := ?_) rfl (by kernel_rfl) (by kernel_rfl) (by kernel_rfl) (of_decide_eq_true (by kernel_rfl)) (fun _ _ _ h => h) (by rfl) (fun w5 hS5 => ?_) HSC ?_
              rotate_left
              · have hq5 := blk_below HV.out.bx.qk hS5
                have c0 := (Hp.blk_cell hq5 0 rfl).1
                have c1 := (Hp.blk_cell hq5 1 rfl).1
                have c2 := (Hp.blk_cell hq5 2 rfl).1
                clear hS5
                go_simp
                try rfl
              try simp only [Act.put, List.setIfInBounds_toArray, List.set_cons_zero, List.set_cons_succ]
              refine Rg.Upto.takeA (i := 2) (v := ?_) rfl (by kernel_rfl) (by kernel_rfl) (by kernel_rfl) (of_decide_eq_true (by kernel_rfl)) (fun _ _ _ h => h) (by rfl) (fun w5 hS5 => ?_) HSC ?_
              rotate_left
              · clear hS5
                go_simp
                try rfl
              try simp only [Act.put, List.setIfInBounds_toArray, List.set_cons_zero, List.set_cons_succ]
              refine Rg.Upto.takeA (i := 3) (v := ?_) rfl (by kernel_rfl) (by kernel_rfl) (by kernel_rfl) (of_decide_eq_true (by kernel_rfl)) (fun _ _ _ h => h) (by rfl) (fun w5 hS5 => ?_) HSC ?_
              rotate_left
              · clear hS5
                go_simp
                try rfl
              try simp only [Act.put, List.setIfInBounds_toArray, List.set_cons_zero, List.set_cons_succ]
              refine Rg.Upto.takeA (i := 4) (v := ?_) rfl (by kernel_rfl) (by kernel_rfl) (by kernel_rfl) (of_decide_eq_true (by kernel_rfl)) (fun _ _ _ h => h) (by rfl) (fun w5 hS5 => ?_) HSC ?_
              rotate_left
              · have o2 := (Hp.blk_cell (blk_below KO.out hS5) 2 rfl).1
                clear hS5
                go_simp
                try rfl
              try simp only [Act.put, List.setIfInBounds_toArray, List.set_cons_zero, List.set_cons_succ]
              refine Rg.Upto.one (i := 1) rfl (by kernel_rfl) (by rfl) (fun KK hK => ?_)
              go_simp
              (with_reducible refine (windrowlaw07_plan.calls P T R P T R _ rfl).mono ?_)
              rintro e w5 ⟨rfl, hb⟩
              have HSC2 := HSC.trans (hb.mono HSC.size)
              refine hK.out _ _ HSC2 ?_
              clear hK KK HSC
              have HSC := HSC2
              clear HSC2
              try simp only [Act.put, List.setIfInBounds_toArray, List.set_cons_zero, List.set_cons_succ]
              clear hb
              refine Rg.Upto.one (i := 5) rfl (by kernel_rfl) (by rfl) (fun KK hK => ?_)
              go_simp
              (with_reducible refine (newPush_no _ P T R t 0 true HRG.out (.inr rfl)).mono ?_)
              rintro e w6 ⟨rfl, hb⟩
              have HSC2 := HSC.trans (hb.mono HSC.size)
              refine hK.out _ _ HSC2 ?_
              clear hK KK HSC
              have HSC := HSC2
              clear HSC2
              try simp only [Act.put, List.setIfInBounds_toArray, List.set_cons_zero, List.set_cons_succ]
              clear hb
              refine Rg.Upto.takeA (i := 6) (v := ?_) rfl (by kernel_rfl) (by kernel_rfl) (by kernel_rfl) (of_decide_eq_true (by kernel_rfl)) (fun _ _ _ h => h) (by rfl) (fun w5 hS5 => ?_) HSC ?_
              rotate_left
              · clear hS5
                go_simp
                try rfl
              try simp only [Act.put, List.setIfInBounds_toArray, List.set_cons_zero, List.set_cons_succ]
              refine Rg.Upto.takeA (i := 7) (v := ?_) rfl (by kernel_rfl) (by kernel_rfl) (by kernel_rfl) (of_decide_eq_true (by kernel_rfl)) (fun _ _ _ h => h) (by rfl) (fun w5 hS5 => ?_) HSC ?_
              rotate_left
              · clear hS5
                go_simp
                try rfl
              try simp only [Act.put, List.setIfInBounds_toArray, List.set_cons_zero, List.set_cons_succ]
              refine Rg.Upto.takeA (i := 8) (v := ?_) rfl (by kernel_rfl) (by kernel_rfl) (by kernel_rfl) (of_decide_eq_true (by kernel_rfl)) (fun _ _ _ h => h) (by rfl) (fun w5 hS5 => ?_) HSC ?_
              rotate_left
              · clear hS5
                go_simp
                try rfl
              try simp only [Act.put, List.setIfInBounds_toArray, List.set_cons_zero, List.set_cons_succ]
              refine Rg.Upto.takeA (i := 9) (v := ?_) rfl (by kernel_rfl) (by kernel_rfl) (by kernel_rfl) (of_decide_eq_true (by kernel_rfl)) (fun _ _ _ h => h) (by rfl) (fun w5 hS5 => ?_) HSC ?_
              rotate_left
              · clear hS5
                go_simp
                try rfl
              try simp only [Act.put, List.setIfInBounds_toArray, List.set_cons_zero, List.set_cons_succ]
              refine Rg.Upto.takeA (i := 10) (v := ?_) rfl (by kernel_rfl) (by kernel_rfl) (by kernel_rfl) (of_decide_eq_true (by kernel_rfl)) (fun _ _ _ h => h) (by rfl) (fun w5 hS5 => ?_) HSC ?_
              rotate_left
              · clear hS5
                go_simp
                try rfl
              try simp only [Act.put, List.setIfInBounds_toArray, List.set_cons_zero, List.set_cons_succ]
              refine Rg.Upto.done (by kernel_rfl) ?_
              go_wp2_with (fail)
              go_meet
              exact ⟨rfl, rfl, Lib.hid HSC⟩
            case rest =>
              obtain ⟨rfl, rfl, HSC⟩ := hcut
              obtain ⟨o2, -⟩ := Hp.blk_cell (blk_below KO.out HSC.out) 2 rfl
              replace HV := Lib.hid (HV.out.below HSC.out)
              go_upto_region 44 with (fail)
              clear o2
              go_wp2_with (first
                | (go_at_call 34; ((have hm := HV.out.duo.sys.faults); rw [HV.out.ok.nf] at hm; (with_reducible refine hm.mono ?_); clear hm; rintro e wf ⟨rfl, hwf⟩; obtain rfl := hwf.symm)))
              go_roundw
              case rel => exact ⟨true, k + 1, s, _, _, by omega, by omega, rfl, by go_num, HV, Lib.hid (by have := HL.out; omega)⟩
              case measure => simp [intOf]; omega
          · have HV0 := Lib.hid hV
            clear hV
            go_cut [16, 17] from 75 to 83 (fun va vb wc => ∃ m, va = .pointer (some ⟨m, 0, none⟩) ∧ vb = .int .i64 0 ∧ Hid (w12.heap.size ≤ m ∧ IsPush wc m ⟨P, T, R, t, ref0, 0, 0, 0, false⟩) ∧ Hid (Below w12.heap.size w12 wc))
            case first =>
              refine Rg.Upto.start (fun w' => Below w12.heap.size w12 w') 1000 (by kernel_rfl) ((Below.refl _ _).drew) (fun HS0 => ?_)
              have HSC := HS0
              clear HS0
              refine Rg.Upto.takeA (i := 0) (v := ?_) rfl (by kernel_rfl) (by kernel_rfl) (by kernel_rfl) (of_decide_eq_true (by kernel_rfl)) (fun _ _ _ h => h) (by rfl) (fun w5 hS5 => ?_) HSC ?_
              rotate_left
              · have hq5 := blk_below HV.out.bx.qk hS5
                have c0 := (Hp.blk_cell hq5 0 rfl).1
                have c1 := (Hp.blk_cell hq5 1 rfl).1
                have c2 := (Hp.blk_cell hq5 2 rfl).1
                clear hS5
                go_simp
                try rfl
              try simp only [Act.put, List.setIfInBounds_toArray, List.set_cons_zero, List.set_cons_succ]
              refine Rg.Upto.takeA (i := 2) (v := ?_) rfl (by kernel_rfl) (by kernel_rfl) (by kernel_rfl) (of_decide_eq_true (by kernel_rfl)) (fun _ _ _ h => h) (by rfl) (fun w5 hS5 => ?_) HSC ?_
              rotate_left
              · clear hS5
                go_simp
                try rfl
              try simp only [Act.put, List.setIfInBounds_toArray, List.set_cons_zero, List.set_cons_succ]
              refine Rg.Upto.takeA (i := 3) (v := ?_) rfl (by kernel_rfl) (by kernel_rfl) (by kernel_rfl) (of_decide_eq_true (by kernel_rfl)) (fun _ _ _ h => h) (by rfl) (fun w5 hS5 => ?_) HSC ?_
              rotate_left
              · clear hS5
                go_simp
                try rfl
              try simp only [Act.put, List.setIfInBounds_toArray, List.set_cons_zero, List.set_cons_succ]
              refine Rg.Upto.takeA (i := 4) (v := ?_) rfl (by kernel_rfl) (by kernel_rfl) (by kernel_rfl) (of_decide_eq_true (by kernel_rfl)) (fun _ _ _ h => h) (by rfl) (fun w5 hS5 => ?_) HSC ?_
              rotate_left
              · have o2 := (Hp.blk_cell (blk_below KO.out hS5) 2 rfl).1
                clear hS5
                go_simp
                try rfl
              try simp only [Act.put, List.setIfInBounds_toArray, List.set_cons_zero, List.set_cons_succ]
              refine Rg.Upto.one (i := 1) rfl (by kernel_rfl) (by rfl) (fun KK hK => ?_)
              go_simp
              (with_reducible refine (windrowlaw07_plan.calls P T R P T R _ rfl).mono ?_)
              rintro e w5 ⟨rfl, hb⟩
              have HSC2 := HSC.trans (hb.mono HSC.size)
              refine hK.out _ _ HSC2 ?_
              clear hK KK HSC
              have HSC := HSC2
              clear HSC2
              try simp only [Act.put, List.setIfInBounds_toArray, List.set_cons_zero, List.set_cons_succ]
              clear hb
              refine Rg.Upto.one (i := 5) rfl (by kernel_rfl) (by rfl) (fun KK hK => ?_)
              go_simp
              (with_reducible refine (newPush_yes _ P T R t ref0 HRG.out HV0.out).mono ?_)
              rintro e w6 ⟨m, rfl, hm, hX, hb⟩
              have HM := Lib.hid (And.intro (Nat.le_trans HSC.size hm) hX)
              clear hm hX
              have HSC2 := HSC.trans (hb.mono HSC.size)
              refine hK.out _ _ HSC2 ?_
              clear hK KK HSC
              have HSC := HSC2
              clear HSC2
              try simp only [Act.put, List.setIfInBounds_toArray, List.set_cons_zero, List.set_cons_succ]
              clear hb
              refine Rg.Upto.takeA (i := 6) (v := ?_) rfl (by kernel_rfl) (by kernel_rfl) (by kernel_rfl) (of_decide_eq_true (by kernel_rfl)) (fun _ _ _ h => h) (by rfl) (fun w5 hS5 => ?_) HSC ?_
              rotate_left
              · clear hS5
                go_simp
                try rfl
              try simp only [Act.put, List.setIfInBounds_toArray, List.set_cons_zero, List.set_cons_succ]
              refine Rg.Upto.takeA (i := 7) (v := ?_) rfl (by kernel_rfl) (by kernel_rfl) (by kernel_rfl) (of_decide_eq_true (by kernel_rfl)) (fun _ _ _ h => h) (by rfl) (fun w5 hS5 => ?_) HSC ?_
              rotate_left
              · clear hS5
                go_simp
                try rfl
              try simp only [Act.put, List.setIfInBounds_toArray, List.set_cons_zero, List.set_cons_succ]
              refine Rg.Upto.takeA (i := 8) (v := ?_) rfl (by kernel_rfl) (by kernel_rfl) (by kernel_rfl) (of_decide_eq_true (by kernel_rfl)) (fun _ _ _ h => h) (by rfl) (fun w5 hS5 => ?_) HSC ?_
              rotate_left
              · clear hS5
                go_simp
                try rfl
              try simp only [Act.put, List.setIfInBounds_toArray, List.set_cons_zero, List.set_cons_succ]
              refine Rg.Upto.takeA (i := 9) (v := ?_) rfl (by kernel_rfl) (by kernel_rfl) (by kernel_rfl) (of_decide_eq_true (by kernel_rfl)) (fun _ _ _ h => h) (by rfl) (fun w5 hS5 => ?_) HSC ?_
              rotate_left
              · clear hS5
                go_simp
                try rfl
              try simp only [Act.put, List.setIfInBounds_toArray, List.set_cons_zero, List.set_cons_succ]
              refine Rg.Upto.takeA (i := 10) (v := ?_) rfl (by kernel_rfl) (by kernel_rfl) (by kernel_rfl) (of_decide_eq_true (by kernel_rfl)) (fun _ _ _ h => h) (by rfl) (fun w5 hS5 => ?_) HSC ?_
              rotate_left
              · clear hS5
                go_simp
                try rfl
              try simp only [Act.put, List.setIfInBounds_toArray, List.set_cons_zero, List.set_cons_succ]
              refine Rg.Upto.done (by kernel_rfl) ?_
              go_wp2_with (fail)
              go_meet
              exact ⟨m, rfl, rfl, HM, Lib.hid HSC⟩
            case rest =>
              obtain ⟨m, rfl, rfl, HM, HSC0⟩ := hcut
              obtain ⟨o2, -⟩ := Hp.blk_cell (blk_below KO.out HSC0.out) 2 rfl
              have hV2 : (ref0 != 0) = true := by simpa using HV0.out
              go_upto_region 23 with (fail)
              clear o2
              go_cut [] from 100 to 113 (fun wc' => ∃ O2 arr2, Hid (Inv w wc' ⟨a, c, am, cc, p, sb, qb, db, rb, fb⟩ P T R s O2 arr2))
              case first =>
                have hb0 := HV.out.part t HTT.out
                obtain ⟨v0, v1, v2, v3, v4, q⟩ := hb0
                have hsd := blk_below HV.out.bx.sd HSC0.out
                have HSB : Hid (sb < wc.drew.heap.size) := Lib.hid (blk_lt hsd)
                have HNE : Hid (ob ≠ sb) := Lib.hid (blk_ne KO.out HV.out.bx.sd (by decide))
                have hsd0 : wc.drew.heap[sb]? = some (.cells arr 81 (0, 0)) := hsd
                have hsd1 := Hp.blk_alloc hsd0 (.cells #[.slice none 0 0, .int .i64 0, .int .i64 0, .int .i64 0, .int .i64 0, .int .u64 0, .int .u64 0, .int .u64 0, .int .u64 0, .bool false] 85)
                obtain ⟨s0, f0⟩ := Hp.blk_cell hsd0 (t * 5) q.e0
                obtain ⟨s1, f1⟩ := Hp.blk_cell hsd1 (t * 5) q.e0
                obtain ⟨s2, f2⟩ := Hp.blk_cell hsd1 (t * 5 + 2) q.e2
                obtain ⟨s3, f3⟩ := Hp.blk_cell hsd1 (t * 5 + 4) q.e4
                clear q hsd hsd0 hsd1
                refine Rg.Upto.start (fun w' => w'.heap[ob]? = some (.cells #[.int .i64 1, .int .i64 th, .int .u64 ref0, .bool bare] 77 (0, 0))) 1000 (by kernel_rfl) (blk_below KO.out HSC0.out.drew) (fun HS0 => ?_)
                have HSC := HS0
                clear HS0
                have HBD : Hid (Below w12.heap.size w12 wc.drew) := Lib.hid HSC0.out.drew
                have HMD : Hid (w12.heap.size ≤ m ∧ IsPush wc.drew m ⟨P, T, R, t, ref0, 0, 0, 0, false⟩) := Lib.hid HM.out
                generalize wc.drew = wd at HSC HSB HBD HMD s0 f0 s1 f1 s2 f2 s3 f3 ⊢
                clear HM HSC0
                refine Rg.Upto.takeA (i := 0) (v := ?_) rfl (by kernel_rfl) (by kernel_rfl) (by kernel_rfl) (of_decide_eq_true (by kernel_rfl)) (fun _ _ _ h => h) (by rfl) (fun w5 hS5 => ?_) HSC ?_
                rotate_left
                · clear hS5
                  go_simp
                  try rfl
                try simp only [Act.put, List.setIfInBounds_toArray, List.set_cons_zero, List.set_cons_succ]
                refine Rg.Upto.takeA (i := 1) (v := ?_) rfl (by kernel_rfl) (by kernel_rfl) (by kernel_rfl) (of_decide_eq_true (by kernel_rfl)) (fun _ _ _ h => h) (by rfl) (fun w5 hS5 => ?_) HSC ?_
                rotate_left
                · clear hS5
                  go_simp
                  try rfl
                try simp only [Act.put, List.setIfInBounds_toArray, List.set_cons_zero, List.set_cons_succ]
                refine Rg.Upto.takeA (i := 2) (v := ?_) rfl (by kernel_rfl) (by kernel_rfl) (by kernel_rfl) (of_decide_eq_true (by kernel_rfl)) (fun _ _ _ h => h) (by rfl) (fun w5 hS5 => ?_) HSC ?_
                rotate_left
                · clear hS5
                  go_simp
                  try rfl
                try simp only [Act.put, List.setIfInBounds_toArray, List.set_cons_zero, List.set_cons_succ]
                refine Rg.Upto.takeA (i := 3) (v := ?_) rfl (by kernel_rfl) (by kernel_rfl) (by kernel_rfl) (of_decide_eq_true (by kernel_rfl)) (fun _ _ _ h => h) (by rfl) (fun w5 hS5 => ?_) HSC ?_
                rotate_left
                · clear hS5
                  go_simp
                  try rfl
                try simp only [Act.put, List.setIfInBounds_toArray, List.set_cons_zero, List.set_cons_succ]
                refine Rg.Upto.takeA (i := 4) (v := ?_) rfl (by kernel_rfl) (by kernel_rfl) (by kernel_rfl) (of_decide_eq_true (by kernel_rfl)) (fun _ _ _ h => h) (by rfl) (fun w5 hS5 => ?_) HSC ?_
                rotate_left
                · clear hS5
                  go_simp
                  try rfl
                try simp only [Act.put, List.setIfInBounds_toArray, List.set_cons_zero, List.set_cons_succ]
                refine Rg.Upto.takeA (i := 6) (v := ?_) rfl (by kernel_rfl) (by kernel_rfl) (by kernel_rfl) (of_decide_eq_true (by kernel_rfl)) (fun _ _ _ h => h) (by rfl) (fun w5 hS5 => ?_) HSC ?_
                rotate_left
                · clear hS5
                  go_simp
                  try rfl
                try simp only [Act.put, List.setIfInBounds_toArray, List.set_cons_zero, List.set_cons_succ]
                refine Rg.Upto.takeA (i := 7) (v := ?_) rfl (by kernel_rfl) (by kernel_rfl) (by kernel_rfl) (of_decide_eq_true (by kernel_rfl)) (fun _ _ _ h => h) (by rfl) (fun w5 hS5 => ?_) HSC ?_
                rotate_left
                · have o2 := (Hp.blk_cell hS5 2 rfl).1
                  clear hS5
                  go_simp
                  try rfl
                try simp only [Act.put, List.setIfInBounds_toArray, List.set_cons_zero, List.set_cons_succ]
                refine Rg.Upto.takeA (i := 8) (v := ?_) rfl (by kernel_rfl) (by kernel_rfl) (by kernel_rfl) (of_decide_eq_true (by kernel_rfl)) (fun _ _ _ h => h) (by rfl) (fun w5 hS5 => ?_) HSC ?_
                rotate_left
                · clear hS5
                  go_simp
                  try rfl
                try simp only [Act.put, List.setIfInBounds_toArray, List.set_cons_zero, List.set_cons_succ]
                refine Rg.Upto.takeA (i := 9) (v := ?_) rfl (by kernel_rfl) (by kernel_rfl) (by kernel_rfl) (of_decide_eq_true (by kernel_rfl)) (fun _ _ _ h => h) (by rfl) (fun w5 hS5 => ?_) HSC ?_
                rotate_left
                · clear hS5
                  go_simp
                  try rfl
                try simp only [Act.put, List.setIfInBounds_toArray, List.set_cons_zero, List.set_cons_succ]
                refine Rg.Upto.cases (L := [5, 10]) (by kernel_rfl) (by simp) (fun i hi => ?_)
                simp only [List.mem_cons, List.not_mem_nil, or_false] at hi
                rcases hi with rfl | rfl
                · refine ⟨_, rfl, rfl, fun KK hK => ?_⟩
                  go_simp
                  have HSC2 := Hp.blk_alloc HSC (.cells #[.slice none 0 0, .int .i64 0, .int .i64 0, .int .i64 0, .int .i64 0, .int .u64 0, .int .u64 0, .int .u64 0, .int .u64 0, .bool false] 85)
                  refine hK.out _ _ HSC2 ?_
                  clear hK KK HSC
                  have HSC := HSC2
                  clear HSC2
                  try simp only [Act.put, List.setIfInBounds_toArray, List.set_cons_zero, List.set_cons_succ]
                  refine Rg.Upto.one (i := 10) rfl (by kernel_rfl) (by rfl) (fun KK hK => ?_)
                  go_simp
                  have HSC2 := Hp.blk_far HSC ⟨sb, t * 5, none⟩ HNE.out (.pointer (some ⟨m, 0, none⟩))
                  refine hK.out _ _ HSC2 ?_
                  clear hK KK HSC
                  have HSC := HSC2
                  clear HSC2
                  try simp only [Act.put, List.setIfInBounds_toArray, List.set_cons_zero, List.set_cons_succ]
                  refine Rg.Upto.takeA (i := 11) (v := ?_) rfl (by kernel_rfl) (by kernel_rfl) (by kernel_rfl) (of_decide_eq_true (by kernel_rfl)) (fun _ _ _ h => h) (by rfl) (fun w5 hS5 => ?_) HSC ?_
                  rotate_left
                  · clear hS5
                    go_simp
                    try rfl
                  try simp only [Act.put, List.setIfInBounds_toArray, List.set_cons_zero, List.set_cons_succ]
                  refine Rg.Upto.takeA (i := 12) (v := ?_) rfl (by kernel_rfl) (by kernel_rfl) (by kernel_rfl) (of_decide_eq_true (by kernel_rfl)) (fun _ _ _ h => h) (by rfl) (fun w5 hS5 => ?_) HSC ?_
                  rotate_left
                  · clear hS5
                    go_simp
                    try rfl
                  try simp only [Act.put, List.setIfInBounds_toArray, List.set_cons_zero, List.set_cons_succ]
                  refine Rg.Upto.one (i := 13) rfl (by kernel_rfl) (by rfl) (fun KK hK => ?_)
                  go_simp
                  have HSC2 := Hp.blk_far HSC ⟨sb, t * 5 + 2, none⟩ HNE.out (.pointer (some ⟨wd.heap.size, 0, none⟩))
                  refine hK.out _ _ HSC2 ?_
                  clear hK KK HSC
                  have HSC := HSC2
                  clear HSC2
                  try simp only [Act.put, List.setIfInBounds_toArray, List.set_cons_zero, List.set_cons_succ]
                  refine Rg.Upto.takeA (i := 14) (v := ?_) rfl (by kernel_rfl) (by kernel_rfl) (by kernel_rfl) (of_decide_eq_true (by kernel_rfl)) (fun _ _ _ h => h) (by rfl) (fun w5 hS5 => ?_) HSC ?_
                  rotate_left
                  · clear hS5
                    go_simp
                    try rfl
                  try simp only [Act.put, List.setIfInBounds_toArray, List.set_cons_zero, List.set_cons_succ]
                  refine Rg.Upto.takeA (i := 15) (v := ?_) rfl (by kernel_rfl) (by kernel_rfl) (by kernel_rfl) (of_decide_eq_true (by kernel_rfl)) (fun _ _ _ h => h) (by rfl) (fun w5 hS5 => ?_) HSC ?_
                  rotate_left
                  · clear hS5
                    go_simp
                    try rfl
                  try simp only [Act.put, List.setIfInBounds_toArray, List.set_cons_zero, List.set_cons_succ]
                  refine Rg.Upto.one (i := 16) rfl (by kernel_rfl) (by rfl) (fun KK hK => ?_)
                  go_simp
                  have HSC2 := Hp.blk_far HSC ⟨sb, t * 5 + 4, none⟩ HNE.out (.int .u64 ref0)
                  refine hK.out _ _ HSC2 ?_
                  clear hK KK HSC
                  have HSC := HSC2
                  clear HSC2
                  try simp only [Act.put, List.setIfInBounds_toArray, List.set_cons_zero, List.set_cons_succ]
                  refine Rg.Upto.done (by kernel_rfl) ?_
                  go_wp2_with (fail)
                  go_meet
                  obtain ⟨O2, arr2, hP⟩ := HV.out.putP (w := wd.alloc (.cells #[.slice none 0 0, .int .i64 0, .int .i64 0, .int .i64 0, .int .i64 0, .int .u64 0, .int .u64 0, .int .u64 0, .int .u64 0, .bool false] 85)) (t := t) (x := (.pointer (some ⟨m, 0, none⟩))) (y := (.pointer (some ⟨wd.heap.size, 0, none⟩))) (z := (.int .u64 ref0)) (((Fr.refl _ w12).below HBD.out).alloc _) HTT.out (push_part HMD.out.1 (Hp.blk_alloc HMD.out.2 _) HXW.out HV.out.bel.size HBD.out.size (Hp.blk_new wd _))
                  exact ⟨O2, arr2, Lib.hid hP⟩
                · refine ⟨_, rfl, rfl, fun KK hK => ?_⟩
                  go_simp
                  have HSC2 := Hp.blk_far HSC ⟨sb, t * 5, none⟩ HNE.out (.pointer (some ⟨m, 0, none⟩))
                  refine hK.out _ _ HSC2 ?_
                  clear hK KK HSC
                  have HSC := HSC2
                  clear HSC2
                  try simp only [Act.put, List.setIfInBounds_toArray, List.set_cons_zero, List.set_cons_succ]
                  refine Rg.Upto.one (i := 5) rfl (by kernel_rfl) (by rfl) (fun KK hK => ?_)
                  go_simp
                  have HSC2 := Hp.blk_alloc HSC (.cells #[.slice none 0 0, .int .i64 0, .int .i64 0, .int .i64 0, .int .i64 0, .int .u64 0, .int .u64 0, .int .u64 0, .int .u64 0, .bool false] 85)
                  refine hK.out _ _ HSC2 ?_
                  clear hK KK HSC
                  have HSC := HSC2
                  clear HSC2
                  try simp only [Act.put, List.setIfInBounds_toArray, List.set_cons_zero, List.set_cons_succ]
                  rw [alloc_set wd ⟨sb, t * 5, none⟩ (.pointer (some ⟨m, 0, none⟩)) (.cells #[.slice none 0 0, .int .i64 0, .int .i64 0, .int .i64 0, .int .i64 0, .int .u64 0, .int .u64 0, .int .u64 0, .int .u64 0, .bool false] 85) HSB.out] at HSC ⊢
                  refine Rg.Upto.takeA (i := 11) (v := ?_) rfl (by kernel_rfl) (by kernel_rfl) (by kernel_rfl) (of_decide_eq_true (by kernel_rfl)) (fun _ _ _ h => h) (by rfl) (fun w5 hS5 => ?_) HSC ?_
                  rotate_left
                  · clear hS5
                    go_simp
                    try rfl
                  try simp only [Act.put, List.setIfInBounds_toArray, List.set_cons_zero, List.set_cons_succ]
                  refine Rg.Upto.takeA (i := 12) (v := ?_) rfl (by kernel_rfl) (by kernel_rfl) (by kernel_rfl) (of_decide_eq_true (by kernel_rfl)) (fun _ _ _ h => h) (by rfl) (fun w5 hS5 => ?_) HSC ?_
                  rotate_left
                  · clear hS5
                    go_simp
                    try rfl
                  try simp only [Act.put, List.setIfInBounds_toArray, List.set_cons_zero, List.set_cons_succ]
                  refine Rg.Upto.one (i := 13) rfl (by kernel_rfl) (by rfl) (fun KK hK => ?_)
                  go_simp
                  have HSC2 := Hp.blk_far HSC ⟨sb, t * 5 + 2, none⟩ HNE.out (.pointer (some ⟨wd.heap.size, 0, none⟩))
                  refine hK.out _ _ HSC2 ?_
                  clear hK KK HSC
                  have HSC := HSC2
                  clear HSC2
                  try simp only [Act.put, List.setIfInBounds_toArray, List.set_cons_zero, List.set_cons_succ]
                  refine Rg.Upto.takeA (i := 14) (v := ?_) rfl (by kernel_rfl) (by kernel_rfl) (by kernel_rfl) (of_decide_eq_true (by kernel_rfl)) (fun _ _ _ h => h) (by rfl) (fun w5 hS5 => ?_) HSC ?_
                  rotate_left
                  · clear hS5
                    go_simp
                    try rfl
                  try simp only [Act.put, List.setIfInBounds_toArray, List.set_cons_zero, List.set_cons_succ]
                  refine Rg.Upto.takeA (i := 15) (v := ?_) rfl (by kernel_rfl) (by kernel_rfl) (by kernel_rfl) (of_decide_eq_true (by kernel_rfl)) (fun _ _ _ h => h) (by rfl) (fun w5 hS5 => ?_) HSC ?_
                  rotate_left
                  · clear hS5
                    go_simp
                    try rfl
                  try simp only [Act.put, List.setIfInBounds_toArray, List.set_cons_zero, List.set_cons_succ]
                  refine Rg.Upto.one (i := 16) rfl (by kernel_rfl) (by rfl) (fun KK hK => ?_)
                  go_simp
                  have HSC2 := Hp.blk_far HSC ⟨sb, t * 5 + 4, none⟩ HNE.out (.int .u64 ref0)
                  refine hK.out _ _ HSC2 ?_
                  clear hK KK HSC
                  have HSC := HSC2
                  clear HSC2
                  try simp only [Act.put, List.setIfInBounds_toArray, List.set_cons_zero, List.set_cons_succ]
                  refine Rg.Upto.done (by kernel_rfl) ?_
                  go_wp2_with (fail)
                  go_meet
                  obtain ⟨O2, arr2, hP⟩ := HV.out.putP (w := wd.alloc (.cells #[.slice none 0 0, .int .i64 0, .int .i64 0, .int .i64 0, .int .i64 0, .int .u64 0, .int .u64 0, .int .u64 0, .int .u64 0, .bool false] 85)) (t := t) (x := (.pointer (some ⟨m, 0, none⟩))) (y := (.pointer (some ⟨wd.heap.size, 0, none⟩))) (z := (.int .u64 ref0)) (((Fr.refl _ w12).below HBD.out).alloc _) HTT.out (push_part HMD.out.1 (Hp.blk_alloc HMD.out.2 _) HXW.out HV.out.bel.size HBD.out.size (Hp.blk_new wd _))
                  exact ⟨O2, arr2, Lib.hid hP⟩
              case rest =>
                clear HV
                obtain ⟨O2, arr2, HV⟩ := hcut
                go_wp2_with (first
                  | (go_at_call 34; ((have hm := HV.out.duo.sys.faults); rw [HV.out.ok.nf] at hm; (with_reducible refine hm.mono ?_); clear hm; rintro e wf ⟨rfl, hwf⟩; obtain rfl := hwf.symm)))
                go_roundw
                case rel => exact ⟨true, k + 1, s, _, _, by omega, by omega, rfl, by go_num, HV, Lib.hid (by have := HL.out; omega)⟩
                case measure => simp [intOf]; omega
      · have g1 : (kind == 1) = false := by simpa using h1
        clear h1
        by_cases h2 : kind = 2
        · subst h2
          as_aux_lemma =>
            clear g1
            have HRG : Hid (ring_right.f P T R t = some true) := Lib.hid (by
              have h' := HRT.out
              unfold Lay.right at h'
              have h'' := HTT.out
              rw [rp_ring, decide_eq_true (by unfold plOk; omega)])
            obtain ⟨c0, -⟩ := Hp.blk_cell HV.out.bx.qk 0 rfl
            obtain ⟨c1, -⟩ := Hp.blk_cell HV.out.bx.qk 1 rfl
            obtain ⟨c2, -⟩ := Hp.blk_cell HV.out.bx.qk 2 rfl
            obtain ⟨v0, v1, v2, v3, v4, q⟩ := HV.out.part t HTT.out
            have HQ := Lib.hid q
            clear q
            go_upto_region 44 with (first
              | (go_at_call 13; ((with_reducible refine (windrowlaw07_plan.calls P T R P T R _ rfl).mono ?_); rintro e w5 ⟨rfl, hb⟩; (have HSC := Lib.hid hb); clear hb c0 c1 c2))
              | (go_at_call 22; ((with_reducible refine (newPop_yes _ P T R t HRG.out).mono ?_); rintro e w6 ⟨m, rfl, hm, hX, hb⟩; (have hb6 := HSC.out.trans (hb.mono HSC.out.size)); (have hs := Hp.blk_alloc (blk_below HV.out.bx.sd hb6) (.cells #[.slice none 0 0, .int .i64 0, .int .i64 0, .int .i64 0, .int .i64 0, .int .u64 0, .int .u64 0, .int .u64 0, .int .u64 0, .bool false] 85)); (obtain ⟨s1, f1⟩ := Hp.blk_cell hs (t * 5 + 1) HQ.out.e1); (obtain ⟨s2, f2⟩ := Hp.blk_cell hs (t * 5 + 3) HQ.out.e3); (have HM := Lib.hid (And.intro (Nat.le_trans HSC.out.size hm) hX)); (have HB6 := Lib.hid hb6); clear hm hX hb hb6 hs)))
            clear s1 f1 s2 f2
            obtain ⟨O2, arr2, hP⟩ := HV.out.putO (w := w6.alloc (.cells #[.slice none 0 0, .int .i64 0, .int .i64 0, .int .i64 0, .int .i64 0, .int .u64 0, .int .u64 0, .int .u64 0, .int .u64 0, .bool false] 85)) (t := t) (x := .pointer (some ⟨m, 0, none⟩)) (y := .pointer (some ⟨w6.heap.size, 0, none⟩)) (((Fr.refl _ w12).below HB6.out).alloc _) HTT.out (pop_part HM.out.1 (Hp.blk_alloc HM.out.2 _) HV.out.bel.size HB6.out.size (Hp.blk_new w6 _))
            clear HV
            have HV := Lib.hid hP
            clear hP HQ HM HSC HB6
            dsimp only at HV
            generalize (((w6.alloc (.cells #[.slice none 0 0, .int .i64 0, .int .i64 0, .int .i64 0, .int .i64 0, .int .u64 0, .int .u64 0, .int .u64 0, .int .u64 0, .bool false] 85)).setCell ⟨sb, t * 5 + 1, none⟩ (.pointer (some ⟨m, 0, none⟩))).setCell ⟨sb, t * 5 + 3, none⟩ (.pointer (some ⟨w6.heap.size, 0, none⟩))) = w8 at HV ⊢
            go_wp2_with (first
              | (go_at_call 34; ((have hm := HV.out.duo.sys.faults); rw [HV.out.ok.nf] at hm; (with_reducible refine hm.mono ?_); clear hm; rintro e wf ⟨rfl, hwf⟩; obtain rfl := hwf.symm)))
            go_roundw
            case rel => exact ⟨true, k + 1, s, _, _, by omega, by omega, rfl, by go_num, HV, Lib.hid (by have := HL.out; omega)⟩
            case measure => simp [intOf]; omega
        · have g2 : (kind == 2) = false := by simpa using h2
          clear h2
          by_cases h3 : kind = 3
          · subst h3
            as_aux_lemma =>
              clear g1 g2
              obtain ⟨v0, v1, v2, v3, v4, q⟩ := HV.out.part t HTT.out
              have hd5 : w12.heap[db]? = some (.cells #[.int .i64 P, .int .i64 T, .int .i64 R, .int .i64 (Lay.bs P T R : Nat), .int .i64 (Lay.tb T R : Nat), .int .i64 (Lay.cl P T R : Nat)] 43 (0, 0)) := HV.out.bx.dk
              obtain ⟨e0, -⟩ := Hp.blk_cell hd5 0 rfl
              obtain ⟨e1, -⟩ := Hp.blk_cell hd5 1 rfl
              obtain ⟨e2, -⟩ := Hp.blk_cell hd5 2 rfl
              obtain ⟨e3, -⟩ := Hp.blk_cell hd5 3 rfl
              obtain ⟨e4, -⟩ := Hp.blk_cell hd5 4 rfl
              obtain ⟨e5, -⟩ := Hp.blk_cell hd5 5 rfl
              obtain ⟨o3, -⟩ := Hp.blk_cell KO.out 3 rfl
              have qe := q.e0
              have hs0 := (Hp.blk_cell HV.out.bx.sd (t * 5) qe).1
              by_cases hv : v0 = .pointer none
              · subst hv
                clear q qe hd5
                go_upto_region 44 with (fail)
                clear e0 e1 e2 e3 e4 e5 o3 hs0
                go_wp2_with (first
                  | (go_at_call 34; ((have hm := HV.out.duo.sys.faults); rw [HV.out.ok.nf] at hm; (with_reducible refine hm.mono ?_); clear hm; rintro e wf ⟨rfl, hwf⟩; obtain rfl := hwf.symm)))
                go_roundw
                case rel => exact ⟨bg, k + 1, s, _, _, by omega, by omega, rfl, by go_num, HV, Lib.hid (by have := HL.out; omega)⟩
                case measure => simp [intOf]; omega
              · obtain ⟨m, rfl⟩ : ∃ m, v0 = .pointer (some ⟨m, 0, none⟩) := by
                  rcases q.sh with h | ⟨m, h⟩
                  · exact absurd h hv
                  · exact ⟨m, by first | (obtain ⟨_, _, _, _, _, _, _, _, _, h, _⟩ := h; exact h) | (obtain ⟨_, _, _, _, _, _, _, _, h, _⟩ := h; exact h)⟩
                have hst := HV.out.stepS HRT.out HTT.out bare qe (by have := HL.out; omega)
                unfold mapC at hst
                dsimp only at hst
                have HST := Lib.hid hst
                clear q qe hd5 hst hv
                go_upto_region 44 with (first
                  | (go_at_call 36; ((with_reducible refine HST.out.mono ?_); clear HST; rintro e w8 ⟨rfl, s2, O2, hV2, hl2⟩; clear HV; (have HV := Lib.hid hV2); (have HL2 := Lib.hid hl2); clear hV2 hl2)))
                clear e0 e1 e2 e3 e4 e5 o3 hs0
                go_wp2_with (first
                  | (go_at_call 34; ((have hm := HV.out.duo.sys.faults); rw [HV.out.ok.nf] at hm; (with_reducible refine hm.mono ?_); clear hm; rintro e wf ⟨rfl, hwf⟩; obtain rfl := hwf.symm)))
                go_roundw
                case rel => exact ⟨bg, k + 1, s2, _, _, by omega, by omega, rfl, by go_num, HV, Lib.hid (by have := HL.out; have := HL2.out; omega)⟩
                case measure => simp [intOf]; omega
          · have g3 : (kind == 3) = false := by simpa using h3
            clear h3
            by_cases h4 : kind = 4
            · subst h4
              as_aux_lemma =>
                clear g1 g2 g3
                obtain ⟨v0, v1, v2, v3, v4, q⟩ := HV.out.part t HTT.out
                have hd5 : w12.heap[db]? = some (.cells #[.int .i64 P, .int .i64 T, .int .i64 R, .int .i64 (Lay.bs P T R : Nat), .int .i64 (Lay.tb T R : Nat), .int .i64 (Lay.cl P T R : Nat)] 43 (0, 0)) := HV.out.bx.dk
                obtain ⟨e0, -⟩ := Hp.blk_cell hd5 0 rfl
                obtain ⟨e1, -⟩ := Hp.blk_cell hd5 1 rfl
                obtain ⟨e2, -⟩ := Hp.blk_cell hd5 2 rfl
                obtain ⟨e3, -⟩ := Hp.blk_cell hd5 3 rfl
                obtain ⟨e4, -⟩ := Hp.blk_cell hd5 4 rfl
                obtain ⟨e5, -⟩ := Hp.blk_cell hd5 5 rfl
                obtain ⟨o3, -⟩ := Hp.blk_cell KO.out 3 rfl
                have qe := q.e1
                have hs0 := (Hp.blk_cell HV.out.bx.sd (t * 5 + 1) qe).1
                by_cases hv : v1 = .pointer none
                · subst hv
                  clear q qe hd5
                  go_upto_region 44 with (fail)
                  clear e0 e1 e2 e3 e4 e5 o3 hs0
                  go_wp2_with (first
                    | (go_at_call 34; ((have hm := HV.out.duo.sys.faults); rw [HV.out.ok.nf] at hm; (with_reducible refine hm.mono ?_); clear hm; rintro e wf ⟨rfl, hwf⟩; obtain rfl := hwf.symm)))
                  go_roundw
                  case rel => exact ⟨bg, k + 1, s, _, _, by omega, by omega, rfl, by go_num, HV, Lib.hid (by have := HL.out; omega)⟩
                  case measure => simp [intOf]; omega
                · obtain ⟨m, rfl⟩ : ∃ m, v1 = .pointer (some ⟨m, 0, none⟩) := by
                    rcases q.mp with h | ⟨m, h⟩
                    · exact absurd h hv
                    · exact ⟨m, by first | (obtain ⟨_, _, _, _, _, _, _, _, _, h, _⟩ := h; exact h) | (obtain ⟨_, _, _, _, _, _, _, _, h, _⟩ := h; exact h)⟩
                  have hst := HV.out.stepM HRT.out HTT.out bare qe (by have := HL.out; omega)
                  unfold mapC at hst
                  dsimp only at hst
                  have HST := Lib.hid hst
                  clear q qe hd5 hst hv
                  go_upto_region 44 with (first
                    | (go_at_call 37; ((with_reducible refine HST.out.mono ?_); clear HST; rintro e w8 ⟨rfl, s2, O2, hV2, hl2⟩; clear HV; (have HV := Lib.hid hV2); (have HL2 := Lib.hid hl2); clear hV2 hl2)))
                  clear e0 e1 e2 e3 e4 e5 o3 hs0
                  go_wp2_with (first
                    | (go_at_call 34; ((have hm := HV.out.duo.sys.faults); rw [HV.out.ok.nf] at hm; (with_reducible refine hm.mono ?_); clear hm; rintro e wf ⟨rfl, hwf⟩; obtain rfl := hwf.symm)))
                  go_roundw
                  case rel => exact ⟨bg, k + 1, s2, _, _, by omega, by omega, rfl, by go_num, HV, Lib.hid (by have := HL.out; have := HL2.out; omega)⟩
                  case measure => simp [intOf]; omega
            · have g4 : (kind == 4) = false := by simpa using h4
              clear h4
              by_cases h5 : kind = 5
              · subst h5
                as_aux_lemma =>
                  clear g1 g2 g3 g4
                  obtain ⟨qs, HQS⟩ : ∃ qs : Nat, Hid (qs = 16 + t * (5 + R)) := ⟨_, Lib.hid rfl⟩
                  obtain ⟨q, HQ⟩ : ∃ q : Nat, Hid (q = qs + 3) := ⟨_, Lib.hid rfl⟩
                  have HST : Hid (windrowref06_Map_Status.f P T R (Lay.bs P T R : Nat) (Lay.tb T R : Nat) (Lay.cl P T R : Nat) t = some (qs : Int)) := Lib.hid (by rw [HQS.out]; exact m_stat HRT.out HTT.out _ _ _)
                  have HLT : Hid (q < Lay.cl P T R) := Lib.hid (by have h := r_lt HRT.out HTT.out (j := 3) (by have := HRT.out.2.2.2.2.1; omega); rw [HQ.out, HQS.out]; exact h)
                  have HHS : Hid (s.has (q : Int) = true) := Lib.hid (decide_eq_true ⟨Int.natCast_nonneg _, by rw [HV.out.ok.len]; have := HLT.out; omega⟩)
                  go_upto_region 39 with (fail)
                  go_cut [20] from 173 to 180 (fun v20 wc => v20 = .int .i64 (q : Int) ∧ Hid (Below w12.heap.size w12 wc))
                  case first =>
                    refine Rg.Upto.start (fun w' => Below w12.heap.size w12 w') 1000 (by kernel_rfl) ((Below.refl _ _).drew) (fun HS0 => ?_)
                    have HSC := HS0
                    clear HS0
                    refine Rg.Upto.takeA (i := 0) (v := ?_) rfl (by kernel_rfl) (by kernel_rfl) (by kernel_rfl) (of_decide_eq_true (by kernel_rfl)) (fun _ _ _ h => h) (by rfl) (fun w5 hS5 => ?_) HSC ?_
                    rotate_left
                    · have hd5 : w5.heap[db]? = some (.cells #[.int .i64 P, .int .i64 T, .int .i64 R, .int .i64 (Lay.bs P T R : Nat), .int .i64 (Lay.tb T R : Nat), .int .i64 (Lay.cl P T R : Nat)] 43 (0, 0)) := blk_below HV.out.bx.dk hS5
                      have e0 := (Hp.blk_cell hd5 0 rfl).1
                      have e1 := (Hp.blk_cell hd5 1 rfl).1
                      have e2 := (Hp.blk_cell hd5 2 rfl).1
                      have e3 := (Hp.blk_cell hd5 3 rfl).1
                      have e4 := (Hp.blk_cell hd5 4 rfl).1
                      have e5 := (Hp.blk_cell hd5 5 rfl).1
                      clear hS5
                      go_simp
                      try rfl
                    try simp only [Act.put, List.setIfInBounds_toArray, List.set_cons_zero, List.set_cons_succ]
                    refine Rg.Upto.takeA (i := 1) (v := ?_) rfl (by kernel_rfl) (by kernel_rfl) (by kernel_rfl) (of_decide_eq_true (by kernel_rfl)) (fun _ _ _ h => h) (by rfl) (fun w5 hS5 => ?_) HSC ?_
                    rotate_left
                    · clear hS5
                      go_simp
                      try rfl
                    try simp only [Act.put, List.setIfInBounds_toArray, List.set_cons_zero, List.set_cons_succ]
                    refine Rg.Upto.takeA (i := 4) (v := ?_) rfl (by kernel_rfl) (by kernel_rfl) (by kernel_rfl) (of_decide_eq_true (by kernel_rfl)) (fun _ _ _ h => h) (by rfl) (fun w5 hS5 => ?_) HSC ?_
                    rotate_left
                    · clear hS5
                      go_simp
                      try rfl
                    try simp only [Act.put, List.setIfInBounds_toArray, List.set_cons_zero, List.set_cons_succ]
                    refine Rg.Upto.takeA (i := 5) (v := ?_) rfl (by kernel_rfl) (by kernel_rfl) (by kernel_rfl) (of_decide_eq_true (by kernel_rfl)) (fun _ _ _ h => h) (by rfl) (fun w5 hS5 => ?_) HSC ?_
                    rotate_left
                    · have o0 := (Hp.blk_cell (blk_below KO.out hS5) 0 rfl).1
                      clear hS5
                      go_simp
                      try rfl
                    try simp only [Act.put, List.setIfInBounds_toArray, List.set_cons_zero, List.set_cons_succ]
                    refine Rg.Upto.takeA (i := 6) (v := ?_) rfl (by kernel_rfl) (by kernel_rfl) (by kernel_rfl) (of_decide_eq_true (by kernel_rfl)) (fun _ _ _ h => h) (by rfl) (fun w5 hS5 => ?_) HSC ?_
                    rotate_left
                    · clear hS5
                      go_simp
                      try rfl
                    try simp only [Act.put, List.setIfInBounds_toArray, List.set_cons_zero, List.set_cons_succ]
                    refine Rg.Upto.one (i := 2) rfl (by kernel_rfl) (by rfl) (fun KK hK => ?_)
                    go_simp
                    (with_reducible refine (windrowref06_Map_Status.calls _ _ _ _ _ _ _ _ _ HST.out).mono ?_)
                    rintro e w5 ⟨rfl, hb⟩
                    have HSC2 := HSC.trans (hb.mono HSC.size)
                    refine hK.out _ _ HSC2 ?_
                    clear hK KK HSC
                    have HSC := HSC2
                    clear HSC2
                    try simp only [Act.put, List.setIfInBounds_toArray, List.set_cons_zero, List.set_cons_succ]
                    clear hb
                    refine Rg.Upto.takeA (i := 3) (v := ?_) rfl (by kernel_rfl) (by kernel_rfl) (by kernel_rfl) (of_decide_eq_true (by kernel_rfl)) (fun _ _ _ h => h) (by rfl) (fun w5 hS5 => ?_) HSC ?_
                    rotate_left
                    · clear hS5
                      go_simp
                      try rfl
                    try simp only [Act.put, List.setIfInBounds_toArray, List.set_cons_zero, List.set_cons_succ]
                    refine Rg.Upto.takeA (i := 7) (v := ?_) rfl (by kernel_rfl) (by kernel_rfl) (by kernel_rfl) (of_decide_eq_true (by kernel_rfl)) (fun _ _ _ h => h) (by rfl) (fun w5 hS5 => ?_) HSC ?_
                    rotate_left
                    · clear hS5
                      go_simp
                      try rfl
                    try simp only [Act.put, List.setIfInBounds_toArray, List.set_cons_zero, List.set_cons_succ]
                    refine Rg.Upto.takeA (i := 8) (v := ?_) rfl (by kernel_rfl) (by kernel_rfl) (by kernel_rfl) (of_decide_eq_true (by kernel_rfl)) (fun _ _ _ h => h) (by rfl) (fun w5 hS5 => ?_) HSC ?_
                    rotate_left
                    · clear hS5
                      go_simp
                      try rfl
                    try simp only [Act.put, List.setIfInBounds_toArray, List.set_cons_zero, List.set_cons_succ]
                    refine Rg.Upto.done (by kernel_rfl) ?_
                    go_wp2_with (fail)
                    go_meet
                    exact ⟨congrArg (Value.int .i64) (poke_at (j := 0) HQ.out (by have h4 := HLT.out; have h5 := HCL.out.2; omega)), Lib.hid HSC⟩
                  case rest =>
                    obtain ⟨rfl, HSC⟩ := hcut
                    replace HV := Lib.hid (HV.out.below HSC.out)
                    replace KO := Lib.hid (blk_below KO.out HSC.out)
                    obtain ⟨o2, -⟩ := Hp.blk_cell KO.out 2 rfl
                    cases bg
                    · have HNO := Lib.hid (duo_nt HV.out.duo KO.out (by decide))
                      have HND := Lib.hid (duo_nt HV.out.duo HV.out.bx.dk (by decide))
                      go_upto_region 43 with (first
                        | (go_at_call 31; ((with_reducible refine (HV.out.duo.poke (q : Int) ref0 HHS.out).mono ?_); rintro e w13 ⟨rfl, hD⟩; (have HDD := Lib.hid hD); (have HKO := Lib.hid (hD.fr.blk KO.out HNO.out)); clear hD o2)))
                      obtain ⟨lv1, lv2, hA1, hM1, -⟩ := HDD.out.duo.both
                      have HMB := Lib.hid hM1.blk
                      have HCC := Lib.hid hM1.cel
                      have hne1 : am ≠ cc := hM1.mc
                      have hne2 : ob ≠ cc := blk_ne HKO.out hM1.cel (by decide)
                      obtain ⟨x0, hx0⟩ : ∃ x0, s.cells[q]? = some x0 := ⟨_, List.getElem?_eq_getElem (by rw [HV.out.ok.len]; exact HLT.out)⟩
                      obtain ⟨z0, y0⟩ := Hp.blk_cell (w := w13.drew) hM1.cel q (v := .int .u64 x0) (by simp [hx0])
                      have hql : (q : Int) < (s.cells.length : Int) := by have := HLT.out; rw [HV.out.ok.len]; omega
                      clear hA1 hM1 hx0
                      refine Rg.Upto.start (fun w' => w'.heap[am]? = w13.heap[am]? ∧ w'.heap[ob]? = w13.heap[ob]?) 1000 (by kernel_rfl) ⟨rfl, rfl⟩ (fun HS0 => ?_)
                      have HSC := HS0
                      clear HS0
                      refine Rg.Upto.takeA (i := 0) (v := ?_) rfl (by kernel_rfl) (by kernel_rfl) (by kernel_rfl) (of_decide_eq_true (by kernel_rfl)) (fun _ _ _ h => h) (by rfl) (fun w5 hS5 => ?_) HSC ?_
                      rotate_left
                      · clear hS5
                        go_simp
                        try rfl
                      try simp only [Act.put, List.setIfInBounds_toArray, List.set_cons_zero, List.set_cons_succ]
                      refine Rg.Upto.takeA (i := 1) (v := ?_) rfl (by kernel_rfl) (by kernel_rfl) (by kernel_rfl) (of_decide_eq_true (by kernel_rfl)) (fun _ _ _ h => h) (by rfl) (fun w5 hS5 => ?_) HSC ?_
                      rotate_left
                      · clear hS5
                        go_simp
                        try rfl
                      try simp only [Act.put, List.setIfInBounds_toArray, List.set_cons_zero, List.set_cons_succ]
                      refine Rg.Upto.takeA (i := 2) (v := ?_) rfl (by kernel_rfl) (by kernel_rfl) (by kernel_rfl) (of_decide_eq_true (by kernel_rfl)) (fun _ _ _ h => h) (by rfl) (fun w5 hS5 => ?_) HSC ?_
                      rotate_left
                      · clear hS5
                        go_simp
                        try rfl
                      try simp only [Act.put, List.setIfInBounds_toArray, List.set_cons_zero, List.set_cons_succ]
                      refine Rg.Upto.takeA (i := 3) (v := ?_) rfl (by kernel_rfl) (by kernel_rfl) (by kernel_rfl) (of_decide_eq_true (by kernel_rfl)) (fun _ _ _ h => h) (by rfl) (fun w5 hS5 => ?_) HSC ?_
                      rotate_left
                      · have m0 := (Hp.blk_cell (hS5.1.trans HMB.out) 0 rfl).1
                        clear hS5
                        go_simp
                        try rfl
                      try simp only [Act.put, List.setIfInBounds_toArray, List.set_cons_zero, List.set_cons_succ]
                      refine Rg.Upto.takeA (i := 4) (v := ?_) rfl (by kernel_rfl) (by kernel_rfl) (by kernel_rfl) (of_decide_eq_true (by kernel_rfl)) (fun _ _ _ h => h) (by rfl) (fun w5 hS5 => ?_) HSC ?_
                      rotate_left
                      · clear hS5
                        go_simp
                        try rfl
                      try simp only [Act.put, List.setIfInBounds_toArray, List.set_cons_zero, List.set_cons_succ]
                      refine Rg.Upto.takeA (i := 5) (v := ?_) rfl (by kernel_rfl) (by kernel_rfl) (by kernel_rfl) (of_decide_eq_true (by kernel_rfl)) (fun _ _ _ h => h) (by rfl) (fun w5 hS5 => ?_) HSC ?_
                      rotate_left
                      · clear hS5
                        go_simp
                        try rfl
                      try simp only [Act.put, List.setIfInBounds_toArray, List.set_cons_zero, List.set_cons_succ]
                      refine Rg.Upto.takeA (i := 6) (v := ?_) rfl (by kernel_rfl) (by kernel_rfl) (by kernel_rfl) (of_decide_eq_true (by kernel_rfl)) (fun _ _ _ h => h) (by rfl) (fun w5 hS5 => ?_) HSC ?_
                      rotate_left
                      · have o2 := (Hp.blk_cell (hS5.2.trans HKO.out) 2 rfl).1
                        clear hS5
                        go_simp
                        try rfl
                      try simp only [Act.put, List.setIfInBounds_toArray, List.set_cons_zero, List.set_cons_succ]
                      refine Rg.Upto.takeA (i := 7) (v := ?_) rfl (by kernel_rfl) (by kernel_rfl) (by kernel_rfl) (of_decide_eq_true (by kernel_rfl)) (fun _ _ _ h => h) (by rfl) (fun w5 hS5 => ?_) HSC ?_
                      rotate_left
                      · clear hS5
                        go_simp
                        try rfl
                      try simp only [Act.put, List.setIfInBounds_toArray, List.set_cons_zero, List.set_cons_succ]
                      refine Rg.Upto.one (i := 8) rfl (by kernel_rfl) (by rfl) (fun KK hK => ?_)
                      go_simp
                      refine hK.out _ _ ⟨(Hp.blk_far (HSC.1.trans HMB.out) ⟨cc, q, none⟩ hne1 _).trans HMB.out.symm, (Hp.blk_far (HSC.2.trans HKO.out) ⟨cc, q, none⟩ hne2 _).trans HKO.out.symm⟩ ?_
                      clear hK KK
                      try simp only [Act.put, List.setIfInBounds_toArray, List.set_cons_zero, List.set_cons_succ]
                      refine Rg.Upto.done (by kernel_rfl) ?_
                      go_upto_region 44 with (fail)
                      have hp := (HV.out.poked HXW.out HDD.out).drew
                      clear HV HDD HKO HMB HCC HSC z0 y0
                      have HV := Lib.hid hp
                      clear hp
                      dsimp only at HV
                      generalize (World.drew (w13.setCell ⟨cc, q, none⟩ (.int .u64 ref0))) = w14 at HV
                      generalize hw15 : (w13.drew.setCell ⟨cc, q, none⟩ (.int .u64 ref0)) = w15
                      go_wp2_with (first
                        | (go_at_call 34; ((have hm := HV.out.duo.sys.faults); rw [HV.out.ok.nf] at hm; (with_reducible refine hm.mono ?_); clear hm; rintro e wf ⟨rfl, hwf⟩; obtain rfl := hwf.symm)))
                      go_roundw
                      case rel => exact ⟨false, k + 1, (s.poked q ref0), _, _, by omega, by omega, rfl, by go_num, HV, Lib.hid (by have := HL.out; show s.log.length ≤ _; omega)⟩
                      case measure => simp [intOf]; omega
                    · go_upto_region 44 with (fail)
                      clear o2
                      go_wp2_with (first
                        | (go_at_call 34; ((have hm := HV.out.duo.sys.faults); rw [HV.out.ok.nf] at hm; (with_reducible refine hm.mono ?_); clear hm; rintro e wf ⟨rfl, hwf⟩; obtain rfl := hwf.symm)))
                      go_roundw
                      case rel => exact ⟨true, k + 1, s, _, _, by omega, by omega, rfl, by go_num, HV, Lib.hid (by have := HL.out; omega)⟩
                      case measure => simp [intOf]; omega
              · have g5 : (kind == 5) = false := by simpa using h5
                clear h5
                by_cases h6 : kind = 6
                · subst h6
                  as_aux_lemma =>
                    clear g1 g2 g3 g4
                    obtain ⟨qs, HQS⟩ : ∃ qs : Nat, Hid (qs = 16 + t * (5 + R)) := ⟨_, Lib.hid rfl⟩
                    obtain ⟨q, HQ⟩ : ∃ q : Nat, Hid (q = qs + 4) := ⟨_, Lib.hid rfl⟩
                    have HST : Hid (windrowref06_Map_Status.f P T R (Lay.bs P T R : Nat) (Lay.tb T R : Nat) (Lay.cl P T R : Nat) t = some (qs : Int)) := Lib.hid (by rw [HQS.out]; exact m_stat HRT.out HTT.out _ _ _)
                    have HLT : Hid (q < Lay.cl P T R) := Lib.hid (by have h := r_lt HRT.out HTT.out (j := 4) (by have := HRT.out.2.2.2.2.1; omega); rw [HQ.out, HQS.out]; exact h)
                    have HHS : Hid (s.has (q : Int) = true) := Lib.hid (decide_eq_true ⟨Int.natCast_nonneg _, by rw [HV.out.ok.len]; have := HLT.out; omega⟩)
                    go_upto_region 39 with (fail)
                    go_cut [20] from 173 to 180 (fun v20 wc => v20 = .int .i64 (q : Int) ∧ Hid (Below w12.heap.size w12 wc))
                    case first =>
                      refine Rg.Upto.start (fun w' => Below w12.heap.size w12 w') 1000 (by kernel_rfl) ((Below.refl _ _).drew) (fun HS0 => ?_)
                      have HSC := HS0
                      clear HS0
                      refine Rg.Upto.takeA (i := 0) (v := ?_) rfl (by kernel_rfl) (by kernel_rfl) (by kernel_rfl) (of_decide_eq_true (by kernel_rfl)) (fun _ _ _ h => h) (by rfl) (fun w5 hS5 => ?_) HSC ?_
                      rotate_left
                      · have hd5 : w5.heap[db]? = some (.cells #[.int .i64 P, .int .i64 T, .int .i64 R, .int .i64 (Lay.bs P T R : Nat), .int .i64 (Lay.tb T R : Nat), .int .i64 (Lay.cl P T R : Nat)] 43 (0, 0)) := blk_below HV.out.bx.dk hS5
                        have e0 := (Hp.blk_cell hd5 0 rfl).1
                        have e1 := (Hp.blk_cell hd5 1 rfl).1
                        have e2 := (Hp.blk_cell hd5 2 rfl).1
                        have e3 := (Hp.blk_cell hd5 3 rfl).1
                        have e4 := (Hp.blk_cell hd5 4 rfl).1
                        have e5 := (Hp.blk_cell hd5 5 rfl).1
                        clear hS5
                        go_simp
                        try rfl
                      try simp only [Act.put, List.setIfInBounds_toArray, List.set_cons_zero, List.set_cons_succ]
                      refine Rg.Upto.takeA (i := 1) (v := ?_) rfl (by kernel_rfl) (by kernel_rfl) (by kernel_rfl) (of_decide_eq_true (by kernel_rfl)) (fun _ _ _ h => h) (by rfl) (fun w5 hS5 => ?_) HSC ?_
                      rotate_left
                      · clear hS5
                        go_simp
                        try rfl
                      try simp only [Act.put, List.setIfInBounds_toArray, List.set_cons_zero, List.set_cons_succ]
                      refine Rg.Upto.takeA (i := 4) (v := ?_) rfl (by kernel_rfl) (by kernel_rfl) (by kernel_rfl) (of_decide_eq_true (by kernel_rfl)) (fun _ _ _ h => h) (by rfl) (fun w5 hS5 => ?_) HSC ?_
                      rotate_left
                      · clear hS5
                        go_simp
                        try rfl
                      try simp only [Act.put, List.setIfInBounds_toArray, List.set_cons_zero, List.set_cons_succ]
                      refine Rg.Upto.takeA (i := 5) (v := ?_) rfl (by kernel_rfl) (by kernel_rfl) (by kernel_rfl) (of_decide_eq_true (by kernel_rfl)) (fun _ _ _ h => h) (by rfl) (fun w5 hS5 => ?_) HSC ?_
                      rotate_left
                      · have o0 := (Hp.blk_cell (blk_below KO.out hS5) 0 rfl).1
                        clear hS5
                        go_simp
                        try rfl
                      try simp only [Act.put, List.setIfInBounds_toArray, List.set_cons_zero, List.set_cons_succ]
                      refine Rg.Upto.takeA (i := 6) (v := ?_) rfl (by kernel_rfl) (by kernel_rfl) (by kernel_rfl) (of_decide_eq_true (by kernel_rfl)) (fun _ _ _ h => h) (by rfl) (fun w5 hS5 => ?_) HSC ?_
                      rotate_left
                      · clear hS5
                        go_simp
                        try rfl
                      try simp only [Act.put, List.setIfInBounds_toArray, List.set_cons_zero, List.set_cons_succ]
                      refine Rg.Upto.one (i := 2) rfl (by kernel_rfl) (by rfl) (fun KK hK => ?_)
                      go_simp
                      (with_reducible refine (windrowref06_Map_Status.calls _ _ _ _ _ _ _ _ _ HST.out).mono ?_)
                      rintro e w5 ⟨rfl, hb⟩
                      have HSC2 := HSC.trans (hb.mono HSC.size)
                      refine hK.out _ _ HSC2 ?_
                      clear hK KK HSC
                      have HSC := HSC2
                      clear HSC2
                      try simp only [Act.put, List.setIfInBounds_toArray, List.set_cons_zero, List.set_cons_succ]
                      clear hb
                      refine Rg.Upto.takeA (i := 3) (v := ?_) rfl (by kernel_rfl) (by kernel_rfl) (by kernel_rfl) (of_decide_eq_true (by kernel_rfl)) (fun _ _ _ h => h) (by rfl) (fun w5 hS5 => ?_) HSC ?_
                      rotate_left
                      · clear hS5
                        go_simp
                        try rfl
                      try simp only [Act.put, List.setIfInBounds_toArray, List.set_cons_zero, List.set_cons_succ]
                      refine Rg.Upto.takeA (i := 7) (v := ?_) rfl (by kernel_rfl) (by kernel_rfl) (by kernel_rfl) (of_decide_eq_true (by kernel_rfl)) (fun _ _ _ h => h) (by rfl) (fun w5 hS5 => ?_) HSC ?_
                      rotate_left
                      · clear hS5
                        go_simp
                        try rfl
                      try simp only [Act.put, List.setIfInBounds_toArray, List.set_cons_zero, List.set_cons_succ]
                      refine Rg.Upto.takeA (i := 8) (v := ?_) rfl (by kernel_rfl) (by kernel_rfl) (by kernel_rfl) (of_decide_eq_true (by kernel_rfl)) (fun _ _ _ h => h) (by rfl) (fun w5 hS5 => ?_) HSC ?_
                      rotate_left
                      · clear hS5
                        go_simp
                        try rfl
                      try simp only [Act.put, List.setIfInBounds_toArray, List.set_cons_zero, List.set_cons_succ]
                      refine Rg.Upto.done (by kernel_rfl) ?_
                      go_wp2_with (fail)
                      go_meet
                      exact ⟨congrArg (Value.int .i64) (poke_at (j := 1) HQ.out (by have h4 := HLT.out; have h5 := HCL.out.2; omega)), Lib.hid HSC⟩
                    case rest =>
                      obtain ⟨rfl, HSC⟩ := hcut
                      replace HV := Lib.hid (HV.out.below HSC.out)
                      replace KO := Lib.hid (blk_below KO.out HSC.out)
                      obtain ⟨o2, -⟩ := Hp.blk_cell KO.out 2 rfl
                      cases bg
                      · have HNO := Lib.hid (duo_nt HV.out.duo KO.out (by decide))
                        have HND := Lib.hid (duo_nt HV.out.duo HV.out.bx.dk (by decide))
                        go_upto_region 43 with (first
                          | (go_at_call 31; ((with_reducible refine (HV.out.duo.poke (q : Int) ref0 HHS.out).mono ?_); rintro e w13 ⟨rfl, hD⟩; (have HDD := Lib.hid hD); (have HKO := Lib.hid (hD.fr.blk KO.out HNO.out)); clear hD o2)))
                        obtain ⟨lv1, lv2, hA1, hM1, -⟩ := HDD.out.duo.both
                        have HMB := Lib.hid hM1.blk
                        have HCC := Lib.hid hM1.cel
                        have hne1 : am ≠ cc := hM1.mc
                        have hne2 : ob ≠ cc := blk_ne HKO.out hM1.cel (by decide)
                        obtain ⟨x0, hx0⟩ : ∃ x0, s.cells[q]? = some x0 := ⟨_, List.getElem?_eq_getElem (by rw [HV.out.ok.len]; exact HLT.out)⟩
                        obtain ⟨z0, y0⟩ := Hp.blk_cell (w := w13.drew) hM1.cel q (v := .int .u64 x0) (by simp [hx0])
                        have hql : (q : Int) < (s.cells.length : Int) := by have := HLT.out; rw [HV.out.ok.len]; omega
                        clear hA1 hM1 hx0
                        refine Rg.Upto.start (fun w' => w'.heap[am]? = w13.heap[am]? ∧ w'.heap[ob]? = w13.heap[ob]?) 1000 (by kernel_rfl) ⟨rfl, rfl⟩ (fun HS0 => ?_)
                        have HSC := HS0
                        clear HS0
                        refine Rg.Upto.takeA (i := 0) (v := ?_) rfl (by kernel_rfl) (by kernel_rfl) (by kernel_rfl) (of_decide_eq_true (by kernel_rfl)) (fun _ _ _ h => h) (by rfl) (fun w5 hS5 => ?_) HSC ?_
                        rotate_left
                        · clear hS5
                          go_simp
                          try rfl
                        try simp only [Act.put, List.setIfInBounds_toArray, List.set_cons_zero, List.set_cons_succ]
                        refine Rg.Upto.takeA (i := 1) (v := ?_) rfl (by kernel_rfl) (by kernel_rfl) (by kernel_rfl) (of_decide_eq_true (by kernel_rfl)) (fun _ _ _ h => h) (by rfl) (fun w5 hS5 => ?_) HSC ?_
                        rotate_left
                        · clear hS5
                          go_simp
                          try rfl
                        try simp only [Act.put, List.setIfInBounds_toArray, List.set_cons_zero, List.set_cons_succ]
                        refine Rg.Upto.takeA (i := 2) (v := ?_) rfl (by kernel_rfl) (by kernel_rfl) (by kernel_rfl) (of_decide_eq_true (by kernel_rfl)) (fun _ _ _ h => h) (by rfl) (fun w5 hS5 => ?_) HSC ?_
                        rotate_left
                        · clear hS5
                          go_simp
                          try rfl
                        try simp only [Act.put, List.setIfInBounds_toArray, List.set_cons_zero, List.set_cons_succ]
                        refine Rg.Upto.takeA (i := 3) (v := ?_) rfl (by kernel_rfl) (by kernel_rfl) (by kernel_rfl) (of_decide_eq_true (by kernel_rfl)) (fun _ _ _ h => h) (by rfl) (fun w5 hS5 => ?_) HSC ?_
                        rotate_left
                        · have m0 := (Hp.blk_cell (hS5.1.trans HMB.out) 0 rfl).1
                          clear hS5
                          go_simp
                          try rfl
                        try simp only [Act.put, List.setIfInBounds_toArray, List.set_cons_zero, List.set_cons_succ]
                        refine Rg.Upto.takeA (i := 4) (v := ?_) rfl (by kernel_rfl) (by kernel_rfl) (by kernel_rfl) (of_decide_eq_true (by kernel_rfl)) (fun _ _ _ h => h) (by rfl) (fun w5 hS5 => ?_) HSC ?_
                        rotate_left
                        · clear hS5
                          go_simp
                          try rfl
                        try simp only [Act.put, List.setIfInBounds_toArray, List.set_cons_zero, List.set_cons_succ]
                        refine Rg.Upto.takeA (i := 5) (v := ?_) rfl (by kernel_rfl) (by kernel_rfl) (by kernel_rfl) (of_decide_eq_true (by kernel_rfl)) (fun _ _ _ h => h) (by rfl) (fun w5 hS5 => ?_) HSC ?_
                        rotate_left
                        · clear hS5
                          go_simp
                          try rfl
                        try simp only [Act.put, List.setIfInBounds_toArray, List.set_cons_zero, List.set_cons_succ]
                        refine Rg.Upto.takeA (i := 6) (v := ?_) rfl (by kernel_rfl) (by kernel_rfl) (by kernel_rfl) (of_decide_eq_true (by kernel_rfl)) (fun _ _ _ h => h) (by rfl) (fun w5 hS5 => ?_) HSC ?_
                        rotate_left
                        · have o2 := (Hp.blk_cell (hS5.2.trans HKO.out) 2 rfl).1
                          clear hS5
                          go_simp
                          try rfl
                        try simp only [Act.put, List.setIfInBounds_toArray, List.set_cons_zero, List.set_cons_succ]
                        refine Rg.Upto.takeA (i := 7) (v := ?_) rfl (by kernel_rfl) (by kernel_rfl) (by kernel_rfl) (of_decide_eq_true (by kernel_rfl)) (fun _ _ _ h => h) (by rfl) (fun w5 hS5 => ?_) HSC ?_
                        rotate_left
                        · clear hS5
                          go_simp
                          try rfl
                        try simp only [Act.put, List.setIfInBounds_toArray, List.set_cons_zero, List.set_cons_succ]
                        refine Rg.Upto.one (i := 8) rfl (by kernel_rfl) (by rfl) (fun KK hK => ?_)
                        go_simp
                        refine hK.out _ _ ⟨(Hp.blk_far (HSC.1.trans HMB.out) ⟨cc, q, none⟩ hne1 _).trans HMB.out.symm, (Hp.blk_far (HSC.2.trans HKO.out) ⟨cc, q, none⟩ hne2 _).trans HKO.out.symm⟩ ?_
                        clear hK KK
                        try simp only [Act.put, List.setIfInBounds_toArray, List.set_cons_zero, List.set_cons_succ]
                        refine Rg.Upto.done (by kernel_rfl) ?_
                        go_upto_region 44 with (fail)
                        have hp := (HV.out.poked HXW.out HDD.out).drew
                        clear HV HDD HKO HMB HCC HSC z0 y0
                        have HV := Lib.hid hp
                        clear hp
                        dsimp only at HV
                        generalize (World.drew (w13.setCell ⟨cc, q, none⟩ (.int .u64 ref0))) = w14 at HV
                        generalize hw15 : (w13.drew.setCell ⟨cc, q, none⟩ (.int .u64 ref0)) = w15
                        go_wp2_with (first
                          | (go_at_call 34; ((have hm := HV.out.duo.sys.faults); rw [HV.out.ok.nf] at hm; (with_reducible refine hm.mono ?_); clear hm; rintro e wf ⟨rfl, hwf⟩; obtain rfl := hwf.symm)))
                        go_roundw
                        case rel => exact ⟨false, k + 1, (s.poked q ref0), _, _, by omega, by omega, rfl, by go_num, HV, Lib.hid (by have := HL.out; show s.log.length ≤ _; omega)⟩
                        case measure => simp [intOf]; omega
                      · go_upto_region 44 with (fail)
                        clear o2
                        go_wp2_with (first
                          | (go_at_call 34; ((have hm := HV.out.duo.sys.faults); rw [HV.out.ok.nf] at hm; (with_reducible refine hm.mono ?_); clear hm; rintro e wf ⟨rfl, hwf⟩; obtain rfl := hwf.symm)))
                        go_roundw
                        case rel => exact ⟨true, k + 1, s, _, _, by omega, by omega, rfl, by go_num, HV, Lib.hid (by have := HL.out; omega)⟩
                        case measure => simp [intOf]; omega
                · have g6 : (kind == 6) = false := by simpa using h6
                  clear h6
                  go_wp2_with (first
                    | (go_at_call 34; ((have hm := HV.out.duo.sys.faults); rw [HV.out.ok.nf] at hm; (with_reducible refine hm.mono ?_); clear hm; rintro e wf ⟨rfl, hwf⟩; obtain rfl := hwf.symm)))
                  go_roundw
                  case rel => exact ⟨bg, k + 1, s, _, _, by omega, by omega, rfl, by go_num, HV, Lib.hid (by have := HL.out; omega)⟩
                  case measure => simp [intOf]; omega
    · have hw2 : (rows.length ≤ k) ∨ (k < rows.length ∧ 120 ≤ k) := by omega
      clear hend hk1
      have HLg : Hid (s.log.length ≤ 120) := Lib.hid (Nat.le_trans HL.out hk2)
      clear HL hk2
      rcases hw2 with hw2 | ⟨hw2, hw3⟩
      all_goals
        (have t1 : ¬ (k : Int) < (rows.length : Int) ∨ ((k : Int) < (rows.length : Int) ∧ ¬ (k : Int) < 120) := by omega)
        go_upto_region 46 with (fail)
        go_cut [21] from 46 to 53 (fun v21 wc => v21 = .pointer (some ⟨wr.heap.size, 0, none⟩) ∧ wc = wr.alloc (.cells #[.slice none 0 0] 72))
        case first =>
          go_wp2_with (fail)
          go_meet
          exact ⟨rfl, rfl⟩
        case rest =>
          obtain ⟨rfl, rfl⟩ := hcut
          go_upto_block 3 with (first
            | (go_at_call 38; ((with_reducible refine (callsIn_wide.1 (log_in 4 a _)).mono ?_); rintro e w9 ⟨rfl, rfl⟩)))
          obtain ⟨lv, hA⟩ := HV.out.duo.sys.ar
          have hlog0 := logAt_of hA.log
          have hcl := (Hp.blk_cell hA.blk 1 (v := lv) rfl).1
          have hlt := HV.out.duo.sys.lt.1
          clear hA
          have hlog : (lv = .slice none 0 0 ∧ s.log = []) ∨ ∃ b cap, lv = .slice (some ⟨b, 0, none⟩) s.log.length cap ∧ s.log.length ≤ cap ∧ b < wr.heap.size ∧ LogAt wr b s.log := hlog0.imp_right fun ⟨b, cap, h1, h2, h3⟩ => ⟨b, cap, h1, h2, h3.1, h3⟩
          have HLOG := Lib.hid hlog
          have HCL := Lib.hid hcl
          obtain ⟨i2, hi, hx0, hx1, hx2⟩ := info_parts infoAcc
          clear hlog0 hlog hcl
          have hl := HLg.out
          have b0 := (Boxed.new wr 72 (.slice none 0 0)).alloc (.cells #[.pointer (some ⟨a, 0, none⟩)] 29)
          have b4 := Boxed.new (wr.alloc (.cells #[.slice none 0 0] 72)) 29 (.pointer (some ⟨a, 0, none⟩))
          simp only [World.size_alloc] at b4
          have hB0 : Below wr.heap.size wr ((wr.alloc (.cells #[.slice none 0 0] 72)).alloc (.cells #[.pointer (some ⟨a, 0, none⟩)] 29)) := ((Below.refl _ wr).alloc (Nat.le_refl _) _).alloc (by simp) _
          have hsz : ((wr.alloc (.cells #[.slice none 0 0] 72)).alloc (.cells #[.pointer (some ⟨a, 0, none⟩)] 29)).heap.size = wr.heap.size + 2 := by simp
          obtain ⟨W0, hW0⟩ : ∃ W0, ((wr.alloc (.cells #[.slice none 0 0] 72)).alloc (.cells #[.pointer (some ⟨a, 0, none⟩)] 29)) = W0 := ⟨_, rfl⟩
          rw [hW0] at b0 b4 hB0 hsz ⊢
          clear hW0
          refine (wpIn_wide (n := 5)).1 ?_
          gi_wp2_with (fail)
          refine wpIn_rangeFunc_ownH rfl (by decide) (gf := 60) (lb := #[.pointer (some ⟨wr.heap.size + 1, 0, none⟩)]) rfl trivial (enters_of Try.func60 (by kernel_rfl) rfl)
            (log_stops 4 (wr.heap.size + 1) wr.heap.size a (by decide) lv s.log W0 (by omega) (by omega) (by omega) hlt b4.cell ((hB0.cell (p := ⟨a, 1, none⟩) hlt).trans HCL.out) (HLOG.out.imp_right fun ⟨b, cap, h1, h2, h3, h4⟩ => ⟨b, cap, h1, h2, h3, h4.below hB0 h3⟩)) belowK_t (belowK_b (by omega)) (Below.refl _ _) (fun _ => rfl)
            (fun pre W => (∃ v, Boxed W wr.heap.size 72 v ∧ W.ownsRow wr.heap.size 83 7 v pre.length (pls pre) ∧ True) ∧ Below wr.heap.size wr W)
            (fun _ _ _ => False)
            (OwnFrom.and (Own.from (holdsRow_own wr.heap.size wr.heap.size 72 83 7 (fun pre => pre.length) (fun pre => pls pre) (fun _ _ => True)) _) (ownFrom_below (Nat.le_refl _) (by omega)))
            (fun _ _ _ _ _ hs _ _ => hs)
            ⟨⟨_, b0, World.ownsRow_nil _ _ _ _, trivial⟩, hB0⟩
            (fun x a' W => ∃ Bx, wr.heap.size < Bx ∧ W.heap[Bx]? = some (.cells (accArr x.2) 83 (0, 0)) ∧ a' = { tmps := #[Value.agg #[Value.int IntKind.i64 P0, Value.int IntKind.i64 T0, Value.int IntKind.i64 R0], Value.slice A rows.length cp, Value.pointer (some { block := qb, off := 0 }), undef, Value.pointer (some { block := rb, off := 0 }), Value.pointer (some { block := a, off := 0 }), Value.pointer (some { block := p, off := 0 }), Value.bool true, Value.pointer (some { block := am, off := 0 }), Value.pointer (some { block := db, off := 0 }), Value.slice (some { block := sb, off := 0 }) T T, Value.bool bg, Value.int IntKind.i64 ↑k, u13, u14, u15, u16, u17, u18, u19, u20, Value.pointer (some { block := wr.heap.size, off := 0 }), undef, .pointer (some ⟨Bx, 0, none⟩), Value.bool true, Value.bool false, Value.agg #[Value.int IntKind.i64 P0, Value.int IntKind.i64 T0, Value.int IntKind.i64 R0], Value.agg #[Value.int IntKind.i64 ↑P, Value.int IntKind.i64 ↑T, Value.int IntKind.i64 ↑R], Value.tuple #[Value.pointer (some { block := a, off := 0 }), Value.pointer (some { block := p, off := 0 }), Value.bool true], Value.agg #[Value.int IntKind.i64 ↑P, Value.int IntKind.i64 ↑T, Value.int IntKind.i64 ↑R], Value.tuple #[Value.pointer (some { block := a, off := 0 }), Value.pointer (some { block := p, off := 0 }), Value.bool true], Value.pointer (some { block := a, off := 0 }), Value.pointer (some { block := p, off := 0 }), Value.bool true, Value.bool true, Value.bool false, Value.agg #[Value.int IntKind.i64 ↑P, Value.int IntKind.i64 ↑T, Value.int IntKind.i64 ↑R], Value.int IntKind.i64 ↑(Lay.cl P T R), Value.slice (some { block := cc, off := 0 }) (Lay.cl P T R) (Lay.cl P T R), Value.agg #[Value.slice (some { block := cc, off := 0 }) (Lay.cl P T R) (Lay.cl P T R), Value.slice none 0 0, Value.int IntKind.i64 0], Value.pointer (some { block := am, off := 0 }), Value.agg #[Value.int IntKind.i64 ↑P, Value.int IntKind.i64 ↑T, Value.int IntKind.i64 ↑R], Value.agg #[Value.int IntKind.i64 ↑P, Value.int IntKind.i64 ↑T, Value.int IntKind.i64 ↑R, Value.int IntKind.i64 ↑(Lay.bs P T R), Value.int IntKind.i64 ↑(Lay.tb T R), Value.int IntKind.i64 ↑(Lay.cl P T R)], Value.pointer (some { block := qb, off := 1 }), Value.int IntKind.i64 ↑T, Value.slice (some { block := sb, off := 0 }) T T, u46, u47, u48, u49, u50, u51, u52, u53, u54, u55, u56, u57, u58, u59, u60, u61, u62, u63, u64, u65, u66, u67, u68, u69, u70, u71, u72, u73, u74, u75, u76, u77, u78, u79, u80, u81, u82, u83, u84, u85, u86, u87, u88, u89, u90, u91, u92, u93, u94, u95, u96, u97, u98, u99, u100, u101, u102, u103, u104, u105, u106, u107, u108, u109, u110, u111, u112, u113, u114, u115, u116, u117, u118, u119, u120, u121, u122, u123, u124, u125, u126, u127, u128, u129, u130, u131, u132, u133, u134, u135, u136, u137, u138, u139, u140, u141, u142, u143, u144, u145, u146, u147, u148, u149, u150, u151, u152, u153, u154, u155, u156, u157, u158, u159, u160, u161, u162, u163, u164, u165, u166, u167, u168, u169, u170, u171, u172, u173, u174, u175, u176, u177, u178, u179, u180, u181, u182, u183, u184, u185, u186, u187, u188, u189, u190, u191, u192, u193, u194, u195, u196, u197, u198, u199, u200, u201, u202, u203, Value.pointer (some { block := a, off := 0 }), Value.func (Fn.func 60) #[] #[Value.pointer (some { block := wr.heap.size + 1, off := 0 })], .int .i64 x.1, .agg (accArr x.2), undef, undef, undef, undef, undef, undef, undef, undef, undef, undef, undef, undef, undef, undef, undef, undef, undef, undef, undef], defers := [] })
            (fun x a' _ X Y row hs hg hr => by obtain ⟨Bx, h1, h2, h3⟩ := hs; exact ⟨Bx, h1, blk_own Bx 83 (fun (_ : Unit) => accArr x.2) () X Y row h2 hg (fun r e => (hr r e).2), h3⟩)
            ?assign ?body ?done ?stop
          case assign =>
            rintro l pre x W K ⟨⟨v, c2, hrow, -⟩, hB1⟩ hK
            unfold encAcc
            gi_wp2
            exact hK _ _ ((KeepsOthers.alloc _ _).from _) ((Below.refl _ W).alloc hB1.size _) ⟨⟨v, c2.alloc _, hrow.alloc _, trivial⟩, hB1.alloc hB1.size _⟩ ⟨W.heap.size, c2.lt, Hp.blk_new W _, rfl⟩
          case body =>
            rintro l pre x a' W hlw ⟨r, hr⟩ ⟨⟨v, c2, hrow, -⟩, hB1⟩ ⟨Bx, hBx, bX, rfl⟩ hltN
            obtain ⟨A0, cap0, hv⟩ := own_slice hrow
            subst hv
            have k2 := c2.cell
            obtain ⟨x0, y0⟩ := Hp.blk_cell bX 0 (v := .int .i64 x.2.who) rfl
            obtain ⟨x1, y1⟩ := Hp.blk_cell bX 1 (v := .int .i64 x.2.kind) rfl
            obtain ⟨x2, y2⟩ := Hp.blk_cell bX 2 (v := .int .i64 x.2.at_) rfl
            obtain ⟨x3, y3⟩ := Hp.blk_cell bX 3 (v := .int .u64 x.2.want) rfl
            obtain ⟨x4, y4⟩ := Hp.blk_cell bX 4 (v := .int .u64 x.2.put) rfl
            obtain ⟨x5, y5⟩ := Hp.blk_cell bX 5 (v := .int .u64 x.2.seen) rfl
            obtain ⟨x6, y6⟩ := Hp.blk_cell bX 6 (v := .int .u64 x.2.left) rfl
            have hpn : pre.length ≤ 199 := by omega
            have hpi : ¬ (200 : Int) < (pre.length : Int) := by omega
            gi_wp2_with (gi_at_builtin; (refine wpListIn_append_own _ rfl _ _ 72 rfl wr.heap.size 83 i2 _ 7 56 Try.underlying72 hi hx0 hx1 hx2 rfl (by decide) _ _ _ rfl (hrow.alloc _) ⟨W.heap.size, 0, none⟩ 1 1 (Acc.cells x.2) rfl rfl (World.news_of_block (cs := accArr x.2) (t := 83) (fr := (0, 0)) (Hp.blk_new W _)) (by simp [Value.oneCell', Acc.cells]) (by unfold maxLen; omega) (by omega) (by have := hB1.size; simp; omega) ?_; intro v' w1 hown' hgrow _; (obtain ⟨g', cap', rfl⟩ := ownsRow_succ hown'); (obtain ⟨hv1, hv2, hr2, hk2, hb2⟩ := c2.appended (by decide) hrow hB1.size (by omega) hown' hgrow); (have hc1 := hv1.cell); (have hf1 := hv1.frozen); clear hv1))
            exact ⟨hk2.from _, hb2, ⟨_, hv2, by rw [pls_snoc]; simpa using hr2⟩, hB1.trans hb2⟩
          case done =>
            rintro D ys W hD rfl ⟨⟨v, c2, hrow, -⟩, hB1⟩ hK
            obtain ⟨t2, t3⟩ := told_all s.log
            rw [t2, t3] at hrow
            obtain ⟨A0, cap0, hv⟩ := own_slice hrow
            subst hv
            have HRw := Lib.hid hrow
            have HC2 := Lib.hid c2
            have HK := Lib.hid hK
            have HB1 := Lib.hid hB1
            have HV2 := Lib.hid (HV.out.below hB1)
            have hrbw : rb < wr.heap.size := blk_lt HV.out.bx.rk
            clear HV hrow c2 hK hB1
            dsimp only
            go_upto_region 52 with (fail)
            have hl9 := HLg.out
            obtain ⟨lv1, lv2, hA1, hM1, -⟩ := HV2.out.duo.both
            obtain ⟨A2, cap2, rfl, hle2, hC2⟩ := c83_of_own hM1.log (by omega)
            obtain ⟨A1, cap1, he, hle1, hC1⟩ := c83_of_own HRw.out (by omega)
            obtain ⟨rfl, rfl⟩ : A0 = A1 ∧ cap0 = cap1 := by simpa using he
            obtain ⟨kk, hsame⟩ := log_same (s.log.map toS) (by rw [List.length_map]; omega)
            have hm : ∀ w', Kd.C k83 w' A0 (s.log.map toS).length (s.log.map toS) → Kd.C k83 w' A2 (s.log.map toS).length (s.log.map toS) → Calls Try.prog 39 #[.slice A0 s.log.length cap0, .slice A2 s.log.length cap2] w' fun e w'' => e = .returned (.bool true) ∧ Drawn0 w' w'' := fun w' h1 h2 => by
              have h := windrowref03_SameLog.calls kk A0 cap0 (s.log.map toS) A2 cap2 (s.log.map toS) true w' h1 (by rw [List.length_map]; exact hle1) h2 (by rw [List.length_map]; exact hle2) hsame
              rw [List.length_map] at h
              exact h
            have HM := Lib.hid (hm _ (Kd.C_below hC1 ((Below.refl _ W).drew)) (Kd.C_below hC2 ((Below.refl _ W).drew)))
            have KM := Lib.hid hM1.blk
            have KQB := Lib.hid HV2.out.bx.qk
            clear hA1 hM1 hle2 hC2 hle1 hC1 he hsame hm
            refine Rg.Upto.start (fun w' => Boxed w' wr.heap.size 72 (.slice A0 s.log.length cap0) ∧ w'.heap[am]? = W.heap[am]? ∧ w'.heap[qb]? = W.heap[qb]?) 1000 (by kernel_rfl) ⟨HC2.out, rfl, rfl⟩ (fun HS0 => ?_)
            have HSC := HS0
            clear HS0
            refine Rg.Upto.takeA (i := 0) (v := ?_) rfl (by kernel_rfl) (by kernel_rfl) (by kernel_rfl) (of_decide_eq_true (by kernel_rfl)) (fun _ _ _ h => h) (by rfl) (fun w5 hS5 => ?_) HSC ?_
            rotate_left
            · have c0 := hS5.1.cell
              clear hS5
              go_simp
              try rfl
            try simp only [Act.put, List.setIfInBounds_toArray, List.set_cons_zero, List.set_cons_succ]
            refine Rg.Upto.takeA (i := 1) (v := ?_) rfl (by kernel_rfl) (by kernel_rfl) (by kernel_rfl) (of_decide_eq_true (by kernel_rfl)) (fun _ _ _ h => h) (by rfl) (fun w5 hS5 => ?_) HSC ?_
            rotate_left
            · clear hS5
              go_simp
              try rfl
            try simp only [Act.put, List.setIfInBounds_toArray, List.set_cons_zero, List.set_cons_succ]
            refine Rg.Upto.takeA (i := 2) (v := ?_) rfl (by kernel_rfl) (by kernel_rfl) (by kernel_rfl) (of_decide_eq_true (by kernel_rfl)) (fun _ _ _ h => h) (by rfl) (fun w5 hS5 => ?_) HSC ?_
            rotate_left
            · clear hS5
              go_simp
              try rfl
            try simp only [Act.put, List.setIfInBounds_toArray, List.set_cons_zero, List.set_cons_succ]
            refine Rg.Upto.takeA (i := 3) (v := ?_) rfl (by kernel_rfl) (by kernel_rfl) (by kernel_rfl) (of_decide_eq_true (by kernel_rfl)) (fun _ _ _ h => h) (by rfl) (fun w5 hS5 => ?_) HSC ?_
            rotate_left
            · clear hS5
              go_simp
              try rfl
            try simp only [Act.put, List.setIfInBounds_toArray, List.set_cons_zero, List.set_cons_succ]
            refine Rg.Upto.takeA (i := 4) (v := ?_) rfl (by kernel_rfl) (by kernel_rfl) (by kernel_rfl) (of_decide_eq_true (by kernel_rfl)) (fun _ _ _ h => h) (by rfl) (fun w5 hS5 => ?_) HSC ?_
            rotate_left
            · have c1 := (Hp.blk_cell (hS5.2.1.trans KM.out) 1 rfl).1
              clear hS5
              go_simp
              try rfl
            try simp only [Act.put, List.setIfInBounds_toArray, List.set_cons_zero, List.set_cons_succ]
            refine Rg.Upto.one (i := 5) rfl (by kernel_rfl) (by rfl) (fun KK hK => ?_)
            go_simp
            (with_reducible refine HM.out.mono ?_)
            rintro e w10 ⟨rfl, hd⟩
            have hb := hd.below
            have HB10 := Lib.hid hb
            have HSC2 := And.intro (blk_below HSC.1 hb) (And.intro ((hb.block _ (blk_lt KM.out)).trans HSC.2.1) ((hb.block _ (blk_lt KQB.out)).trans HSC.2.2))
            have HV10 := Lib.hid ((HV2.out.drew).below hb)
            refine hK.out _ _ HSC2 ?_
            clear hK KK hd hb HSC
            have HSC := HSC2
            clear HSC2
            try simp only [Act.put, List.setIfInBounds_toArray, List.set_cons_zero, List.set_cons_succ]
            refine Rg.Upto.takeA (i := 6) (v := ?_) rfl (by kernel_rfl) (by kernel_rfl) (by kernel_rfl) (of_decide_eq_true (by kernel_rfl)) (fun _ _ _ h => h) (by rfl) (fun w5 hS5 => ?_) HSC ?_
            rotate_left
            · clear hS5
              go_simp
              try rfl
            try simp only [Act.put, List.setIfInBounds_toArray, List.set_cons_zero, List.set_cons_succ]
            refine Rg.Upto.takeA (i := 7) (v := ?_) rfl (by kernel_rfl) (by kernel_rfl) (by kernel_rfl) (of_decide_eq_true (by kernel_rfl)) (fun _ _ _ h => h) (by rfl) (fun w5 hS5 => ?_) HSC ?_
            rotate_left
            · clear hS5
              go_simp
              try rfl
            try simp only [Act.put, List.setIfInBounds_toArray, List.set_cons_zero, List.set_cons_succ]
            refine Rg.Upto.takeA (i := 8) (v := ?_) rfl (by kernel_rfl) (by kernel_rfl) (by kernel_rfl) (of_decide_eq_true (by kernel_rfl)) (fun _ _ _ h => h) (by rfl) (fun w5 hS5 => ?_) HSC ?_
            rotate_left
            · clear hS5
              go_simp
              try rfl
            try simp only [Act.put, List.setIfInBounds_toArray, List.set_cons_zero, List.set_cons_succ]
            refine Rg.Upto.takeA (i := 9) (v := ?_) rfl (by kernel_rfl) (by kernel_rfl) (by kernel_rfl) (of_decide_eq_true (by kernel_rfl)) (fun _ _ _ h => h) (by rfl) (fun w5 hS5 => ?_) HSC ?_
            rotate_left
            · have c0 := (Hp.blk_cell (hS5.2.2.trans KQB.out) 0 rfl).1
              have c1 := (Hp.blk_cell (hS5.2.2.trans KQB.out) 1 rfl).1
              have c2 := (Hp.blk_cell (hS5.2.2.trans KQB.out) 2 rfl).1
              clear hS5
              go_simp
              try rfl
            try simp only [Act.put, List.setIfInBounds_toArray, List.set_cons_zero, List.set_cons_succ]
            refine Rg.Upto.one (i := 10) rfl (by kernel_rfl) (by rfl) (fun KK hK => ?_)
            go_simp
            (with_reducible refine (waits_true HV10.out.duo HRT.out HV10.out.ok).mono ?_)
            rintro e w11 ⟨rfl, hb⟩
            have HB11 := Lib.hid hb
            have HSC2 := And.intro (blk_below HSC.1 hb) (And.intro ((hb.block _ (by have h := blk_lt KM.out; have h2 := HB10.out.size; show am < w10.heap.size; exact Nat.lt_of_lt_of_le h h2)).trans HSC.2.1) ((hb.block _ (by have h := blk_lt KQB.out; have h2 := HB10.out.size; show qb < w10.heap.size; exact Nat.lt_of_lt_of_le h h2)).trans HSC.2.2))
            have hr11 : w11.heap[rb]? = some (.cells #[.bool false] 4 (0, 0)) := blk_below HV10.out.bx.rk hb
            refine hK.out _ _ HSC2 ?_
            clear hK KK hb HSC HV10
            have HSC := HSC2
            clear HSC2
            try simp only [Act.put, List.setIfInBounds_toArray, List.set_cons_zero, List.set_cons_succ]
            refine Rg.Upto.takeA (i := 11) (v := ?_) rfl (by kernel_rfl) (by kernel_rfl) (by kernel_rfl) (of_decide_eq_true (by kernel_rfl)) (fun _ _ _ h => h) (by rfl) (fun w5 hS5 => ?_) HSC ?_
            rotate_left
            · clear hS5
              go_simp
              try rfl
            try simp only [Act.put, List.setIfInBounds_toArray, List.set_cons_zero, List.set_cons_succ]
            obtain ⟨r0, f0⟩ := Hp.blk_cell hr11 0 rfl
            have HR10 := Lib.hid hr11
            have hne : am ≠ rb := blk_ne KM.out HV2.out.bx.rk (by decide)
            have hne2 : qb ≠ rb := by have := HQ1.out.2.2; omega
            refine Rg.Upto.one (i := 12) rfl (by kernel_rfl) (by rfl) (fun KK hK => ?_)
            go_simp
            refine hK.out _ _ ⟨Hp.blk_far HSC.1 ⟨rb, 0, none⟩ (by show wr.heap.size ≠ rb; omega) _, (Hp.blk_far (HSC.2.1.trans KM.out) ⟨rb, 0, none⟩ hne _).trans KM.out.symm, (Hp.blk_far (HSC.2.2.trans KQB.out) ⟨rb, 0, none⟩ hne2 _).trans KQB.out.symm⟩ ?_
            clear hK KK
            try simp only [Act.put, List.setIfInBounds_toArray, List.set_cons_zero, List.set_cons_succ]
            refine Rg.Upto.done (by kernel_rfl) ?_
            clear r0 f0 hr11
            go_wp2_with (fail)
            have hDlt := (Array.getElem?_eq_some_iff.1 HK.out).1
            have hrD : rb ≠ D := by omega
            have r0 : (w11.setCell ⟨rb, 0, none⟩ (.bool true)).heap[D]? = some (.deferred (some [])) := (Below.heap_setCell _ _ _ D (by simp; omega)).trans ((HB11.out.block D (Nat.lt_of_lt_of_le hDlt HB10.out.size)).trans ((HB10.out.block D hDlt).trans HK.out))
            have e0 : Boxed (w11.setCell ⟨rb, 0, none⟩ (.bool true)) rb 4 (.bool true) := Hp.blk_set HR10.out 0 _
            have hbW := HV2.out.bel
            have eb : Below w.heap.size w (w11.setCell ⟨rb, 0, none⟩ (.bool true)) := (((hbW.drew).trans (HB10.out.mono (hbW.size))).trans (HB11.out.mono (Nat.le_trans hbW.size HB10.out.size))).setCell (p := ⟨rb, 0, none⟩) HQ1.out.2.1 _
            have hwD : w.heap.size ≤ D := by have := HQ1.out.2.1; omega
            refine ⟨by simp, .inl ⟨_, _, rfl, run_takeDeferred r0, ?_⟩⟩
            have q0 := (e0.kept (grownBy_putObj' _ D (.deferred none)) (by simp; omega)).cell
            exact ⟨_, by simp [results, Try.results7, go_sem, q0], rfl, eb.trans (belowK_b (w := w) (Nat.le_refl _) _ D _ _ hwD r0 rfl rfl)⟩
          case stop =>
            rintro D c pre W _ _ h _
            exact h.elim

theorem opOp : Rk.Opens kOp [.int .i64, .int .i64, .int .u64, .bool] (fun x => (Lit.int .i64 x.1).wf = true ∧ (Lit.int .i64 x.2.1).wf = true ∧ (Lit.int .u64 x.2.2.1).wf = true ∧ True) :=
  Rk.opens_pair (Rk.opens_int .i64) (Rk.opens_pair (Rk.opens_int .i64) (Rk.opens_pair (Rk.opens_int .u64) Rk.opens_bool))
theorem steps_row (P0 T0 R0 : Int) (A : Option Addr) (cp : Nat) (rows : List (Int × Int × Int × Bool)) (w : World) (hr : Kd.C kOp w A rows.length rows) (hx : ∀ x ∈ rows, (Lit.int .i64 x.1).wf = true ∧ (Lit.int .i64 x.2.1).wf = true ∧ (Lit.int .u64 x.2.2.1).wf = true ∧ True) :
    Calls Try.prog 7 #[.agg #[.int .i64 P0, .int .i64 T0, .int .i64 R0], .slice A rows.length cp] w fun e w' => e = .returned (.bool true) ∧ Below w.heap.size w w' :=
  steps_law P0 T0 R0 A cp rows w hr fun x h => by
    have h' : IntKind.u64.min ≤ x.2.2.1 ∧ x.2.2.1 ≤ IntKind.u64.max := by simpa [Lit.wf] using (hx x h).2.2.1
    exact ⟨h'.1, by have := h'.2; have e : IntKind.u64.max = 18446744073709551615 := rfl; omega⟩
end Go.Proofs.Ytdcikbhfoplkmaa.Dd
