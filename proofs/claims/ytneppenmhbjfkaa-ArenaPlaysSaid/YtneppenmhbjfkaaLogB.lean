/- logged: the accesses that an arena tells. -/
import Derived.Test.YtneppenmhbjfkaaLogA
import Derived.Maps.AppendAt
namespace Go.Proofs.Ytneppenmhbjfkaa.Ar
open Go Go.RowKit Go.Shelf Go.Proofs.Ytneppenmhbjfkaa.Hp
open Go.Proofs.YtneppenmhbjfkaaW.PrintWords (Kd Drawn0 rd LeO)
open Go.Proofs.Ytneppenmhbjfkaa.PH
set_option linter.unusedVariables false
set_option linter.unusedSimpArgs false
attribute [local go_sem] Oper.semAt_some

def pls (pre : List (Nat × Acc)) : List Value := pre.flatMap fun x => Acc.cells x.2
theorem pls_snoc (pre : List (Nat × Acc)) (x : Nat × Acc) : pls (pre ++ [x]) = pls pre ++ Acc.cells x.2 := by simp [pls]
/-- Each is told by its own number. -/
def isNum (pre : List (Nat × Acc)) : Bool := (pre.zipIdx.all fun x => x.1.1 == x.2)
theorem isNum_snoc (pre : List (Nat × Acc)) (x : Nat × Acc) : isNum (pre ++ [x]) = (isNum pre && (x.1 == pre.length)) := by simp [isNum, List.zipIdx_append]

theorem blk_own {β : Type} (B : Nat) (t : TypeId) (f : β → Array Value) : Own (fun s W => W.heap[B]? = some (.cells (f s) t (0, 0))) := fun s X Y row hs hg hrow =>
  (hg.block B (blk_lt hs) (fun e => by obtain ⟨o, ho, hc⟩ := hrow B e.symm; rw [hs] at ho; cases ho; cases hc)).trans hs
theorem blk_new_set (W : World) (p : Addr) (u : Value) (o : Obj) : ((W.setCell p u).alloc o).heap[W.heap.size]? = some o := by
  have h := Hp.blk_new (W.setCell p u) o
  rwa [show (W.setCell p u).heap.size = W.heap.size by simp [World.setCell]] at h
theorem own_slice {B e size n : Nat} {w : World} {v : Value} {xs : List Value} (h : w.ownsRow B e size v n xs) : ∃ A cap, v = .slice A n cap := by
  rcases h.2 with ⟨rfl, h2⟩ | ⟨g, cap, cur, rfl, _⟩
  · exact ⟨none, 0, by rw [h2]⟩
  · exact ⟨_, _, rfl⟩
theorem told_all (log : List Acc) : isNum (told log log.length) = true ∧ pls (told log log.length) = log.flatMap Acc.cells ∧ (told log log.length).length = log.length := by
  have h : ∀ k, k ≤ log.length → isNum (told log k) = true ∧ pls (told log k) = (log.take k).flatMap Acc.cells ∧ (told log k).length = k := by
    intro k
    induction k with
    | zero => intro _; exact ⟨rfl, rfl, rfl⟩
    | succ k ih =>
      intro hk
      obtain ⟨h1, h2, h3⟩ := ih (by omega)
      have hx : log[k]? = some log[k] := List.getElem?_eq_getElem (by omega)
      rw [told_succ log k _ hx]
      refine ⟨by rw [isNum_snoc, h1, h3]; simp, ?_, by simp [h3]⟩
      rw [pls_snoc, h2, List.take_succ_eq_append_getElem (show k < log.length by omega), List.flatMap_append]
      simp
  have := h log.length (Nat.le_refl _)
  rwa [List.take_length] at this

def accArr (x : Acc) : Array Value := #[.int .i64 x.who, .int .i64 x.kind, .int .i64 x.at_, .int .u64 x.want, .int .u64 x.put, .int .u64 x.seen, .int .u64 x.left]

set_option maxRecDepth 100000 in
set_option maxHeartbeats 4000000 in
theorem logged_in (B : Nat) (w : World) (a c : Nat) (s : AS) (ps : List (Nat × Int × Bool)) (h : Sys B w a c s ps) (hl : s.log.length ≤ 200) :
    CallsIn Fence.wide 5 Try.prog 31 #[.pointer (some ⟨a, 0, none⟩)] w fun e w' => ∃ v, e = .returned (.tuple #[v, .bool true]) ∧ w'.ownsRow w.heap.size 76 7 v s.log.length (s.log.flatMap Acc.cells) ∧ Below w.heap.size w w' := by
  obtain ⟨lv, hA⟩ := h.ar
  have hlog0 := logAt_of hA.log
  have hcl := (Hp.blk_cell hA.blk 1 (v := lv) rfl).1
  have hlt := h.lt.1
  clear hA
  have hlog : (lv = .slice none 0 0 ∧ s.log = []) ∨ ∃ b cap, lv = .slice (some ⟨b, 0, none⟩) s.log.length cap ∧ s.log.length ≤ cap ∧ b < w.heap.size ∧ LogAt w b s.log := hlog0.imp_right fun ⟨b, cap, h1, h2, h3⟩ => ⟨b, cap, h1, h2, h3.1, h3⟩
  have HLOG := Lib.hid hlog
  have HCL := Lib.hid hcl
  obtain ⟨i0, hi, hz0, hz1, hz2⟩ := info_parts infoAcc
  clear hlog0 hlog hcl h
  refine callsIn_of_wp_marks Try.func31 rfl trivial ?_ rfl
  simp only [Try.ntmps31, List.size_toArray, List.length_cons, List.length_nil, Nat.reduceAdd, Nat.reduceSub, Array.replicate_succ, Array.replicate_zero, List.push_toArray, List.append_toArray, List.nil_append, List.cons_append]
  gi_wp2_with (refine ⟨trivial, ?_⟩; gi_at_call 44; refine (log_in 4 a _).mono ?_; rintro e w' ⟨rfl, rfl⟩)
  obtain ⟨H, hH⟩ : ∃ H, H = w.heap.size := ⟨_, rfl⟩
  have b0 := ((((Boxed.new w 45 (.slice none 0 0)).alloc (.cells #[.bool false] 4)).alloc (.cells #[.slice none 0 0] 45)).alloc (.cells #[.bool true] 4)).alloc (.cells #[.pointer (some ⟨a, 0, none⟩)] 27)
  have b1 := (((Boxed.new (w.alloc (.cells #[.slice none 0 0] 45)) 4 (.bool false)).alloc (.cells #[.slice none 0 0] 45)).alloc (.cells #[.bool true] 4)).alloc (.cells #[.pointer (some ⟨a, 0, none⟩)] 27)
  have b2 := ((Boxed.new ((w.alloc (.cells #[.slice none 0 0] 45)).alloc (.cells #[.bool false] 4)) 45 (.slice none 0 0)).alloc (.cells #[.bool true] 4)).alloc (.cells #[.pointer (some ⟨a, 0, none⟩)] 27)
  have b3 := (Boxed.new (((w.alloc (.cells #[.slice none 0 0] 45)).alloc (.cells #[.bool false] 4)).alloc (.cells #[.slice none 0 0] 45)) 4 (.bool true)).alloc (.cells #[.pointer (some ⟨a, 0, none⟩)] 27)
  have b4 := Boxed.new ((((w.alloc (.cells #[.slice none 0 0] 45)).alloc (.cells #[.bool false] 4)).alloc (.cells #[.slice none 0 0] 45)).alloc (.cells #[.bool true] 4)) 27 (.pointer (some ⟨a, 0, none⟩))
  simp only [World.size_alloc] at b1 b2 b3 b4
  have hB0 : Below w.heap.size w (((((w.alloc (.cells #[.slice none 0 0] 45)).alloc (.cells #[.bool false] 4)).alloc (.cells #[.slice none 0 0] 45)).alloc (.cells #[.bool true] 4)).alloc (.cells #[.pointer (some ⟨a, 0, none⟩)] 27)) := (((((Below.refl _ w).alloc (Nat.le_refl _) _).alloc (by simp) _).alloc (by simp; omega) _).alloc (by simp; omega) _).alloc (by simp; omega) _
  have hsz : (((((w.alloc (.cells #[.slice none 0 0] 45)).alloc (.cells #[.bool false] 4)).alloc (.cells #[.slice none 0 0] 45)).alloc (.cells #[.bool true] 4)).alloc (.cells #[.pointer (some ⟨a, 0, none⟩)] 27)).heap.size = w.heap.size + 5 := by simp
  obtain ⟨W0, hW0⟩ : ∃ W0, ((((w.alloc (.cells #[.slice none 0 0] 45)).alloc (.cells #[.bool false] 4)).alloc (.cells #[.slice none 0 0] 45)).alloc (.cells #[.bool true] 4)).alloc (.cells #[.pointer (some ⟨a, 0, none⟩)] 27) = W0 := ⟨_, rfl⟩
  rw [hW0] at b0 b1 b2 b3 b4 hB0 hsz ⊢
  clear hW0
  refine wpIn_rangeFunc_ownH rfl (by decide) (gf := 45) (lb := #[.pointer (some ⟨w.heap.size + 1 + 1 + 1 + 1, 0, none⟩)]) rfl trivial (enters_of Try.func45 (by kernel_rfl) rfl)
    (log_stops 4 (w.heap.size + 1 + 1 + 1 + 1) w.heap.size a (by decide) lv s.log W0 (by omega) (by omega) (by omega) hlt b4.cell ((hB0.cell (p := ⟨a, 1, none⟩) hlt).trans HCL.out) (HLOG.out.imp_right fun ⟨b, cap, h1, h2, h3, h4⟩ => ⟨b, cap, h1, h2, h3, h4.below hB0 h3⟩)) belowK_t (belowK_b (by omega)) (Below.refl _ _) (fun _ => rfl)
    (fun pre W => (((Boxed W (w.heap.size + 1 + 1 + 1) 4 (.bool (isNum pre)) ∧ Boxed W w.heap.size 45 (.slice none 0 0)) ∧ Boxed W (w.heap.size + 1) 4 (.bool false)) ∧ ∃ v, Boxed W (w.heap.size + 1 + 1) 45 v ∧ W.ownsRow w.heap.size 76 7 v pre.length (pls pre) ∧ True) ∧ Below w.heap.size w W)
    (fun _ _ _ => False)
    (OwnFrom.and (OwnFrom.and (OwnFrom.and (OwnFrom.and (Own.from (boxed_own _ _ _) _) (Own.from (boxed_own _ _ _) _)) (Own.from (boxed_own _ _ _) _)) (Own.from (holdsRow_own w.heap.size (w.heap.size + 1 + 1) 45 76 7 (fun pre => pre.length) (fun pre => pls pre) (fun _ _ => True)) _)) (ownFrom_below (Nat.le_refl _) (by omega)))
    (fun _ _ _ _ _ hs _ _ => hs)
    ⟨⟨⟨⟨b3, b0⟩, b1⟩, _, b2, World.ownsRow_nil _ _ _ _, trivial⟩, hB0⟩
    (fun x a' W => ∃ Bx, w.heap.size + 3 < Bx ∧ W.heap[Bx]? = some (.cells (accArr x.2) 76 (0, 0)) ∧ a' = { tmps := #[.pointer (some ⟨a, 0, none⟩), undef, .pointer (some ⟨w.heap.size, 0, none⟩), .pointer (some ⟨w.heap.size + 1, 0, none⟩), .pointer (some ⟨w.heap.size + 1 + 1, 0, none⟩), .pointer (some ⟨w.heap.size + 1 + 1 + 1, 0, none⟩), .int .i64 x.1, .pointer (some ⟨Bx, 0, none⟩), .pointer (some ⟨a, 0, none⟩), .func (.func 45) #[] #[.pointer (some ⟨w.heap.size + 1 + 1 + 1 + 1, 0, none⟩)], .int .i64 x.1, .agg (accArr x.2), undef, undef, undef, undef, undef, undef, undef, undef, undef, undef, undef, undef, undef, undef, undef, undef, undef], defers := [] })
    (fun x a' _ X Y row hs hg hr => by obtain ⟨Bx, h1, h2, h3⟩ := hs; exact ⟨Bx, h1, blk_own Bx 76 (fun (_ : Unit) => accArr x.2) () X Y row h2 hg (fun r e => (hr r e).2), h3⟩)
    ?assign ?body ?done ?stop
  case assign =>
    rintro l pre x W K ⟨⟨⟨⟨c3, c0⟩, c1⟩, v, c2, hrow, -⟩, hB1⟩ hK
    unfold encAcc
    gi_wp2
    exact hK _ _ ((KeepsOthers.alloc _ _).from _) ((Below.refl _ W).alloc hB1.size _) ⟨⟨⟨⟨c3.alloc _, c0.alloc _⟩, c1.alloc _⟩, v, c2.alloc _, hrow.alloc _, trivial⟩, hB1.alloc hB1.size _⟩ ⟨W.heap.size, by have := c3.lt; omega, Hp.blk_new W _, rfl⟩
  case body =>
    rintro l pre x a' W hlw ⟨r, hr⟩ ⟨⟨⟨⟨c3, c0⟩, c1⟩, v, c2, hrow, -⟩, hB1⟩ ⟨Bx, hBx, bX, rfl⟩ hltN
    obtain ⟨A0, cap0, hv⟩ := own_slice hrow
    subst hv
    have k2 := c2.cell
    have k3 := c3.cell
    have f3 := c3.frozen
    obtain ⟨x0, y0⟩ := Hp.blk_cell bX 0 (v := .int .i64 x.2.who) rfl
    obtain ⟨x1, y1⟩ := Hp.blk_cell bX 1 (v := .int .i64 x.2.kind) rfl
    obtain ⟨x2, y2⟩ := Hp.blk_cell bX 2 (v := .int .i64 x.2.at_) rfl
    obtain ⟨x3, y3⟩ := Hp.blk_cell bX 3 (v := .int .u64 x.2.want) rfl
    obtain ⟨x4, y4⟩ := Hp.blk_cell bX 4 (v := .int .u64 x.2.put) rfl
    obtain ⟨x5, y5⟩ := Hp.blk_cell bX 5 (v := .int .u64 x.2.seen) rfl
    obtain ⟨x6, y6⟩ := Hp.blk_cell bX 6 (v := .int .u64 x.2.left) rfl
    have hpn : pre.length ≤ 199 := by omega
    obtain ⟨q, hq⟩ : ∃ q, q = isNum (pre ++ [x]) := ⟨_, rfl⟩
    have hq2 := isNum_snoc pre x
    rw [← hq] at hq2
    have HQ := Lib.hid hq
    clear hq
    by_cases hn : isNum pre = true
    · rw [hn, Bool.true_and] at hq2
      rw [hn] at k3 c3
      by_cases he : x.1 = pre.length
      · have hqt : q = true := by rw [hq2]; simpa using he
        subst hqt
        have z1 : ((x.1 : Int) == (pre.length : Int)) = true := by rw [he]; simp
        clear he hq2 hn
        have c3s := c3.set (.bool true)
        have d3 : Boxed (W.setCell ⟨w.heap.size + 1 + 1 + 1, 0, none⟩ (.bool true)) (w.heap.size + 1 + 1 + 1) 4 (.bool true) := c3.set _
        have d2 := c2.other (B' := w.heap.size + 1 + 1 + 1) (by omega) (.bool true)
        have d1 := c1.other (B' := w.heap.size + 1 + 1 + 1) (by omega) (.bool true)
        have d0 := c0.other (B' := w.heap.size + 1 + 1 + 1) (by omega) (.bool true)
        have hrow2 := own_far hrow ⟨w.heap.size + 1 + 1 + 1, 0, none⟩ (.bool true) (fun e => (c3.not_row (by decide) hrow) e.symm)
        have hbs : Below w.heap.size W (W.setCell ⟨w.heap.size + 1 + 1 + 1, 0, none⟩ (.bool true)) := (Below.refl _ W).setCell (p := ⟨w.heap.size + 1 + 1 + 1, 0, none⟩) (by simp; omega) _
        have hB2 := hB1.trans hbs
        gi_wp2_with (gi_at_builtin; go_loud (refine wpListIn_append_own _ rfl _ _ 45 rfl w.heap.size 76 i0 _ 7 56 Try.underlying45 hi hz0 hz1 hz2 rfl (by decide) _ _ _ rfl (hrow2.alloc _) ⟨W.heap.size, 0, none⟩ 1 1 (Acc.cells x.2) rfl rfl (World.news_of_block (cs := accArr x.2) (t := 76) (fr := (0, 0)) (blk_new_set W _ _ _)) (by simp [Value.oneCell', Acc.cells]) (by unfold maxLen; omega) (by omega) (by have := hB1.size; simp; omega) ?_; intro v' w1 hown' hgrow _; (obtain ⟨g', cap', rfl⟩ := ownsRow_succ hown'); (obtain ⟨hv1, hv2, hr2, hk2, hb2⟩ := d2.appended (by decide) hrow2 hB2.size (by omega) hown' hgrow); (have hc1 := hv1.cell); (have hf1 := hv1.frozen); (have e3 := ((d3.alloc _).kept hgrow (d3.not_row (by decide) hrow2)).other (B' := w.heap.size + 1 + 1) (by omega) (.slice (some ⟨g', 0, none⟩) (pre.length + 1) cap')); (have e0 := ((d0.alloc _).kept hgrow (d0.not_row (by decide) hrow2)).other (B' := w.heap.size + 1 + 1) (by omega) (.slice (some ⟨g', 0, none⟩) (pre.length + 1) cap')); (have e1 := ((d1.alloc _).kept hgrow (d1.not_row (by decide) hrow2)).other (B' := w.heap.size + 1 + 1) (by omega) (.slice (some ⟨g', 0, none⟩) (pre.length + 1) cap')); clear hv1))
        exact ⟨((KeepsOthers.setCell _ _ _).from _).trans (hk2.from _), hbs.trans hb2, ⟨⟨⟨by rw [← HQ.out]; exact e3, e0⟩, e1⟩, _, hv2, by rw [pls_snoc]; simpa using hr2, trivial⟩, hB2.trans hb2⟩
      · have hqt : q = false := by rw [hq2]; simpa using he
        subst hqt
        have z1 : ((x.1 : Int) == (pre.length : Int)) = false := by simp; omega
        clear he hq2 hn
        have c3s := c3.set (.bool false)
        have d3 : Boxed (W.setCell ⟨w.heap.size + 1 + 1 + 1, 0, none⟩ (.bool false)) (w.heap.size + 1 + 1 + 1) 4 (.bool false) := c3.set _
        have d2 := c2.other (B' := w.heap.size + 1 + 1 + 1) (by omega) (.bool false)
        have d1 := c1.other (B' := w.heap.size + 1 + 1 + 1) (by omega) (.bool false)
        have d0 := c0.other (B' := w.heap.size + 1 + 1 + 1) (by omega) (.bool false)
        have hrow2 := own_far hrow ⟨w.heap.size + 1 + 1 + 1, 0, none⟩ (.bool false) (fun e => (c3.not_row (by decide) hrow) e.symm)
        have hbs : Below w.heap.size W (W.setCell ⟨w.heap.size + 1 + 1 + 1, 0, none⟩ (.bool false)) := (Below.refl _ W).setCell (p := ⟨w.heap.size + 1 + 1 + 1, 0, none⟩) (by simp; omega) _
        have hB2 := hB1.trans hbs
        gi_wp2_with (gi_at_builtin; go_loud (refine wpListIn_append_own _ rfl _ _ 45 rfl w.heap.size 76 i0 _ 7 56 Try.underlying45 hi hz0 hz1 hz2 rfl (by decide) _ _ _ rfl (hrow2.alloc _) ⟨W.heap.size, 0, none⟩ 1 1 (Acc.cells x.2) rfl rfl (World.news_of_block (cs := accArr x.2) (t := 76) (fr := (0, 0)) (blk_new_set W _ _ _)) (by simp [Value.oneCell', Acc.cells]) (by unfold maxLen; omega) (by omega) (by have := hB1.size; simp; omega) ?_; intro v' w1 hown' hgrow _; (obtain ⟨g', cap', rfl⟩ := ownsRow_succ hown'); (obtain ⟨hv1, hv2, hr2, hk2, hb2⟩ := d2.appended (by decide) hrow2 hB2.size (by omega) hown' hgrow); (have hc1 := hv1.cell); (have hf1 := hv1.frozen); (have e3 := ((d3.alloc _).kept hgrow (d3.not_row (by decide) hrow2)).other (B' := w.heap.size + 1 + 1) (by omega) (.slice (some ⟨g', 0, none⟩) (pre.length + 1) cap')); (have e0 := ((d0.alloc _).kept hgrow (d0.not_row (by decide) hrow2)).other (B' := w.heap.size + 1 + 1) (by omega) (.slice (some ⟨g', 0, none⟩) (pre.length + 1) cap')); (have e1 := ((d1.alloc _).kept hgrow (d1.not_row (by decide) hrow2)).other (B' := w.heap.size + 1 + 1) (by omega) (.slice (some ⟨g', 0, none⟩) (pre.length + 1) cap')); clear hv1))
        exact ⟨((KeepsOthers.setCell _ _ _).from _).trans (hk2.from _), hbs.trans hb2, ⟨⟨⟨by rw [← HQ.out]; exact e3, e0⟩, e1⟩, _, hv2, by rw [pls_snoc]; simpa using hr2, trivial⟩, hB2.trans hb2⟩
    · have hn' : isNum pre = false := by simpa using hn
      rw [hn', Bool.false_and] at hq2
      rw [hn'] at k3 c3
      subst hq2
      clear hn hn'
      have c3s := c3.set (.bool false)
      have d3 : Boxed (W.setCell ⟨w.heap.size + 1 + 1 + 1, 0, none⟩ (.bool false)) (w.heap.size + 1 + 1 + 1) 4 (.bool false) := c3.set _
      have d2 := c2.other (B' := w.heap.size + 1 + 1 + 1) (by omega) (.bool false)
      have d1 := c1.other (B' := w.heap.size + 1 + 1 + 1) (by omega) (.bool false)
      have d0 := c0.other (B' := w.heap.size + 1 + 1 + 1) (by omega) (.bool false)
      have hrow2 := own_far hrow ⟨w.heap.size + 1 + 1 + 1, 0, none⟩ (.bool false) (fun e => (c3.not_row (by decide) hrow) e.symm)
      have hbs : Below w.heap.size W (W.setCell ⟨w.heap.size + 1 + 1 + 1, 0, none⟩ (.bool false)) := (Below.refl _ W).setCell (p := ⟨w.heap.size + 1 + 1 + 1, 0, none⟩) (by simp; omega) _
      have hB2 := hB1.trans hbs
      gi_wp2_with (gi_at_builtin; go_loud (refine wpListIn_append_own _ rfl _ _ 45 rfl w.heap.size 76 i0 _ 7 56 Try.underlying45 hi hz0 hz1 hz2 rfl (by decide) _ _ _ rfl (hrow2.alloc _) ⟨W.heap.size, 0, none⟩ 1 1 (Acc.cells x.2) rfl rfl (World.news_of_block (cs := accArr x.2) (t := 76) (fr := (0, 0)) (blk_new_set W _ _ _)) (by simp [Value.oneCell', Acc.cells]) (by unfold maxLen; omega) (by omega) (by have := hB1.size; simp; omega) ?_; intro v' w1 hown' hgrow _; (obtain ⟨g', cap', rfl⟩ := ownsRow_succ hown'); (obtain ⟨hv1, hv2, hr2, hk2, hb2⟩ := d2.appended (by decide) hrow2 hB2.size (by omega) hown' hgrow); (have hc1 := hv1.cell); (have hf1 := hv1.frozen); (have e3 := ((d3.alloc _).kept hgrow (d3.not_row (by decide) hrow2)).other (B' := w.heap.size + 1 + 1) (by omega) (.slice (some ⟨g', 0, none⟩) (pre.length + 1) cap')); (have e0 := ((d0.alloc _).kept hgrow (d0.not_row (by decide) hrow2)).other (B' := w.heap.size + 1 + 1) (by omega) (.slice (some ⟨g', 0, none⟩) (pre.length + 1) cap')); (have e1 := ((d1.alloc _).kept hgrow (d1.not_row (by decide) hrow2)).other (B' := w.heap.size + 1 + 1) (by omega) (.slice (some ⟨g', 0, none⟩) (pre.length + 1) cap')); clear hv1))
      exact ⟨((KeepsOthers.setCell _ _ _).from _).trans (hk2.from _), hbs.trans hb2, ⟨⟨⟨by rw [← HQ.out]; exact e3, e0⟩, e1⟩, _, hv2, by rw [pls_snoc]; simpa using hr2, trivial⟩, hB2.trans hb2⟩
  case done =>
    rintro D ys W hD rfl ⟨⟨⟨⟨c3, c0⟩, c1⟩, v, c2, hrow, -⟩, hB1⟩ hK
    obtain ⟨t1, t2, t3⟩ := told_all s.log
    rw [t1] at c3
    rw [t2, t3] at hrow
    obtain ⟨A0, cap0, hv⟩ := own_slice hrow
    subst hv
    have k2 := c2.cell
    have k3 := c3.cell
    have k0 := c0.cell
    have f0 := c0.frozen
    have k1 := c1.cell
    have f1 := c1.frozen
    have hmx : Try.prog.follows .mixedOrders = true := by kernel_rfl
    gi_wp2
    gi_region_with_o (fail)
    all_goals gi_wp2
    all_goals
      have r0 : ((W.setCell ⟨w.heap.size, 0, none⟩ (.slice A0 s.log.length cap0)).setCell ⟨w.heap.size + 1, 0, none⟩ (.bool true)).drew.heap[D]? = some (.deferred (some [])) := (Below.heap_setCell _ _ _ D (by simp; omega)).trans ((Below.heap_setCell _ _ _ D (by simp; omega)).trans hK)
      have e0 : Boxed ((W.setCell ⟨w.heap.size, 0, none⟩ (.slice A0 s.log.length cap0)).setCell ⟨w.heap.size + 1, 0, none⟩ (.bool true)).drew w.heap.size 45 (.slice A0 s.log.length cap0) := (c0.set _).other (by omega) _
      have e1 : Boxed ((W.setCell ⟨w.heap.size, 0, none⟩ (.slice A0 s.log.length cap0)).setCell ⟨w.heap.size + 1, 0, none⟩ (.bool true)).drew (w.heap.size + 1) 4 (.bool true) := (c1.other (by omega) _).set _
      have er := (own_far (own_far hrow ⟨w.heap.size, 0, none⟩ (.slice A0 s.log.length cap0) (fun e => (c0.not_row (by decide) hrow) e.symm)) ⟨w.heap.size + 1, 0, none⟩ (.bool true) (fun e => (c1.not_row (by decide) hrow) e.symm)).drew
      have eb := ((hB1.setCell (p := ⟨w.heap.size, 0, none⟩) (Nat.le_refl _) (.slice A0 s.log.length cap0)).setCell (p := ⟨w.heap.size + 1, 0, none⟩) (by simp) (.bool true)).drew
      refine ⟨by simp, .inl ⟨_, _, rfl, run_takeDeferred r0, ?_⟩⟩
      have q0 := (e0.kept (grownBy_putObj' _ D (.deferred none)) (by simp; omega)).cell
      have q1 := (e1.kept (grownBy_putObj' _ D (.deferred none)) (by simp; omega)).cell
      exact ⟨_, by simp [results, Try.results31, go_sem, q0, q1], _, rfl, ownsRow_putObj er _ r0 rfl, eb.trans (belowK_b (w := w) (Nat.le_refl _) _ D _ _ (by omega) r0 rfl rfl)⟩
  case stop =>
    rintro D c pre W _ _ h _
    exact h.elim
theorem Sys.logged {B : Nat} {w : World} {a c : Nat} {s : AS} {ps : List (Nat × Int × Bool)} (h : Sys B w a c s ps) (hl : s.log.length ≤ 200) :
    Calls Try.prog 31 #[.pointer (some ⟨a, 0, none⟩)] w fun e w' => ∃ v, e = .returned (.tuple #[v, .bool true]) ∧ w'.ownsRow w.heap.size 76 7 v s.log.length (s.log.flatMap Acc.cells) ∧ Below w.heap.size w w' :=
  callsIn_wide.1 (logged_in B w a c s ps h hl)
end Go.Proofs.Ytneppenmhbjfkaa.Ar
