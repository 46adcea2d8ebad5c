/- Log: the accesses that were kept, one behind the other. -/
import Derived.Test.YtneppenmhbjfkaaImg
import Derived.RangeFuncNested
import Derived.RangeFuncFrom
import Derived.RangeFuncBound
import Derived.RangeFuncCalls
import Derived.RangeFuncLeaves
import Derived.RangeFuncBox
import Derived.Shelf.Abstract
import Derived.OwnWalkIn
import Derived.TacticsInMore
import Derived.LoopNIn
import Derived.LoopIn
import Derived.Shelf.RegionOpen
namespace Go.Proofs.Ytneppenmhbjfkaa.Ar
open Go Go.RowKit Go.Shelf Go.Proofs.Ytneppenmhbjfkaa.Hp
open Go.Proofs.YtneppenmhbjfkaaW.PrintWords (Kd Drawn0 rd LeO)
open Go.Proofs.Ytneppenmhbjfkaa.PH
set_option linter.unusedVariables false
set_option linter.unusedSimpArgs false
attribute [local go_sem] Oper.semAt_some

/-- A log in block b, as it is read. -/
def LogAt (W : World) (b : Nat) (log : List Acc) : Prop :=
  b < W.heap.size ∧ ∀ i x, log[i]? = some x → W.cell? ⟨b, i * 7, none⟩ = some (.int .i64 x.who) ∧ W.cell? ⟨b, i * 7 + 1, none⟩ = some (.int .i64 x.kind) ∧ W.cell? ⟨b, i * 7 + 2, none⟩ = some (.int .i64 x.at_) ∧
      W.cell? ⟨b, i * 7 + 3, none⟩ = some (.int .u64 x.want) ∧ W.cell? ⟨b, i * 7 + 4, none⟩ = some (.int .u64 x.put) ∧ W.cell? ⟨b, i * 7 + 5, none⟩ = some (.int .u64 x.seen) ∧ W.cell? ⟨b, i * 7 + 6, none⟩ = some (.int .u64 x.left)

theorem flat_get : ∀ (log : List Acc) (i : Nat) (x : Acc) (j : Nat), log[i]? = some x → j < 7 → (log.flatMap Acc.cells)[i * 7 + j]? = (Acc.cells x)[j]?
  | [], i, x, j, h, _ => by simp at h
  | y :: log, 0, x, j, h, hj => by
    simp at h; subst h
    rw [List.flatMap_cons, Nat.zero_mul, Nat.zero_add, List.getElem?_append_left (by simp [Acc.cells]; omega)]
  | y :: log, i + 1, x, j, h, hj => by
    rw [List.flatMap_cons, List.getElem?_append_right (by simp [Acc.cells]; omega)]
    rw [show (i + 1) * 7 + j - (Acc.cells y).length = i * 7 + j by simp [Acc.cells]; omega]
    exact flat_get log i x j (by simpa using h) hj

theorem logAt_of {B : Nat} {w : World} {lv : Value} {log : List Acc} (h : w.ownsRow B 76 7 lv log.length (log.flatMap Acc.cells)) : (lv = .slice none 0 0 ∧ log = []) ∨ ∃ b cap, lv = .slice (some ⟨b, 0, none⟩) log.length cap ∧ log.length ≤ cap ∧ LogAt w b log := by
  rcases h.2 with ⟨rfl, h2⟩ | ⟨g, cap, cur, rfl, h3, h4, h5, h6, h7, h8⟩
  · exact .inl ⟨rfl, List.length_eq_zero_iff.1 h2⟩
  · refine .inr ⟨g, cap, rfl, h5, blk_lt h4, fun i x hx => ?_⟩
    have hi : i < log.length := (List.getElem?_eq_some_iff.1 hx).1
    have key : ∀ j u, j < 7 → (Acc.cells x)[j]? = some u → w.cell? ⟨g, i * 7 + j, none⟩ = some u := by
      intro j u hj hu
      have e1 := congrArg (fun l => l[i * 7 + j]?) h8
      rw [List.getElem?_take_of_lt (by omega), flat_get log i x j hx hj, hu, Array.getElem?_toList] at e1
      simp [World.cell?, h4, e1]
    exact ⟨key 0 _ (by omega) rfl, key 1 _ (by omega) rfl, key 2 _ (by omega) rfl, key 3 _ (by omega) rfl, key 4 _ (by omega) rfl, key 5 _ (by omega) rfl, key 6 _ (by omega) rfl⟩
theorem LogAt.below {n₀ b : Nat} {A W : World} {log : List Acc} (h : LogAt A b log) (hb : Below n₀ A W) (hn : b < n₀) : LogAt W b log := by
  obtain ⟨hlt, hcell⟩ := h
  refine ⟨Nat.lt_of_lt_of_le hlt hb.size, fun i x hx => ?_⟩
  obtain ⟨a0, a1, a2, a3, a4, a5, a6⟩ := hcell i x hx
  exact ⟨(hb.cell (p := ⟨b, _, none⟩) hn).trans a0, (hb.cell (p := ⟨b, _, none⟩) hn).trans a1, (hb.cell (p := ⟨b, _, none⟩) hn).trans a2, (hb.cell (p := ⟨b, _, none⟩) hn).trans a3, (hb.cell (p := ⟨b, _, none⟩) hn).trans a4, (hb.cell (p := ⟨b, _, none⟩) hn).trans a5, (hb.cell (p := ⟨b, _, none⟩) hn).trans a6⟩

/-- What has come when k rounds are over. -/
def told (log : List Acc) (k : Nat) : List (Nat × Acc) := (log.take k).zipIdx.map fun x => (x.2, x.1)
theorem told_succ (log : List Acc) (k : Nat) (x : Acc) (h : log[k]? = some x) : told log (k + 1) = told log k ++ [(k, x)] := by
  have hk : k < log.length := (List.getElem?_eq_some_iff.1 h).1
  unfold told
  rw [List.take_add_one, h]
  simp [List.zipIdx_append, Nat.min_eq_left (Nat.le_of_lt hk)]
theorem told_length (log : List Acc) (k : Nat) (h : k ≤ log.length) : (told log k).length = k := by simp [told]; omega

def encAcc (x : Nat × Acc) : Array Value := #[.int .i64 x.1, .agg #[.int .i64 x.2.who, .int .i64 x.2.kind, .int .i64 x.2.at_, .int .u64 x.2.want, .int .u64 x.2.put, .int .u64 x.2.seen, .int .u64 x.2.left]]

set_option maxRecDepth 100000 in
set_option maxHeartbeats 4000000 in
theorem log1_in (n : Nat) (hn : 1 ≤ n) (l Bn n₀ a : Nat) (lv : Value) (log : List Acc) (J Jx : List (Nat × Acc) → World → Prop)
    (hY : ∀ pre x W, J pre W → pre.length < log.length → YieldAt Fence.wide (n - 1) Try.prog l (encAcc x) W fun e W' =>
      (e = .returned (.bool true) ∧ J (pre ++ [x]) W' ∧ Below n₀ W W') ∨ (e = .returned (.bool false) ∧ Jx (pre ++ [x]) W'))
    (hJ : ∀ pre W, J pre W → ∀ o : Obj, J pre (W.alloc o))
    (W : World) (hs : log.length ≤ 1000000) (hnW : n₀ ≤ W.heap.size) (hBn : W.cell? ⟨Bn, 0, none⟩ = some (.pointer (some ⟨a, 0, none⟩))) (hA : W.cell? ⟨a, 1, none⟩ = some lv) (hL : (lv = .slice none 0 0 ∧ log = []) ∨ ∃ b cap, lv = .slice (some ⟨b, 0, none⟩) log.length cap ∧ log.length ≤ cap ∧ b < n₀ ∧ LogAt W b log) (h0 : J [] W) :
    CallsIn Fence.wide n Try.prog 45 #[.func (.yield l) #[] #[], .pointer (some ⟨Bn, 0, none⟩)] W fun e W' => (∃ v, e = .returned v) ∧
      ((∃ ys, ys = told log log.length ∧ J ys W') ∨ (∃ pre, True ∧ Jx pre W')) := by
  refine callsIn_of_wp Try.func45 rfl trivial ?_ rfl
  simp only [Try.ntmps45, List.size_toArray, List.length_cons, List.length_nil, Nat.reduceAdd, Nat.reduceSub, Array.replicate_succ, Array.replicate_zero, List.push_toArray, List.append_toArray, List.nil_append, List.cons_append]
  rcases hL with ⟨rfl, rfl⟩ | ⟨b, cap, rfl, hc, hbn, hL⟩
  · clear hY hJ
    gi_wp2
    gi_loopw [12] (fun i wr => i = .int .i64 0 ∧ J [] wr) (fun i _ => 0)
    case atStart => exact ⟨rfl, h0⟩
    case round =>
      obtain ⟨rfl, hJs⟩ := hrel
      gi_wp2
      go_end0
      exact ⟨⟨_, rfl⟩, .inl ⟨[], rfl, hJs⟩⟩
  · have HL := Lib.hid hL
    clear hL
    gi_wp2
    gi_loopw [12] (fun i wr => ∃ k : Nat, k ≤ log.length ∧ i = .int .i64 k ∧ J (told log k) wr ∧ Below n₀ W wr) (fun i _ => log.length - (intOf i).toNat)
    case atStart => exact ⟨0, Nat.zero_le _, rfl, h0, Below.refl _ _⟩
    case round =>
      obtain ⟨k, hk, rfl, hJs, hBs⟩ := hrel
      by_cases hlt : k < log.length
      · obtain ⟨x, hx⟩ : ∃ x, log[k]? = some x := ⟨_, List.getElem?_eq_getElem hlt⟩
        obtain ⟨hbl, hcx⟩ := HL.out.below hBs hbn
        obtain ⟨a0, a1, a2, a3, a4, a5, a6⟩ := hcx k x hx
        have hts := told_succ log k x hx
        have htl := told_length log k hk
        obtain ⟨fn, tmps, assign, body, hy, hR⟩ := hY (told log k) (k, x) (wr.alloc (.cells #[.int .i64 x.who, .int .i64 x.kind, .int .i64 x.at_, .int .u64 x.want, .int .u64 x.put, .int .u64 x.seen, .int .u64 x.left] 76)) (hJ _ _ hJs _) (by omega)
        have HTS := Lib.hid hts
        have HX := Lib.hid hx
        clear hts hx hcx hY htl
        unfold encAcc at hy
        dsimp only at hy
        gi_wp2
        refine hR.mono ?_
        rintro e W3 (⟨rfl, hJ3, hk3⟩ | ⟨rfl, hJx3⟩)
        · gi_wp2
          go_roundw
          case rel => exact ⟨k + 1, by omega, by go_num, by rw [HTS.out]; exact hJ3, (hBs.alloc (Nat.le_trans hnW hBs.size) _).trans hk3⟩
          case measure => simp [intOf]; omega
        · gi_wp2
          refine bodyPost_ret (results_none rfl _ _ _) rfl ?_
          exact ⟨⟨_, rfl⟩, .inr ⟨_, trivial, hJx3⟩⟩
      · obtain rfl : k = log.length := by omega
        gi_wp2
        go_end0
        exact ⟨⟨_, rfl⟩, .inl ⟨_, rfl, hJs⟩⟩

theorem log_in (n a : Nat) (w : World) :
    CallsIn Fence.wide n Try.prog 44 #[.pointer (some ⟨a, 0, none⟩)] w fun e w' => e = .returned (.func (.func 45) #[] #[.pointer (some ⟨w.heap.size, 0, none⟩)]) ∧ w' = w.alloc (.cells #[.pointer (some ⟨a, 0, none⟩)] 27) := by
  refine callsIn_of_wp Try.func44 rfl trivial ?_ rfl
  simp only [Try.ntmps44, List.size_toArray, List.length_cons, List.length_nil, Nat.reduceAdd, Nat.reduceSub, Array.replicate_succ, Array.replicate_zero, List.push_toArray, List.append_toArray, List.nil_append, List.cons_append]
  gi_wp2
  go_ret
  exact ⟨rfl, rfl⟩

theorem log_stops (n Bn n₀ a : Nat) (hn : 1 ≤ n) (lv : Value) (log : List Acc) (w : World) (hs : log.length ≤ 1000000) (hBn : Bn < w.heap.size) (hn₀ : n₀ ≤ w.heap.size) (ha : a < n₀) (hc : w.cell? ⟨Bn, 0, none⟩ = some (.pointer (some ⟨a, 0, none⟩))) (hA : w.cell? ⟨a, 1, none⟩ = some lv)
    (hL : (lv = .slice none 0 0 ∧ log = []) ∨ ∃ b cap, lv = .slice (some ⟨b, 0, none⟩) log.length cap ∧ log.length ≤ cap ∧ b < n₀ ∧ LogAt w b log) :
    SeqStopsK Fence.wide n Try.prog 45 #[.pointer (some ⟨Bn, 0, none⟩)] encAcc (Below n₀) (fun ys => ys = told log log.length) (fun _ => True) log.length w := fun l J Jx W hW hJ _ hY h0 =>
  log1_in n hn l Bn n₀ a lv log J Jx hY (fun pre W1 h o => hJ pre W1 _ none h (World.grownBy_alloc W1 o none) (fun r e => by cases e)) W hs (Nat.le_trans hn₀ hW.size) ((hW.cell (p := ⟨Bn, 0, none⟩) hBn).trans hc) ((hW.cell (p := ⟨a, 1, none⟩) (Nat.lt_of_lt_of_le ha hn₀)).trans hA) (hL.imp_right fun ⟨b, cap, e, hc, hb, h⟩ => ⟨b, cap, e, hc, hb, h.below hW (by omega)⟩) h0
end Go.Proofs.Ytneppenmhbjfkaa.Ar
