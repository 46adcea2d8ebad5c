/- MaskCovers: the loop over the rows of places. -/
import Derived.Test.YticoepbjpeepcaaDoorPureMaskCovers
import Derived.RangeFuncFrom
import Derived.RangeFuncBound
import Derived.RangeFuncCalls
import Derived.RangeFuncLeaves
import Derived.RangeFuncBox
import Derived.Shelf.Abstract
import Derived.OwnWalkIn
import Derived.TacticsInMore
import Derived.LoopNIn
import Derived.LoopIn
import Derived.Lib.Hide
import Derived.Shelf.RegionOpen
namespace Go.Proofs.YticoepbjpeepcaaDoor.Cov
open Go Go.RowKit Go.Shelf Go.Proofs.YticoepbjpeepcaaDoor.PAll Go.Proofs.YticoepbjpeepcaaDoorW.PrintWords Go.Proofs.YticoepbjpeepcaaDoorW.PrintLast Go.Proofs.YticoepbjpeepcaaDoorW.PrintMore Go.Proofs.YticoepbjpeepcaaDoor.Mk
set_option linter.unusedVariables false
set_option linter.unusedSimpArgs false
attribute [local go_sem] Oper.semAt_some

def encs (x : X) : Array Value := #[.int .i64 ((x.1.1 : Nat) : Int), .int .i64 ((x.1.2 : Nat) : Int)]
/-- What a round keeps: the caller's memory, the iterator's box. -/
def Kp (n₀ Bs : Nat) (A B : World) : Prop := Below n₀ A B ∧ B.heap[Bs]? = A.heap[Bs]?
theorem below_grown {w w' : World} (h : Below w.heap.size w w') : w.grownBy w' none := ⟨h.os, h.tape, h.output, h.size, fun k hk _ => h.block k hk⟩
theorem below_keeps {w w' : World} (h : Below w.heap.size w w') : KeepsOthers w w' := ⟨h.size, fun k o hk _ => (h.block k (Array.getElem?_eq_some_iff.1 hk).1).trans hk⟩
theorem box_cell {w : World} {B t : Nat} {v : Value} (h : w.heap[B]? = some (.cells #[v] t (0, 0))) : w.cell? ⟨B, 0, none⟩ = some v ∧ w.frozen? ⟨B, 0, none⟩ = false := by
  constructor <;> simp [World.cell?, World.frozen?, h]
theorem box_lt {w : World} {B : Nat} {o : Obj} (h : w.heap[B]? = some o) : B < w.heap.size := (Array.getElem?_eq_some_iff.1 h).1
theorem box_below {w w' : World} {B : Nat} {o : Obj} (h : w.heap[B]? = some o) (hb : Below w.heap.size w w') : w'.heap[B]? = some o := (hb.block B (box_lt h)).trans h
/-- What comes next. -/
def Nx (L : List Int) (pre : List X) (r : Int) : Prop := (r = -1 ∧ Done L pre) ∨ ∃ (x : X) (k2 : Nat) (c : Int), r = x.1.1 ∧ mask_Clear.f k2 L (x.1.1 : Int) = some c ∧ ((c = -1 ∧ x.1.1 + x.1.2 = 64 * L.length) ∨ c = ((x.1.1 + x.1.2 : Nat) : Int)) ∧ Good L (pre ++ [x])

set_option maxRecDepth 100000 in
set_option maxHeartbeats 4000000 in
theorem runs1_in (l Bs n₀ n c : Nat) (A : Option Addr) (L : List Int) (hl : AllW L) (h8 : L.length ≤ 8) (hcap : L.length ≤ c) (hn : 1 ≤ n) (BJ : Nat) (J Jx : List X → World → Prop) (hJ : AbidesFrom BJ J)
    (hY : ∀ (pre : List X) (x : X) (W : World), J pre W → pre.length < 513 → YieldAt Fence.wide (n - 1) Tryd.prog l (encs x) W fun e W' =>
      (e = .returned (.bool true) ∧ J (pre ++ [x]) W' ∧ Kp n₀ Bs W W') ∨ (e = .returned (.bool false) ∧ Jx (pre ++ [x]) W'))
    (W : World) (hn0 : n₀ ≤ W.heap.size) (HL : ∀ W', Below n₀ W W' → LAID W') (HC : ∀ W', Below n₀ W W' → Kd.C (Kd.int .u64) W' A L.length L)
    (hBs : W.heap[Bs]? = some (.cells #[.slice A L.length c] 24 (0, 0))) (h0 : J [] W) :
    CallsIn Fence.wide n Tryd.prog 48 #[.func (.yield l) #[] #[], .pointer (some ⟨Bs, 0, none⟩)] W fun e W' => (∃ v, e = .returned v) ∧
      ((∃ ys, Done L ys ∧ J ys W') ∨ (∃ pre, Good L pre ∧ Jx pre W')) := by
  have KJ := Lib.hid hJ
  have KY := Lib.hid hY
  have KL := Lib.hid HL
  have KC := Lib.hid HC
  have KW := Lib.hid hl
  have K8 := Lib.hid h8
  have Kc := Lib.hid hcap
  have Kn := Lib.hid hn0
  clear hJ hY HL HC hl hcap hn0
  refine callsIn_of_wp Tryd.func48 rfl trivial ?_ rfl
  simp only [Tryd.ntmps48, List.size_toArray, List.length_cons, List.length_nil, Nat.reduceAdd, Nat.reduceSub, Array.replicate_succ, Array.replicate_zero, List.push_toArray, List.append_toArray, List.nil_append, List.cons_append]
  obtain ⟨bc, -⟩ := box_cell hBs
  have KB := Lib.hid hBs
  have KJ0 := Lib.hid h0
  clear hBs h0
  obtain ⟨k0, r0, hk0, hr0⟩ := step (.nil : Good L []) KW.out K8.out
  have KN := Lib.hid hk0
  have KR := Lib.hid hr0
  clear hk0 hr0
  gi_wp2_with (first | (refine ⟨trivial, ?_⟩; gi_at_call 16; ((have hm := mask_Next.calls k0 A c L 0 r0 W (KC.out _ (Below.refl _ _)) Kc.out (Aside0.mk (KL.out _ (Below.refl _ _))) KN.out); refine (callsIn_wide.2 hm).mono ?_; clear hm; rintro e w2 ⟨rfl, hb⟩; (have KB2 := Lib.hid (box_below KB.out hb)); (have KJ2 := Lib.hid (KJ.out _ _ _ none KJ0.out (below_grown hb) (fun _ e => by cases e))); (have KD := Lib.hid (hb.mono Kn.out)); clear hb)))
  gi_loopw [3] (fun v3 wr => ∃ (pre : List X) (r : Int), v3 = .int .i64 r ∧ Hid (Good L pre) ∧ Hid (Nx L pre r) ∧ Hid (J pre wr) ∧ Hid (Below n₀ W wr) ∧ Hid (wr.heap[Bs]? = some (.cells #[.slice A L.length c] 24 (0, 0)))) (fun v3 _ => if intOf v3 < 0 then 0 else 600 - (intOf v3).toNat)
  case atStart => exact ⟨[], r0, rfl, Lib.hid .nil, KR, KJ2, KD, KB2⟩
  case round =>
    obtain ⟨pre, r, rfl, HG, HN, HJ, HD, HB⟩ := hrel
    clear KJ2 KD KB2 KB KJ0 KN KR bc
    obtain ⟨bc, -⟩ := box_cell HB.out
    rcases HN.out with ⟨rfl, hd⟩ | ⟨x, k2, cl, rfl, hk2, hcl, hg⟩
    · have KDn := Lib.hid hd
      clear hd
      gi_wp2
      go_end0
      exact ⟨⟨_, rfl⟩, .inl ⟨_, KDn.out, HJ.out⟩⟩
    · have KG := Lib.hid hg
      have KK := Lib.hid hk2
      have hlen : pre.length < 513 := by have := good_len hg; rw [List.length_append, endOf_snoc] at this; have h2 := x.2; have h3 : ([x] : List X).length = 1 := rfl; omega
      have KLen := Lib.hid hlen
      have hend : endOf (pre ++ [x]) = x.1.1 + x.1.2 := endOf_snoc pre x
      obtain ⟨k3, r3, hk3, hr3⟩ := step hg KW.out K8.out
      rw [hend] at hk3
      have KR3 := Lib.hid hr3
      have hok := hg.last
      have hpos := hok.pos
      have hle := x.2
      have KY2 := Lib.hid (fun W' (h : J pre W') => KY.out pre x W' h hlen)
      have KF := Lib.hid (fun (x' : X) (h : Good L (pre ++ [x] ++ [x'])) => h.last.le)
      rw [show encs x = #[.int .i64 ((x.1.1 : Nat) : Int), .int .i64 ((x.1.2 : Nat) : Int)] from rfl] at KY2
      obtain ⟨f, hf⟩ : ∃ f, f = x.1.1 := ⟨_, rfl⟩
      obtain ⟨m, hm⟩ : ∃ m, m = x.1.2 := ⟨_, rfl⟩
      rw [← hf] at hle KK hcl hend hk3 KY2 ⊢
      rw [← hm] at hle hcl hend hk3 hpos KY2
      obtain ⟨g, hge⟩ : ∃ g, g = f + m := ⟨_, rfl⟩
      rw [← hge] at hle hcl hend hk3
      have KN3 := Lib.hid hk3
      have KE := Lib.hid hend
      have e2 : wrap64 ((g : Int) - (f : Int)) = (m : Int) := by unfold wrap64; omega
      have KX := Lib.hid (And.intro hf hm)
      have KS := Lib.hid (And.intro hge hpos)
      have E2 := Lib.hid e2
      clear hg hk2 hlen hend hk3 hr3 hok hf hm hge hpos e2
      rcases hcl with ⟨rfl, hz⟩ | rfl
      · have e1 : (L.length : Int) * 64 = (g : Int) := by omega
        have E1 := Lib.hid e1
        clear e1 hz
        gi_wp2_with (first | (refine ⟨trivial, ?_⟩; gi_at_call 18; ((have hm := mask_Clear.calls k2 A c L (f : Int) _ wr (KC.out _ HD.out) Kc.out (Aside0.mk (KL.out _ HD.out)) KK.out); refine (callsIn_wide.2 hm).mono ?_; clear hm; rintro e w2 ⟨rfl, hb⟩; replace HB := Lib.hid (box_below HB.out hb); replace HJ := Lib.hid (KJ.out _ _ _ none HJ.out (below_grown hb) (fun _ e => by cases e)); replace HD := Lib.hid (HD.out.trans (hb.mono (Nat.le_trans Kn.out HD.out.size))); clear hb bc; (obtain ⟨bc, -⟩ := box_cell HB.out))))
        rw [E1.out]
        rw [E2.out]
        obtain ⟨fn, tmps, assign, body, hy, hR⟩ := KY2.out _ HJ.out
        rw [hy]
        gi_wp2
        refine hR.mono ?_
        clear hR hy
        rintro e W3 (⟨rfl, hJ3, hk3⟩ | ⟨rfl, hJx3⟩)
        · clear HJ bc
          have HJ := Lib.hid hJ3
          replace HD := Lib.hid (HD.out.trans hk3.1)
          replace HB := Lib.hid (hk3.2.trans HB.out)
          clear hJ3 hk3
          obtain ⟨bc, -⟩ := box_cell HB.out
          gi_wp2_with (first | (refine ⟨trivial, ?_⟩; gi_at_call 16; ((have hm := mask_Next.calls k3 A c L (g : Int) r3 W3 (KC.out _ HD.out) Kc.out (Aside0.mk (KL.out _ HD.out)) KN3.out); refine (callsIn_wide.2 hm).mono ?_; clear hm; rintro e w4 ⟨rfl, hb⟩; replace HB := Lib.hid (box_below HB.out hb); replace HJ := Lib.hid (KJ.out _ _ _ none HJ.out (below_grown hb) (fun _ e => by cases e)); replace HD := Lib.hid (HD.out.trans (hb.mono (Nat.le_trans Kn.out HD.out.size))); clear hb)))
          go_roundw
          case rel => exact ⟨pre ++ [x], r3, rfl, KG, KR3, HJ, HD, HB⟩
          case measure =>
            rcases KR3.out with ⟨rfl, _⟩ | ⟨x', _, _, rfl, _, _, hg'⟩
            · have h1 : intOf (.int .i64 (-1)) < 0 := by decide
              have h2 : ¬ intOf (.int .i64 ((f : Nat) : Int)) < 0 := by show ¬ ((f : Nat) : Int) < 0; omega
              have h5 := KS.out
              rw [if_pos h1, if_neg h2]
              show 0 < 600 - ((f : Int)).toNat
              omega
            · have h3 := KF.out x' hg'
              rw [KE.out] at h3
              have h4 := x'.2
              have h5 := KS.out
              have h1 : ¬ intOf (.int .i64 ((x'.1.1 : Nat) : Int)) < 0 := by show ¬ ((x'.1.1 : Nat) : Int) < 0; omega
              have h2 : ¬ intOf (.int .i64 ((f : Nat) : Int)) < 0 := by show ¬ ((f : Nat) : Int) < 0; omega
              rw [if_neg h1, if_neg h2]
              show 600 - ((x'.1.1 : Int)).toNat < 600 - ((f : Int)).toNat
              omega
        · gi_wp2
          refine bodyPost_ret (results_none rfl _ _ _) rfl ?_
          exact ⟨⟨_, rfl⟩, .inr ⟨_, KG.out, hJx3⟩⟩
      · gi_wp2_with (first | (refine ⟨trivial, ?_⟩; gi_at_call 18; ((have hm := mask_Clear.calls k2 A c L (f : Int) _ wr (KC.out _ HD.out) Kc.out (Aside0.mk (KL.out _ HD.out)) KK.out); refine (callsIn_wide.2 hm).mono ?_; clear hm; rintro e w2 ⟨rfl, hb⟩; replace HB := Lib.hid (box_below HB.out hb); replace HJ := Lib.hid (KJ.out _ _ _ none HJ.out (below_grown hb) (fun _ e => by cases e)); replace HD := Lib.hid (HD.out.trans (hb.mono (Nat.le_trans Kn.out HD.out.size))); clear hb bc; (obtain ⟨bc, -⟩ := box_cell HB.out))))
        rw [E2.out]
        obtain ⟨fn, tmps, assign, body, hy, hR⟩ := KY2.out _ HJ.out
        rw [hy]
        gi_wp2
        refine hR.mono ?_
        clear hR hy
        rintro e W3 (⟨rfl, hJ3, hk3⟩ | ⟨rfl, hJx3⟩)
        · clear HJ bc
          have HJ := Lib.hid hJ3
          replace HD := Lib.hid (HD.out.trans hk3.1)
          replace HB := Lib.hid (hk3.2.trans HB.out)
          clear hJ3 hk3
          obtain ⟨bc, -⟩ := box_cell HB.out
          gi_wp2_with (first | (refine ⟨trivial, ?_⟩; gi_at_call 16; ((have hm := mask_Next.calls k3 A c L (g : Int) r3 W3 (KC.out _ HD.out) Kc.out (Aside0.mk (KL.out _ HD.out)) KN3.out); refine (callsIn_wide.2 hm).mono ?_; clear hm; rintro e w4 ⟨rfl, hb⟩; replace HB := Lib.hid (box_below HB.out hb); replace HJ := Lib.hid (KJ.out _ _ _ none HJ.out (below_grown hb) (fun _ e => by cases e)); replace HD := Lib.hid (HD.out.trans (hb.mono (Nat.le_trans Kn.out HD.out.size))); clear hb)))
          go_roundw
          case rel => exact ⟨pre ++ [x], r3, rfl, KG, KR3, HJ, HD, HB⟩
          case measure =>
            rcases KR3.out with ⟨rfl, _⟩ | ⟨x', _, _, rfl, _, _, hg'⟩
            · have h1 : intOf (.int .i64 (-1)) < 0 := by decide
              have h2 : ¬ intOf (.int .i64 ((f : Nat) : Int)) < 0 := by show ¬ ((f : Nat) : Int) < 0; omega
              have h5 := KS.out
              rw [if_pos h1, if_neg h2]
              show 0 < 600 - ((f : Int)).toNat
              omega
            · have h3 := KF.out x' hg'
              rw [KE.out] at h3
              have h4 := x'.2
              have h5 := KS.out
              have h1 : ¬ intOf (.int .i64 ((x'.1.1 : Nat) : Int)) < 0 := by show ¬ ((x'.1.1 : Nat) : Int) < 0; omega
              have h2 : ¬ intOf (.int .i64 ((f : Nat) : Int)) < 0 := by show ¬ ((f : Nat) : Int) < 0; omega
              rw [if_neg h1, if_neg h2]
              show 600 - ((x'.1.1 : Int)).toNat < 600 - ((f : Int)).toNat
              omega
        · gi_wp2
          refine bodyPost_ret (results_none rfl _ _ _) rfl ?_
          exact ⟨⟨_, rfl⟩, .inr ⟨_, KG.out, hJx3⟩⟩


set_option maxHeartbeats 1000000 in
theorem runs_in (n : Nat) (A : Option Addr) (m c : Nat) (w : World) :
    CallsIn Fence.wide n Tryd.prog 32 #[.slice A m c] w fun e w' => e = .returned (.func (.func 48) #[] #[.pointer (some ⟨w.heap.size, 0, none⟩)]) ∧ w' = w.alloc (.cells #[.slice A m c] 24) := by
  refine callsIn_of_wp Tryd.func32 rfl trivial ?_ rfl
  simp only [Tryd.ntmps32, List.size_toArray, List.length_cons, List.length_nil, Nat.reduceAdd, Nat.reduceSub, Array.replicate_succ, Array.replicate_zero, List.push_toArray, List.append_toArray, List.nil_append, List.cons_append]
  gi_wp2
  go_ret
  exact ⟨rfl, rfl⟩
theorem runs_stops (n n₀ Bs c : Nat) (A : Option Addr) (L : List Int) (hl : AllW L) (h8 : L.length ≤ 8) (hcap : L.length ≤ c) (hn : 1 ≤ n) (w : World) (hn0 : n₀ ≤ w.heap.size) (HL : ∀ W', Below n₀ w W' → LAID W') (HC : ∀ W', Below n₀ w W' → Kd.C (Kd.int .u64) W' A L.length L)
    (hBs : w.heap[Bs]? = some (.cells #[.slice A L.length c] 24 (0, 0))) :
    SeqStopsK Fence.wide n Tryd.prog 48 #[.pointer (some ⟨Bs, 0, none⟩)] encs (Kp n₀ Bs) (Done L) (Good L) 513 w := fun l J Jx W hW hJ hJx hY h00 =>
  runs1_in l Bs n₀ n c A L hl h8 hcap hn W.heap.size J Jx hJ hY W (Nat.le_trans hn0 hW.size) (fun W' h => HL W' ((hW.mono hn0).trans h)) (fun W' h => HC W' ((hW.mono hn0).trans h)) (box_below hBs hW) h00

theorem al_old {w : World} {k : Nat} {o : Obj} (h : w.heap[k]? = some o) (x : Obj) : (w.alloc x).heap[k]? = some o := (Below.heap_alloc w x k (box_lt h)).trans h
theorem al_new (w : World) (o : Obj) {n : Nat} (hn : w.heap.size = n) : (w.alloc o).heap[n]? = some o := by subst hn; exact World.alloc_heap_new w o
theorem set_box {w : World} {k t : Nat} {v : Value} (h : w.heap[k]? = some (.cells #[v] t (0, 0))) (u : Value) : (w.setCell ⟨k, 0, none⟩ u).heap[k]? = some (.cells #[u] t (0, 0)) := Boxed.set (v := v) u h
theorem set_far {w : World} {k : Nat} {o : Obj} (h : w.heap[k]? = some o) {b : Nat} (hb : k ≠ b) (u : Value) : (w.setCell ⟨b, 0, none⟩ u).heap[k]? = some o := (Below.heap_setCell w ⟨b, 0, none⟩ u k hb).trans h
/-- What the boxes hold behind some rounds. -/
def Inv (n₀ b1 b2 b3 b4 Bs c : Nat) (A : Option Addr) (L : List Int) (w : World) (pre : List X) (W : World) : Prop :=
  W.heap[b1]? = some (.cells #[.slice A L.length c] 24 (0, 0)) ∧ W.heap[b2]? = some (.cells #[.bool false] 4 (0, 0)) ∧ W.heap[b3]? = some (.cells #[.int .i64 ((endOf pre : Nat) : Int)] 3 (0, 0)) ∧ W.heap[b4]? = some (.cells #[.int .i64 ((cntOf pre : Nat) : Int)] 3 (0, 0)) ∧ W.heap[Bs]? = some (.cells #[.slice A L.length c] 24 (0, 0)) ∧ Below n₀ w W
theorem Inv.own {n₀ b1 b2 b3 b4 Bs c : Nat} {A : Option Addr} {L : List Int} {w w1 : World} (h1 : b1 < w1.heap.size) (h2 : b2 < w1.heap.size) (h3 : b3 < w1.heap.size) (h4 : b4 < w1.heap.size) (h5 : Bs < w1.heap.size) (hn : n₀ ≤ w1.heap.size) (hn2 : n₀ ≤ w.heap.size) : OwnFrom w1.heap.size (Inv n₀ b1 b2 b3 b4 Bs c A L w) := fun s W W' row hs hg hr => by
  have key : ∀ {k : Nat} {o : Obj}, k < w1.heap.size → W.heap[k]? = some o → W'.heap[k]? = some o := fun {k o} hk ho => (hg.block k (box_lt ho) (fun e => by have := (hr k e.symm).1; omega)).trans ho
  refine ⟨key h1 hs.1, key h2 hs.2.1, key h3 hs.2.2.1, key h4 hs.2.2.2.1, key h5 hs.2.2.2.2.1, ?_⟩
  have hb := hs.2.2.2.2.2
  exact ⟨hg.os.trans hb.os, hg.tape.trans hb.tape, hg.output.trans hb.output, Nat.le_trans hb.size hg.size, fun k hk => (hg.block k (by have := hb.size; omega) (fun e => by have := (hr k e.symm).1; omega)).trans (hb.block k hk)⟩
def nth : List Oper → Nat → Option Oper
  | [], _ => none
  | x :: _, 0 => some x
  | _ :: l, n + 1 => nth l n
theorem nth_eq : ∀ (l : List Oper) (n : Nat), nth l n = l[n]?
  | [], _ => by simp [nth]
  | x :: l, 0 => by simp [nth]
  | x :: l, n + 1 => by simp [nth, nth_eq l n]
theorem nth_ops {ops : Array Oper} {n : Nat} {o : Oper} (h : nth ops.toList n = some o) : ops[n]? = some o := by
  rw [nth_eq, Array.getElem?_toList] at h
  exact h
theorem anyIn_cases {F : Fence} {n : Nat} {P : Program} {ops : Array Oper} {Q : Exit → Act → World → Prop} {md : Region.Mode} {L : List Nat} {k : Nat} {listed : Array Bool} {a : Act} {w : World} (hr : Region.ready md ops listed = L) (hne : L ≠ [])
    (h : ∀ i ∈ L, ∃ oi, nth ops.toList i = some oi ∧ Region.wanted oi (yielded ops a.tmps) = true ∧ ∀ K : Act → World → Prop, Hid (∀ a' w', wpAnyIn F n P md ops Q k (listed.setIfInBounds i true) a' w' → K a' w') → oi.wpIn F n P a w K Q) : wpAnyIn F n P md ops Q (k + 1) listed a w := by
  refine ⟨fun h0 => absurd (hr.symm.trans h0) hne, fun j hj => ?_⟩
  rw [hr] at hj
  obtain ⟨oi, hi, hw, h⟩ := h j hj
  refine wpOpIn_step (nth_ops hi) fun K hK => ?_
  rw [if_pos hw]
  exact h K hK
theorem anyIn_done {F : Fence} {n : Nat} {P : Program} {ops : Array Oper} {Q : Exit → Act → World → Prop} {md : Region.Mode} : ∀ {k : Nat} {listed : Array Bool} {a : Act} {w : World}, Region.ready md ops listed = [] → Q .normal a w → wpAnyIn F n P md ops Q k listed a w
  | 0, _, _, _, hr, h => ⟨hr, h⟩
  | _ + 1, _, _, _, hr, h => ⟨fun _ => h, by rw [hr]; simp⟩
/-- Only the way on. -/
def only (Q : Exit → Act → World → Prop) : Exit → Act → World → Prop
  | .normal, a, w => Q .normal a w
  | _, _, _ => False
theorem only_of {F : Fence} {n : Nat} {P : Program} {c : Code} {Q : Exit → Act → World → Prop} {a : Act} {w : World} (h : c.wpIn F n P (only Q) a w) : c.wpIn F n P Q a w :=
  wpIn_mono h fun e a w hp => by cases e <;> first | exact hp | exact hp.elim
def Bad (L : List Int) (c : Code) (l : List X) : Prop := c = .ret ∧ ∃ (pre : List X) (x : X), l = pre ++ [x] ∧ ¬ Okay L (endOf pre) x

set_option maxRecDepth 100000 in
set_option maxHeartbeats 4000000 in
theorem covers_in (A : Option Addr) (c : Nat) (L : List Int) (hl : AllW L) (h8 : L.length ≤ 8) (hcap : L.length ≤ c) (w : World) (hL : LAID w) (hr : Kd.C (Kd.int .u64) w A L.length L) :
    CallsIn Fence.wide 5 Tryd.prog 8 #[.slice A L.length c] w fun e w' => e = .returned (.bool true) ∧ Below w.heap.size w w' := by
  have KL := Lib.hid hL
  have KC := Lib.hid hr
  have KW := Lib.hid hl
  have Kc := Lib.hid hcap
  clear hL hr hl hcap
  obtain ⟨km, hkm⟩ := masked_eo
  have KM := Lib.hid (hkm km (Nat.le_refl _))
  clear hkm
  have HB0 := Lib.hid (((Below.refl w.heap.size w).alloc (Nat.le_refl _) (.cells #[.slice A L.length c] 24)).alloc (by simp) (.cells #[.bool false] 4))
  have B1 := Lib.hid (al_old (World.alloc_heap_new w (.cells #[.slice A L.length c] 24)) (.cells #[.bool false] 4))
  have B2 := Lib.hid (al_new (w.alloc (.cells #[.slice A L.length c] 24)) (.cells #[.bool false] 4) (n := w.heap.size + 1) (by simp))
  refine callsIn_of_wp_marks Tryd.func8 rfl trivial ?_ rfl
  simp only [Tryd.ntmps8, List.size_toArray, List.length_cons, List.length_nil, Nat.reduceAdd, Nat.reduceSub, Array.replicate_succ, Array.replicate_zero, List.push_toArray, List.append_toArray, List.nil_append, List.cons_append]
  gi_wp2_with (first
    | (refine ⟨trivial, ?_⟩; gi_at_call 12; ((have hm := windrowlaw04_masked.calls km true _ (Aside0.mk (KL.out.below HB0.out)) KM.out); refine (callsIn_wide.2 hm).mono ?_; clear hm; rintro e w2 ⟨rfl, hb⟩; replace B1 := Lib.hid (box_below B1.out hb); (have KB2lt := Lib.hid (Nat.lt_of_lt_of_le (box_lt B2.out) hb.size)); replace B2 := Lib.hid (box_below B2.out hb); replace HB0 := Lib.hid (HB0.out.trans (hb.mono HB0.out.size)); clear hb; (obtain ⟨c1, -⟩ := box_cell B1.out); (have c2 := (box_cell (al_old (al_old B1.out (.cells #[.int .i64 0] 3)) (.cells #[.int .i64 0] 3))).1)))
    | (refine ⟨trivial, ?_⟩; gi_at_call 32; (refine (runs_in 4 A L.length c _).mono ?_; rintro e w3 ⟨rfl, rfl⟩)))
  have B3 := Lib.hid (al_old (al_old (al_new w2 (.cells #[.int .i64 0] 3) rfl) (.cells #[.int .i64 0] 3)) (.cells #[.slice A L.length c] 24))
  have B4 := Lib.hid (al_old (al_new (w2.alloc (.cells #[.int .i64 0] 3)) (.cells #[.int .i64 0] 3) (n := w2.heap.size + 1) (by simp)) (.cells #[.slice A L.length c] 24))
  have B5 := Lib.hid (al_new ((w2.alloc (.cells #[.int .i64 0] 3)).alloc (.cells #[.int .i64 0] 3)) (.cells #[.slice A L.length c] 24) (n := w2.heap.size + 1 + 1) (by simp))
  replace B1 := Lib.hid (al_old (al_old (al_old B1.out (.cells #[.int .i64 0] 3)) (.cells #[.int .i64 0] 3)) (.cells #[.slice A L.length c] 24))
  replace B2 := Lib.hid (al_old (al_old (al_old B2.out (.cells #[.int .i64 0] 3)) (.cells #[.int .i64 0] 3)) (.cells #[.slice A L.length c] 24))
  have hs2 := HB0.out.size
  have hs3 := box_lt B2.out
  have HB1 := Lib.hid (((HB0.out.alloc HB0.out.size (.cells #[.int .i64 0] 3)).alloc (by simp; omega) (.cells #[.int .i64 0] 3)).alloc (by simp; omega) (.cells #[.slice A L.length c] 24))
  have hb3 : w2.heap.size = w2.heap.size := rfl
  generalize hW1 : ((w2.alloc (.cells #[.int .i64 0] 3)).alloc (.cells #[.int .i64 0] 3)).alloc (.cells #[.slice A L.length c] 24) = W1 at B1 B2 B3 B4 B5 HB1 ⊢
  have KS : Hid (w.heap.size + 1 < w2.heap.size) := Lib.hid (by
    have h := KB2lt.out
    exact h)
  clear hW1 hb3 c1 c2 hs2 hs3
  refine wpIn_rangeFunc_ownF rfl (by decide) (gf := 48) (lb := #[.pointer (some ⟨w2.heap.size + 1 + 1, 0, none⟩)]) rfl trivial (enters_of Tryd.func48 (by kernel_rfl) rfl)
    (runs_stops 4 w.heap.size (w2.heap.size + 1 + 1) c A L KW.out h8 Kc.out (by decide) W1 HB1.out.size (fun W' h => KL.out.below (HB1.out.trans h)) (fun W' h => Kd.C_below KC.out (HB1.out.trans h)) B5.out)
    (fun h k => ⟨h.1.trans k.1, k.2.trans h.2⟩) (fun W l o o' hl ho hc1 hc2 => ⟨belowK_b (w := W1) HB1.out.size W l o o' hl ho hc1 hc2, World.putObj_heap_other (by have := box_lt B5.out; omega)⟩) (Below.refl _ _) (fun _ => rfl)
    (Inv w.heap.size w.heap.size (w.heap.size + 1) w2.heap.size (w2.heap.size + 1) (w2.heap.size + 1 + 1) c A L w)
    (fun c l _ => Bad L c l)
    (Inv.own (box_lt B1.out) (box_lt B2.out) (box_lt B3.out) (box_lt B4.out) (box_lt B5.out) HB1.out.size (Nat.le_refl _))
    (fun _ _ _ _ _ hs _ _ => hs)
    ⟨B1.out, B2.out, B3.out, B4.out, B5.out, HB1.out⟩
    (fun x => { tmps := #[.slice A L.length c, .pointer (some ⟨w.heap.size, 0, none⟩), .pointer (some ⟨w.heap.size + 1, 0, none⟩), .pointer (some ⟨w2.heap.size, 0, none⟩), .pointer (some ⟨w2.heap.size + 1, 0, none⟩), .int .i64 ((x.1.1 : Nat) : Int), .int .i64 ((x.1.2 : Nat) : Int), undef, undef, .bool true, .bool false, .bool false, .slice A L.length c, .int .i64 (L.length : Int), .bool (decide (8 < (L.length : Int))), .bool (decide (8 < (L.length : Int))), undef, .slice A L.length c, .func (.func 48) #[] #[.pointer (some ⟨w2.heap.size + 1 + 1, 0, none⟩)], .int .i64 ((x.1.1 : Nat) : Int), .int .i64 ((x.1.2 : Nat) : Int), undef, undef, undef, undef, undef, undef, undef, undef, undef, undef, undef, undef, undef, undef, undef, undef, undef, undef, undef, undef, undef, undef, undef, undef, undef, undef, undef, undef, undef, undef, undef, undef, undef, undef, undef, undef, undef, undef, undef, undef, undef, undef, undef, undef, undef, undef, undef, undef, undef, undef, undef, undef, undef, undef, undef, undef, undef, undef, undef, undef, undef, undef], defers := [] }) ?assign ?body ?done ?stop
  case assign =>
    intro l x W K hK
    rw [show encs x = #[.int .i64 ((x.1.1 : Nat) : Int), .int .i64 ((x.1.2 : Nat) : Int)] from rfl]
    gi_wp2
    exact hK
  case body =>
    rintro l pre x W ⟨i1, i2, i3, i4, i5, ib⟩ hlen
    have hxl := x.2
    have hel := endOf_le pre
    have hcl := cntOf_le pre
    obtain ⟨f, hf⟩ : ∃ f, f = x.1.1 := ⟨_, rfl⟩
    obtain ⟨m, hm⟩ : ∃ m, m = x.1.2 := ⟨_, rfl⟩
    obtain ⟨e, he⟩ : ∃ e, e = endOf pre := ⟨_, rfl⟩
    obtain ⟨ct, hct⟩ : ∃ ct, ct = cntOf pre := ⟨_, rfl⟩
    rw [← hf, ← hm] at hxl ⊢
    rw [← he] at hel i3
    rw [← hct] at hcl i4
    have hcl2 : ct ≤ 512 * 513 := by omega
    clear hcl hlen
    have I1 := Lib.hid i1
    have I2 := Lib.hid i2
    have I3 := Lib.hid i3
    have I4 := Lib.hid i4
    have I5 := Lib.hid i5
    have IB := Lib.hid ib
    have KF := Lib.hid hf
    have KM2 := Lib.hid hm
    have KE := Lib.hid he
    have KT := Lib.hid hct
    obtain ⟨c1, -⟩ := box_cell i1
    obtain ⟨c2, d2⟩ := box_cell i2
    obtain ⟨c3, d3⟩ := box_cell i3
    obtain ⟨c4, d4⟩ := box_cell i4
    clear i1 i2 i3 i4 i5 ib hf hm he hct B1 B2 B3 B4 B5
    have hways : m < 1 ∨ (1 ≤ m ∧ f < e) ∨ (1 ≤ m ∧ f = e ∧ 0 < e) ∨ (1 ≤ m ∧ e ≤ f ∧ (f = e → e = 0) ∧ 64 * L.length < f + m) ∨ (1 ≤ m ∧ e ≤ f ∧ (f = e → e = 0) ∧ f + m ≤ 64 * L.length) := by omega
    rcases hways with h1 | ⟨h1, h2⟩ | ⟨h1, h2, h3⟩ | ⟨h1, h2, h3, h4⟩ | ⟨h1, h2, h3, h4⟩
    · gi_wp2
      exact ⟨KeepsOthers.setCell _ _ _, rfl, pre, x, rfl, fun ok => by have q1 := ok.le; have q2 := ok.ne; have q3 := ok.pos; have q4 := ok.lt; rw [← KE.out] at q1 q2; rw [← KF.out] at q1 q2 q4; rw [← KM2.out] at q3 q4; omega⟩
    · gi_wp2
      exact ⟨KeepsOthers.setCell _ _ _, rfl, pre, x, rfl, fun ok => by have q1 := ok.le; have q2 := ok.ne; have q3 := ok.pos; have q4 := ok.lt; rw [← KE.out] at q1 q2; rw [← KF.out] at q1 q2 q4; rw [← KM2.out] at q3 q4; omega⟩
    · subst h2
      gi_wp2
      exact ⟨KeepsOthers.setCell _ _ _, rfl, pre, x, rfl, fun ok => by have q1 := ok.le; have q2 := ok.ne; have q3 := ok.pos; have q4 := ok.lt; rw [← KE.out] at q1 q2; rw [← KF.out] at q1 q2 q4; rw [← KM2.out] at q3 q4; omega⟩
    · by_cases hfe : f = e
      · have h5 := h3 hfe
        subst hfe
        subst h5
        clear h3
        gi_wp2
        exact ⟨KeepsOthers.setCell _ _ _, rfl, pre, x, rfl, fun ok => by have q1 := ok.le; have q2 := ok.ne; have q3 := ok.pos; have q4 := ok.lt; rw [← KE.out] at q1 q2; rw [← KF.out] at q1 q2 q4; rw [← KM2.out] at q3 q4; omega⟩
      · clear h3
        have hfe2 : ¬ ((f : Int) = (e : Int)) := by omega
        gi_wp2
        exact ⟨KeepsOthers.setCell _ _ _, rfl, pre, x, rfl, fun ok => by have q1 := ok.le; have q2 := ok.ne; have q3 := ok.pos; have q4 := ok.lt; rw [← KE.out] at q1 q2; rw [← KF.out] at q1 q2 q4; rw [← KM2.out] at q3 q4; omega⟩
    · by_cases hfe : f = e
      · have h5 := h3 hfe
        subst hfe
        subst h5
        clear h3
        have z1 := decide_eq_false (p := (m : Int) < 1) (by omega)
        have z4 := decide_eq_false (p := 64 * (L.length : Int) < (m : Int)) (by omega)
        gi_wp2
        gi_loopw [7] (fun v7 wr => ∃ i : Nat, 0 ≤ i ∧ i ≤ 0 ∧ v7 = .int .i64 (i : Int) ∧ Hid (∀ j, 0 ≤ j → j < i → Mk.mem L j = false) ∧ Hid (Below W.heap.size W wr)) (fun v7 _ => 0 - (intOf v7).toNat)
        case atStart => exact ⟨0, Nat.le_refl _, by omega, by go_num, Lib.hid (fun j a b => by omega), Lib.hid (Below.refl _ _)⟩
        case round =>
          obtain ⟨i, hi1, hi2, rfl, HG, HD⟩ := hrel
          obtain ⟨b1, -⟩ := box_cell (box_below I1.out HD.out)
          clear c1
          by_cases hif : i < 0
          · exact absurd hif (by omega)
          · have h0 : (i : Int) = 0 := by omega
            simp only [h0]
            clear h0
            obtain rfl : i = 0 := by omega
            clear hif hi2
            gi_wp2
            gi_loopw [8] (fun v8 wr => ∃ j : Nat, 0 ≤ j ∧ j ≤ 0 + m ∧ v8 = .int .i64 (j : Int) ∧ Hid (∀ q, 0 ≤ q → q < j → Mk.mem L q = true) ∧ Hid (Below W.heap.size W wr)) (fun v8 _ => 0 + m - (intOf v8).toNat)
            case atStart => exact ⟨0, Nat.le_refl _, by omega, by go_num, Lib.hid (fun j a b => by omega), HD⟩
            case round =>
              obtain ⟨j, hj1, hj2, rfl, HG2, HD3⟩ := hrel
              clear b1
              obtain ⟨b1, -⟩ := box_cell (box_below I1.out HD3.out)
              by_cases hjf : j < 0 + m
              · have hh := hasn KW.out (by omega) (n := j) (by omega)
                have HH := Lib.hid hh
                have hji : (j : Int) < (m : Int) := by omega
                clear hh
                cases hm : Mk.mem L j
                · rw [hm] at HH
                  have KMem := Lib.hid hm
                  clear hm
                  gi_wp2_with (first | (refine ⟨trivial, ?_⟩; gi_at_call 22; ((have hm2 := mask_Has.calls A c L (j : Int) _ wr (Kd.C_below (Kd.C_below KC.out IB.out) HD3.out) Kc.out HH.out); refine (CallsIn.inRound l (callsIn_wide.2 hm2)).mono ?_; clear hm2; rintro e9 w9 ⟨rfl, hd⟩; (have HD2 := Lib.hid (HD3.out.trans (hd.below.mono HD3.out.size))); (obtain ⟨s2, u2⟩ := box_cell (box_below I2.out HD2.out)); clear hd)))
                  exact ⟨(below_keeps HD2.out).trans (KeepsOthers.setCell _ _ _), rfl, pre, x, rfl, fun ok => by
                    have q := ok.run j (by rw [← KF.out]; exact hj1) (by rw [← KF.out, ← KM2.out]; exact hjf)
                    rw [KMem.out] at q
                    cases q⟩
                · rw [hm] at HH
                  have KMem := Lib.hid hm
                  clear hm
                  gi_wp2_with (first | (refine ⟨trivial, ?_⟩; gi_at_call 22; ((have hm2 := mask_Has.calls A c L (j : Int) _ wr (Kd.C_below (Kd.C_below KC.out IB.out) HD3.out) Kc.out HH.out); refine (CallsIn.inRound l (callsIn_wide.2 hm2)).mono ?_; clear hm2; rintro e9 w9 ⟨rfl, hd⟩; (have HD2 := Lib.hid (HD3.out.trans (hd.below.mono HD3.out.size))); (obtain ⟨s2, u2⟩ := box_cell (box_below I2.out HD2.out)); clear hd)))
                  go_roundw
                  case rel => exact ⟨j + 1, by omega, by omega, by go_num, Lib.hid (fun q a b => by
                      by_cases e : q < j
                      · exact HG2.out q a e
                      · rw [show q = j by omega]; exact KMem.out), HD2⟩
                  case measure => simp [intOf]; omega
              · have hji : ¬ (j : Int) < (m : Int) := by omega
                obtain ⟨b3, e3⟩ := box_cell (box_below I3.out HD3.out)
                obtain ⟨b4, e4⟩ := box_cell (box_below I4.out HD3.out)
                clear  c3 d3 c4 d4 c2 d2
                gi_wp2
                have ks := KS.out
                have kb : Below w.heap.size W ((wr.setCell ⟨w2.heap.size, 0, none⟩ (.int .i64 (m : Int))).setCell ⟨w2.heap.size + 1, 0, none⟩ (.int .i64 ((ct : Int) + (m : Int)))) := ((HD3.out.mono IB.out.size).setCell (p := ⟨w2.heap.size, 0, none⟩) (by show w.heap.size ≤ w2.heap.size; omega) _).setCell (p := ⟨w2.heap.size + 1, 0, none⟩) (by show w.heap.size ≤ w2.heap.size + 1; omega) _
                have e1 : ((endOf (pre ++ [x]) : Nat) : Int) = (m : Int) := by rw [endOf_snoc, ← KF.out, ← KM2.out]; omega
                have e2 : ((cntOf (pre ++ [x]) : Nat) : Int) = (ct : Int) + (m : Int) := by rw [cntOf_snoc, ← KT.out, ← KM2.out]; omega
                refine ⟨(below_keeps HD3.out).trans ((KeepsOthers.setCell _ _ _).trans (KeepsOthers.setCell _ _ _)), ⟨kb, (set_far (set_far (box_below I5.out HD3.out) (by omega) _) (by omega) _).trans I5.out.symm⟩, set_far (set_far (box_below I1.out HD3.out) (by omega) _) (by omega) _, set_far (set_far (box_below I2.out HD3.out) (by omega) _) (by omega) _, ?_, ?_, set_far (set_far (box_below I5.out HD3.out) (by omega) _) (by omega) _, IB.out.trans kb⟩
                · rw [e1]
                  exact set_far (set_box (box_below I3.out HD3.out) _) (by omega) _
                · rw [e2]
                  exact set_box (set_far (box_below I4.out HD3.out) (by omega) _) _
      · clear h3
        have hfe2 : ¬ ((f : Int) = (e : Int)) := by omega
        have z1 := decide_eq_false (p := (m : Int) < 1) (by omega)
        have z2 := decide_eq_false (p := (f : Int) < (e : Int)) (by omega)
        have z2n := decide_eq_false (p := f < e) (by omega)
        have z3 : ((f : Int) == (e : Int)) = false := by simp [hfe2]
        have z4 := decide_eq_false (p := 64 * (L.length : Int) < (f : Int) + (m : Int)) (by omega)
        gi_wp2
        gi_loopw [7] (fun v7 wr => ∃ i : Nat, e ≤ i ∧ i ≤ f ∧ v7 = .int .i64 (i : Int) ∧ Hid (∀ j, e ≤ j → j < i → Mk.mem L j = false) ∧ Hid (Below W.heap.size W wr)) (fun v7 _ => f - (intOf v7).toNat)
        case atStart => exact ⟨e, Nat.le_refl _, by omega, by go_num, Lib.hid (fun j a b => by omega), Lib.hid (Below.refl _ _)⟩
        case round =>
          obtain ⟨i, hi1, hi2, rfl, HG, HD⟩ := hrel
          obtain ⟨b1, -⟩ := box_cell (box_below I1.out HD.out)
          clear c1
          by_cases hif : i < f
          · have hh := hasn KW.out (by omega) (n := i) (by omega)
            have HH := Lib.hid hh
            clear hh
            cases hm : Mk.mem L i
            · rw [hm] at HH
              have KMem := Lib.hid hm
              clear hm
              gi_wp2_with (first | (refine ⟨trivial, ?_⟩; gi_at_call 22; ((have hm2 := mask_Has.calls A c L (i : Int) _ wr (Kd.C_below (Kd.C_below KC.out IB.out) HD.out) Kc.out HH.out); refine (CallsIn.inRound l (callsIn_wide.2 hm2)).mono ?_; clear hm2; rintro e9 w9 ⟨rfl, hd⟩; (have HD2 := Lib.hid (HD.out.trans (hd.below.mono HD.out.size))); (obtain ⟨s2, u2⟩ := box_cell (box_below I2.out HD2.out)); clear hd)))
              go_roundw
              case rel => exact ⟨i + 1, by omega, by omega, by go_num, Lib.hid (fun j a b => by
                  by_cases e : j < i
                  · exact HG.out j a e
                  · rw [show j = i by omega]; exact KMem.out), HD2⟩
              case measure => simp [intOf]; omega
            · rw [hm] at HH
              have KMem := Lib.hid hm
              clear hm
              gi_wp2_with (first | (refine ⟨trivial, ?_⟩; gi_at_call 22; ((have hm2 := mask_Has.calls A c L (i : Int) _ wr (Kd.C_below (Kd.C_below KC.out IB.out) HD.out) Kc.out HH.out); refine (CallsIn.inRound l (callsIn_wide.2 hm2)).mono ?_; clear hm2; rintro e9 w9 ⟨rfl, hd⟩; (have HD2 := Lib.hid (HD.out.trans (hd.below.mono HD.out.size))); (obtain ⟨s2, u2⟩ := box_cell (box_below I2.out HD2.out)); clear hd)))
              exact ⟨(below_keeps HD2.out).trans (KeepsOthers.setCell _ _ _), rfl, pre, x, rfl, fun ok => by
                have q := ok.gap i (by rw [← KE.out]; exact hi1) (by rw [← KF.out]; exact hif)
                rw [KMem.out] at q
                cases q⟩
          · obtain rfl : i = f := by omega
            clear hif hi2
            gi_wp2
            gi_loopw [8] (fun v8 wr => ∃ j : Nat, i ≤ j ∧ j ≤ i + m ∧ v8 = .int .i64 (j : Int) ∧ Hid (∀ q, i ≤ q → q < j → Mk.mem L q = true) ∧ Hid (Below W.heap.size W wr)) (fun v8 _ => i + m - (intOf v8).toNat)
            case atStart => exact ⟨i, Nat.le_refl _, by omega, rfl, Lib.hid (fun j a b => by omega), HD⟩
            case round =>
              obtain ⟨j, hj1, hj2, rfl, HG2, HD3⟩ := hrel
              clear b1
              obtain ⟨b1, -⟩ := box_cell (box_below I1.out HD3.out)
              by_cases hjf : j < i + m
              · have hh := hasn KW.out (by omega) (n := j) (by omega)
                have HH := Lib.hid hh
                have hji : (j : Int) < (i : Int) + (m : Int) := by omega
                clear hh
                cases hm : Mk.mem L j
                · rw [hm] at HH
                  have KMem := Lib.hid hm
                  clear hm
                  gi_wp2_with (first | (refine ⟨trivial, ?_⟩; gi_at_call 22; ((have hm2 := mask_Has.calls A c L (j : Int) _ wr (Kd.C_below (Kd.C_below KC.out IB.out) HD3.out) Kc.out HH.out); refine (CallsIn.inRound l (callsIn_wide.2 hm2)).mono ?_; clear hm2; rintro e9 w9 ⟨rfl, hd⟩; (have HD2 := Lib.hid (HD3.out.trans (hd.below.mono HD3.out.size))); (obtain ⟨s2, u2⟩ := box_cell (box_below I2.out HD2.out)); clear hd)))
                  exact ⟨(below_keeps HD2.out).trans (KeepsOthers.setCell _ _ _), rfl, pre, x, rfl, fun ok => by
                    have q := ok.run j (by rw [← KF.out]; exact hj1) (by rw [← KF.out, ← KM2.out]; exact hjf)
                    rw [KMem.out] at q
                    cases q⟩
                · rw [hm] at HH
                  have KMem := Lib.hid hm
                  clear hm
                  gi_wp2_with (first | (refine ⟨trivial, ?_⟩; gi_at_call 22; ((have hm2 := mask_Has.calls A c L (j : Int) _ wr (Kd.C_below (Kd.C_below KC.out IB.out) HD3.out) Kc.out HH.out); refine (CallsIn.inRound l (callsIn_wide.2 hm2)).mono ?_; clear hm2; rintro e9 w9 ⟨rfl, hd⟩; (have HD2 := Lib.hid (HD3.out.trans (hd.below.mono HD3.out.size))); (obtain ⟨s2, u2⟩ := box_cell (box_below I2.out HD2.out)); clear hd)))
                  go_roundw
                  case rel => exact ⟨j + 1, by omega, by omega, by go_num, Lib.hid (fun q a b => by
                      by_cases e : q < j
                      · exact HG2.out q a e
                      · rw [show q = j by omega]; exact KMem.out), HD2⟩
                  case measure => simp [intOf]; omega
              · have hji : ¬ (j : Int) < (i : Int) + (m : Int) := by omega
                obtain ⟨b3, e3⟩ := box_cell (box_below I3.out HD3.out)
                obtain ⟨b4, e4⟩ := box_cell (box_below I4.out HD3.out)
                clear  c3 d3 c4 d4 c2 d2
                gi_wp2
                have ks := KS.out
                have kb : Below w.heap.size W ((wr.setCell ⟨w2.heap.size, 0, none⟩ (.int .i64 ((i : Int) + (m : Int)))).setCell ⟨w2.heap.size + 1, 0, none⟩ (.int .i64 ((ct : Int) + (m : Int)))) := ((HD3.out.mono IB.out.size).setCell (p := ⟨w2.heap.size, 0, none⟩) (by show w.heap.size ≤ w2.heap.size; omega) _).setCell (p := ⟨w2.heap.size + 1, 0, none⟩) (by show w.heap.size ≤ w2.heap.size + 1; omega) _
                have e1 : ((endOf (pre ++ [x]) : Nat) : Int) = ((i : Int) + (m : Int)) := by rw [endOf_snoc, ← KF.out, ← KM2.out]; omega
                have e2 : ((cntOf (pre ++ [x]) : Nat) : Int) = (ct : Int) + (m : Int) := by rw [cntOf_snoc, ← KT.out, ← KM2.out]; omega
                refine ⟨(below_keeps HD3.out).trans ((KeepsOthers.setCell _ _ _).trans (KeepsOthers.setCell _ _ _)), ⟨kb, (set_far (set_far (box_below I5.out HD3.out) (by omega) _) (by omega) _).trans I5.out.symm⟩, set_far (set_far (box_below I1.out HD3.out) (by omega) _) (by omega) _, set_far (set_far (box_below I2.out HD3.out) (by omega) _) (by omega) _, ?_, ?_, set_far (set_far (box_below I5.out HD3.out) (by omega) _) (by omega) _, IB.out.trans kb⟩
                · rw [e1]
                  exact set_far (set_box (box_below I3.out HD3.out) _) (by omega) _
                · rw [e2]
                  exact set_box (set_far (box_below I4.out HD3.out) (by omega) _) _
  case done =>
    rintro D ys W hD hdn ⟨i1, i2, i3, i4, i5, ib⟩ hK
    obtain ⟨kn, hkn⟩ := hdn.next KW.out h8
    obtain ⟨kc, hkc⟩ := count_eo KW.out (by omega)
    have hkc2 := hkc kc (Nat.le_refl _)
    have hsz := hdn.size
    rw [← hsz] at hkc2
    obtain ⟨e, he⟩ : ∃ e, e = endOf ys := ⟨_, rfl⟩
    obtain ⟨ct, hct⟩ : ∃ ct, ct = cntOf ys := ⟨_, rfl⟩
    rw [← he] at i3 hkn
    rw [← hct] at i4 hkc2
    have I1 := Lib.hid i1
    have I2 := Lib.hid i2
    have I3 := Lib.hid i3
    have I4 := Lib.hid i4
    have IB := Lib.hid ib
    have KN := Lib.hid hkn
    have KCt : Hid (mask_Count.f kc L = some (ct : Int)) := Lib.hid hkc2
    have KHK := Lib.hid hK
    have KDD := Lib.hid hD
    have KB2n := Lib.hid (box_lt B2.out)
    obtain ⟨c1, -⟩ := box_cell i1
    obtain ⟨c2, d2⟩ := box_cell i2
    obtain ⟨c3, -⟩ := box_cell i3
    obtain ⟨c4, -⟩ := box_cell i4
    clear i1 i2 i3 i4 i5 ib hkn hkc hkc2 hsz he hct hK hD B1 B2 B3 B4 B5
    have hmx : Tryd.prog.follows .mixedOrders = true := by kernel_rfl
    gi_wp2
    refine only_of ?_
    refine wpIn_region_any hmx ?_
    refine anyIn_cases (L := [0, 1]) (by kernel_rfl) (by simp) (fun i hi => ?_)
    simp only [List.mem_cons, List.not_mem_nil, or_false] at hi
    rcases hi with rfl | rfl
    · refine ⟨_, rfl, by rfl, fun KK hK => ?_⟩
      gi_wp2
      refine hK.out _ _ ?_
      clear hK KK
      try simp only [Act.put, List.setIfInBounds_toArray, List.set_cons_zero, List.set_cons_succ]
      refine anyIn_cases (L := [1]) (by kernel_rfl) (by simp) (fun i hi => ?_)
      simp only [List.mem_cons, List.not_mem_nil, or_false] at hi
      subst hi
      refine ⟨_, rfl, by rfl, fun KK hK => ?_⟩
      gi_wp2
      refine hK.out _ _ ?_
      clear hK KK
      try simp only [Act.put, List.setIfInBounds_toArray, List.set_cons_zero, List.set_cons_succ]
      refine anyIn_cases (L := [2]) (by kernel_rfl) (by simp) (fun i hi => ?_)
      simp only [List.mem_cons, List.not_mem_nil, or_false] at hi
      subst hi
      refine ⟨_, rfl, by rfl, fun KK hK => ?_⟩
      gi_wp2_with (first | (refine ⟨trivial, ?_⟩; gi_at_call 16; ((have hm := mask_Next.calls kn A c L (e : Int) (-1) W.drew (Kd.C_below KC.out IB.out.drew) Kc.out (Aside0.mk (KL.out.below IB.out.drew)) KN.out); refine (callsIn_wide.2 hm).mono ?_; clear hm; rintro e9 w9 ⟨rfl, hb⟩; (have JB := Lib.hid (IB.out.drew.trans (hb.mono IB.out.drew.size))); (obtain ⟨x1, -⟩ := box_cell (box_below (w := W.drew) I1.out hb)); (have J4 := Lib.hid (box_below (w := W.drew) I4.out hb)); (obtain ⟨x4, y4⟩ := box_cell J4.out); (have J2 := Lib.hid (box_below (w := W.drew) I2.out hb)); (obtain ⟨x2, y2⟩ := box_cell J2.out); (have JD := Lib.hid (box_below (w := W.drew) KHK.out hb)); clear hb)))
      refine hK.out _ _ ?_
      clear hK KK
      try simp only [Act.put, List.setIfInBounds_toArray, List.set_cons_zero, List.set_cons_succ]
      refine anyIn_cases (L := [3]) (by kernel_rfl) (by simp) (fun i hi => ?_)
      simp only [List.mem_cons, List.not_mem_nil, or_false] at hi
      subst hi
      refine ⟨_, rfl, by rfl, fun KK hK => ?_⟩
      gi_wp2
      refine hK.out _ _ ?_
      clear hK KK
      try simp only [Act.put, List.setIfInBounds_toArray, List.set_cons_zero, List.set_cons_succ]
      refine anyIn_cases (L := [4]) (by kernel_rfl) (by simp) (fun i hi => ?_)
      simp only [List.mem_cons, List.not_mem_nil, or_false] at hi
      subst hi
      refine ⟨_, rfl, by rfl, fun KK hK => ?_⟩
      gi_wp2
      refine hK.out _ _ ?_
      clear hK KK
      try simp only [Act.put, List.setIfInBounds_toArray, List.set_cons_zero, List.set_cons_succ]
      refine anyIn_cases (L := [5, 6]) (by kernel_rfl) (by simp) (fun i hi => ?_)
      simp only [List.mem_cons, List.not_mem_nil, or_false] at hi
      rcases hi with rfl | rfl
      · refine ⟨_, rfl, by rfl, fun KK hK => ?_⟩
        gi_wp2
        refine hK.out _ _ ?_
        clear hK KK
        try simp only [Act.put, List.setIfInBounds_toArray, List.set_cons_zero, List.set_cons_succ]
        refine anyIn_cases (L := [6]) (by kernel_rfl) (by simp) (fun i hi => ?_)
        simp only [List.mem_cons, List.not_mem_nil, or_false] at hi
        subst hi
        refine ⟨_, rfl, by rfl, fun KK hK => ?_⟩
        gi_wp2
        refine hK.out _ _ ?_
        clear hK KK
        try simp only [Act.put, List.setIfInBounds_toArray, List.set_cons_zero, List.set_cons_succ]
        refine anyIn_cases (L := [7]) (by kernel_rfl) (by simp) (fun i hi => ?_)
        simp only [List.mem_cons, List.not_mem_nil, or_false] at hi
        subst hi
        refine ⟨_, rfl, by rfl, fun KK hK => ?_⟩
        gi_wp2_with (first | (refine ⟨trivial, ?_⟩; gi_at_call 33; ((have hm := mask_Count.calls kc A c L (ct : Int) w9 (Kd.C_below KC.out JB.out) Kc.out KCt.out); refine (callsIn_wide.2 hm).mono ?_; clear hm; rintro e8 w8 ⟨rfl, hd⟩; (have hb := hd.below); clear hd; replace JB := Lib.hid (JB.out.trans (hb.mono JB.out.size)); replace J2 := Lib.hid (box_below J2.out hb); replace J4 := Lib.hid (box_below J4.out hb); replace JD := Lib.hid (box_below JD.out hb); clear x2 y2 x4 y4; (obtain ⟨x2, y2⟩ := box_cell J2.out); (obtain ⟨x4, y4⟩ := box_cell J4.out); clear hb)))
        refine hK.out _ _ ?_
        clear hK KK
        try simp only [Act.put, List.setIfInBounds_toArray, List.set_cons_zero, List.set_cons_succ]
        refine anyIn_cases (L := [8]) (by kernel_rfl) (by simp) (fun i hi => ?_)
        simp only [List.mem_cons, List.not_mem_nil, or_false] at hi
        subst hi
        refine ⟨_, rfl, by rfl, fun KK hK => ?_⟩
        gi_wp2
        refine hK.out _ _ ?_
        clear hK KK
        try simp only [Act.put, List.setIfInBounds_toArray, List.set_cons_zero, List.set_cons_succ]
        refine anyIn_cases (L := [9]) (by kernel_rfl) (by simp) (fun i hi => ?_)
        simp only [List.mem_cons, List.not_mem_nil, or_false] at hi
        subst hi
        refine ⟨_, rfl, by rfl, fun KK hK => ?_⟩
        gi_wp2
        refine hK.out _ _ ?_
        clear hK KK
        try simp only [Act.put, List.setIfInBounds_toArray, List.set_cons_zero, List.set_cons_succ]
        refine anyIn_cases (L := [10]) (by kernel_rfl) (by simp) (fun i hi => ?_)
        simp only [List.mem_cons, List.not_mem_nil, or_false] at hi
        subst hi
        refine ⟨_, rfl, by rfl, fun KK hK => ?_⟩
        gi_wp2
        refine hK.out _ _ ?_
        clear hK KK
        try simp only [Act.put, List.setIfInBounds_toArray, List.set_cons_zero, List.set_cons_succ]
        refine anyIn_done (by kernel_rfl) ?_
        dsimp only [only]
        gi_wp2
        have hne := KB2n.out
        have hkd := KDD.out
        have hDD := set_far JD.out (b := w.heap.size + 1) (by omega) (.bool true)
        refine ⟨by simp, .inl ⟨_, _, rfl, run_takeDeferred hDD, ?_⟩⟩
        have q0 := (box_cell ((World.putObj_heap_other (o := .deferred none) (by omega : w.heap.size + 1 ≠ D)).trans (set_box J2.out (.bool true)))).1
        exact ⟨_, by simp [results, Tryd.results8, go_sem, q0], rfl, (JB.out.setCell (p := ⟨w.heap.size + 1, 0, none⟩) (by show w.heap.size ≤ w.heap.size + 1; omega) _).trans (belowK_b (w := w) (Nat.le_refl _) _ D _ _ (by have := HB1.out.size; omega) hDD rfl rfl)⟩
      · refine ⟨_, rfl, by rfl, fun KK hK => ?_⟩
        gi_wp2
        refine hK.out _ _ ?_
        clear hK KK
        try simp only [Act.put, List.setIfInBounds_toArray, List.set_cons_zero, List.set_cons_succ]
        refine anyIn_cases (L := [5, 7]) (by kernel_rfl) (by simp) (fun i hi => ?_)
        simp only [List.mem_cons, List.not_mem_nil, or_false] at hi
        rcases hi with rfl | rfl
        · refine ⟨_, rfl, by rfl, fun KK hK => ?_⟩
          gi_wp2
          refine hK.out _ _ ?_
          clear hK KK
          try simp only [Act.put, List.setIfInBounds_toArray, List.set_cons_zero, List.set_cons_succ]
          refine anyIn_cases (L := [7]) (by kernel_rfl) (by simp) (fun i hi => ?_)
          simp only [List.mem_cons, List.not_mem_nil, or_false] at hi
          subst hi
          refine ⟨_, rfl, by rfl, fun KK hK => ?_⟩
          gi_wp2_with (first | (refine ⟨trivial, ?_⟩; gi_at_call 33; ((have hm := mask_Count.calls kc A c L (ct : Int) w9 (Kd.C_below KC.out JB.out) Kc.out KCt.out); refine (callsIn_wide.2 hm).mono ?_; clear hm; rintro e8 w8 ⟨rfl, hd⟩; (have hb := hd.below); clear hd; replace JB := Lib.hid (JB.out.trans (hb.mono JB.out.size)); replace J2 := Lib.hid (box_below J2.out hb); replace J4 := Lib.hid (box_below J4.out hb); replace JD := Lib.hid (box_below JD.out hb); clear x2 y2 x4 y4; (obtain ⟨x2, y2⟩ := box_cell J2.out); (obtain ⟨x4, y4⟩ := box_cell J4.out); clear hb)))
          refine hK.out _ _ ?_
          clear hK KK
          try simp only [Act.put, List.setIfInBounds_toArray, List.set_cons_zero, List.set_cons_succ]
          refine anyIn_cases (L := [8]) (by kernel_rfl) (by simp) (fun i hi => ?_)
          simp only [List.mem_cons, List.not_mem_nil, or_false] at hi
          subst hi
          refine ⟨_, rfl, by rfl, fun KK hK => ?_⟩
          gi_wp2
          refine hK.out _ _ ?_
          clear hK KK
          try simp only [Act.put, List.setIfInBounds_toArray, List.set_cons_zero, List.set_cons_succ]
          refine anyIn_cases (L := [9]) (by kernel_rfl) (by simp) (fun i hi => ?_)
          simp only [List.mem_cons, List.not_mem_nil, or_false] at hi
          subst hi
          refine ⟨_, rfl, by rfl, fun KK hK => ?_⟩
          gi_wp2
          refine hK.out _ _ ?_
          clear hK KK
          try simp only [Act.put, List.setIfInBounds_toArray, List.set_cons_zero, List.set_cons_succ]
          refine anyIn_cases (L := [10]) (by kernel_rfl) (by simp) (fun i hi => ?_)
          simp only [List.mem_cons, List.not_mem_nil, or_false] at hi
          subst hi
          refine ⟨_, rfl, by rfl, fun KK hK => ?_⟩
          gi_wp2
          refine hK.out _ _ ?_
          clear hK KK
          try simp only [Act.put, List.setIfInBounds_toArray, List.set_cons_zero, List.set_cons_succ]
          refine anyIn_done (by kernel_rfl) ?_
          dsimp only [only]
          gi_wp2
          have hne := KB2n.out
          have hkd := KDD.out
          have hDD := set_far JD.out (b := w.heap.size + 1) (by omega) (.bool true)
          refine ⟨by simp, .inl ⟨_, _, rfl, run_takeDeferred hDD, ?_⟩⟩
          have q0 := (box_cell ((World.putObj_heap_other (o := .deferred none) (by omega : w.heap.size + 1 ≠ D)).trans (set_box J2.out (.bool true)))).1
          exact ⟨_, by simp [results, Tryd.results8, go_sem, q0], rfl, (JB.out.setCell (p := ⟨w.heap.size + 1, 0, none⟩) (by show w.heap.size ≤ w.heap.size + 1; omega) _).trans (belowK_b (w := w) (Nat.le_refl _) _ D _ _ (by have := HB1.out.size; omega) hDD rfl rfl)⟩
        · refine ⟨_, rfl, by rfl, fun KK hK => ?_⟩
          gi_wp2_with (first | (refine ⟨trivial, ?_⟩; gi_at_call 33; ((have hm := mask_Count.calls kc A c L (ct : Int) w9 (Kd.C_below KC.out JB.out) Kc.out KCt.out); refine (callsIn_wide.2 hm).mono ?_; clear hm; rintro e8 w8 ⟨rfl, hd⟩; (have hb := hd.below); clear hd; replace JB := Lib.hid (JB.out.trans (hb.mono JB.out.size)); replace J2 := Lib.hid (box_below J2.out hb); replace J4 := Lib.hid (box_below J4.out hb); replace JD := Lib.hid (box_below JD.out hb); clear x2 y2 x4 y4; (obtain ⟨x2, y2⟩ := box_cell J2.out); (obtain ⟨x4, y4⟩ := box_cell J4.out); clear hb)))
          refine hK.out _ _ ?_
          clear hK KK
          try simp only [Act.put, List.setIfInBounds_toArray, List.set_cons_zero, List.set_cons_succ]
          refine anyIn_cases (L := [5]) (by kernel_rfl) (by simp) (fun i hi => ?_)
          simp only [List.mem_cons, List.not_mem_nil, or_false] at hi
          subst hi
          refine ⟨_, rfl, by rfl, fun KK hK => ?_⟩
          gi_wp2
          refine hK.out _ _ ?_
          clear hK KK
          try simp only [Act.put, List.setIfInBounds_toArray, List.set_cons_zero, List.set_cons_succ]
          refine anyIn_cases (L := [8]) (by kernel_rfl) (by simp) (fun i hi => ?_)
          simp only [List.mem_cons, List.not_mem_nil, or_false] at hi
          subst hi
          refine ⟨_, rfl, by rfl, fun KK hK => ?_⟩
          gi_wp2
          refine hK.out _ _ ?_
          clear hK KK
          try simp only [Act.put, List.setIfInBounds_toArray, List.set_cons_zero, List.set_cons_succ]
          refine anyIn_cases (L := [9]) (by kernel_rfl) (by simp) (fun i hi => ?_)
          simp only [List.mem_cons, List.not_mem_nil, or_false] at hi
          subst hi
          refine ⟨_, rfl, by rfl, fun KK hK => ?_⟩
          gi_wp2
          refine hK.out _ _ ?_
          clear hK KK
          try simp only [Act.put, List.setIfInBounds_toArray, List.set_cons_zero, List.set_cons_succ]
          refine anyIn_cases (L := [10]) (by kernel_rfl) (by simp) (fun i hi => ?_)
          simp only [List.mem_cons, List.not_mem_nil, or_false] at hi
          subst hi
          refine ⟨_, rfl, by rfl, fun KK hK => ?_⟩
          gi_wp2
          refine hK.out _ _ ?_
          clear hK KK
          try simp only [Act.put, List.setIfInBounds_toArray, List.set_cons_zero, List.set_cons_succ]
          refine anyIn_done (by kernel_rfl) ?_
          dsimp only [only]
          gi_wp2
          have hne := KB2n.out
          have hkd := KDD.out
          have hDD := set_far JD.out (b := w.heap.size + 1) (by omega) (.bool true)
          refine ⟨by simp, .inl ⟨_, _, rfl, run_takeDeferred hDD, ?_⟩⟩
          have q0 := (box_cell ((World.putObj_heap_other (o := .deferred none) (by omega : w.heap.size + 1 ≠ D)).trans (set_box J2.out (.bool true)))).1
          exact ⟨_, by simp [results, Tryd.results8, go_sem, q0], rfl, (JB.out.setCell (p := ⟨w.heap.size + 1, 0, none⟩) (by show w.heap.size ≤ w.heap.size + 1; omega) _).trans (belowK_b (w := w) (Nat.le_refl _) _ D _ _ (by have := HB1.out.size; omega) hDD rfl rfl)⟩
    · refine ⟨_, rfl, by rfl, fun KK hK => ?_⟩
      gi_wp2
      refine hK.out _ _ ?_
      clear hK KK
      try simp only [Act.put, List.setIfInBounds_toArray, List.set_cons_zero, List.set_cons_succ]
      refine anyIn_cases (L := [0]) (by kernel_rfl) (by simp) (fun i hi => ?_)
      simp only [List.mem_cons, List.not_mem_nil, or_false] at hi
      subst hi
      refine ⟨_, rfl, by rfl, fun KK hK => ?_⟩
      gi_wp2
      refine hK.out _ _ ?_
      clear hK KK
      try simp only [Act.put, List.setIfInBounds_toArray, List.set_cons_zero, List.set_cons_succ]
      refine anyIn_cases (L := [2]) (by kernel_rfl) (by simp) (fun i hi => ?_)
      simp only [List.mem_cons, List.not_mem_nil, or_false] at hi
      subst hi
      refine ⟨_, rfl, by rfl, fun KK hK => ?_⟩
      gi_wp2_with (first | (refine ⟨trivial, ?_⟩; gi_at_call 16; ((have hm := mask_Next.calls kn A c L (e : Int) (-1) W.drew (Kd.C_below KC.out IB.out.drew) Kc.out (Aside0.mk (KL.out.below IB.out.drew)) KN.out); refine (callsIn_wide.2 hm).mono ?_; clear hm; rintro e9 w9 ⟨rfl, hb⟩; (have JB := Lib.hid (IB.out.drew.trans (hb.mono IB.out.drew.size))); (obtain ⟨x1, -⟩ := box_cell (box_below (w := W.drew) I1.out hb)); (have J4 := Lib.hid (box_below (w := W.drew) I4.out hb)); (obtain ⟨x4, y4⟩ := box_cell J4.out); (have J2 := Lib.hid (box_below (w := W.drew) I2.out hb)); (obtain ⟨x2, y2⟩ := box_cell J2.out); (have JD := Lib.hid (box_below (w := W.drew) KHK.out hb)); clear hb)))
      refine hK.out _ _ ?_
      clear hK KK
      try simp only [Act.put, List.setIfInBounds_toArray, List.set_cons_zero, List.set_cons_succ]
      refine anyIn_cases (L := [3]) (by kernel_rfl) (by simp) (fun i hi => ?_)
      simp only [List.mem_cons, List.not_mem_nil, or_false] at hi
      subst hi
      refine ⟨_, rfl, by rfl, fun KK hK => ?_⟩
      gi_wp2
      refine hK.out _ _ ?_
      clear hK KK
      try simp only [Act.put, List.setIfInBounds_toArray, List.set_cons_zero, List.set_cons_succ]
      refine anyIn_cases (L := [4]) (by kernel_rfl) (by simp) (fun i hi => ?_)
      simp only [List.mem_cons, List.not_mem_nil, or_false] at hi
      subst hi
      refine ⟨_, rfl, by rfl, fun KK hK => ?_⟩
      gi_wp2
      refine hK.out _ _ ?_
      clear hK KK
      try simp only [Act.put, List.setIfInBounds_toArray, List.set_cons_zero, List.set_cons_succ]
      refine anyIn_cases (L := [5, 6]) (by kernel_rfl) (by simp) (fun i hi => ?_)
      simp only [List.mem_cons, List.not_mem_nil, or_false] at hi
      rcases hi with rfl | rfl
      · refine ⟨_, rfl, by rfl, fun KK hK => ?_⟩
        gi_wp2
        refine hK.out _ _ ?_
        clear hK KK
        try simp only [Act.put, List.setIfInBounds_toArray, List.set_cons_zero, List.set_cons_succ]
        refine anyIn_cases (L := [6]) (by kernel_rfl) (by simp) (fun i hi => ?_)
        simp only [List.mem_cons, List.not_mem_nil, or_false] at hi
        subst hi
        refine ⟨_, rfl, by rfl, fun KK hK => ?_⟩
        gi_wp2
        refine hK.out _ _ ?_
        clear hK KK
        try simp only [Act.put, List.setIfInBounds_toArray, List.set_cons_zero, List.set_cons_succ]
        refine anyIn_cases (L := [7]) (by kernel_rfl) (by simp) (fun i hi => ?_)
        simp only [List.mem_cons, List.not_mem_nil, or_false] at hi
        subst hi
        refine ⟨_, rfl, by rfl, fun KK hK => ?_⟩
        gi_wp2_with (first | (refine ⟨trivial, ?_⟩; gi_at_call 33; ((have hm := mask_Count.calls kc A c L (ct : Int) w9 (Kd.C_below KC.out JB.out) Kc.out KCt.out); refine (callsIn_wide.2 hm).mono ?_; clear hm; rintro e8 w8 ⟨rfl, hd⟩; (have hb := hd.below); clear hd; replace JB := Lib.hid (JB.out.trans (hb.mono JB.out.size)); replace J2 := Lib.hid (box_below J2.out hb); replace J4 := Lib.hid (box_below J4.out hb); replace JD := Lib.hid (box_below JD.out hb); clear x2 y2 x4 y4; (obtain ⟨x2, y2⟩ := box_cell J2.out); (obtain ⟨x4, y4⟩ := box_cell J4.out); clear hb)))
        refine hK.out _ _ ?_
        clear hK KK
        try simp only [Act.put, List.setIfInBounds_toArray, List.set_cons_zero, List.set_cons_succ]
        refine anyIn_cases (L := [8]) (by kernel_rfl) (by simp) (fun i hi => ?_)
        simp only [List.mem_cons, List.not_mem_nil, or_false] at hi
        subst hi
        refine ⟨_, rfl, by rfl, fun KK hK => ?_⟩
        gi_wp2
        refine hK.out _ _ ?_
        clear hK KK
        try simp only [Act.put, List.setIfInBounds_toArray, List.set_cons_zero, List.set_cons_succ]
        refine anyIn_cases (L := [9]) (by kernel_rfl) (by simp) (fun i hi => ?_)
        simp only [List.mem_cons, List.not_mem_nil, or_false] at hi
        subst hi
        refine ⟨_, rfl, by rfl, fun KK hK => ?_⟩
        gi_wp2
        refine hK.out _ _ ?_
        clear hK KK
        try simp only [Act.put, List.setIfInBounds_toArray, List.set_cons_zero, List.set_cons_succ]
        refine anyIn_cases (L := [10]) (by kernel_rfl) (by simp) (fun i hi => ?_)
        simp only [List.mem_cons, List.not_mem_nil, or_false] at hi
        subst hi
        refine ⟨_, rfl, by rfl, fun KK hK => ?_⟩
        gi_wp2
        refine hK.out _ _ ?_
        clear hK KK
        try simp only [Act.put, List.setIfInBounds_toArray, List.set_cons_zero, List.set_cons_succ]
        refine anyIn_done (by kernel_rfl) ?_
        dsimp only [only]
        gi_wp2
        have hne := KB2n.out
        have hkd := KDD.out
        have hDD := set_far JD.out (b := w.heap.size + 1) (by omega) (.bool true)
        refine ⟨by simp, .inl ⟨_, _, rfl, run_takeDeferred hDD, ?_⟩⟩
        have q0 := (box_cell ((World.putObj_heap_other (o := .deferred none) (by omega : w.heap.size + 1 ≠ D)).trans (set_box J2.out (.bool true)))).1
        exact ⟨_, by simp [results, Tryd.results8, go_sem, q0], rfl, (JB.out.setCell (p := ⟨w.heap.size + 1, 0, none⟩) (by show w.heap.size ≤ w.heap.size + 1; omega) _).trans (belowK_b (w := w) (Nat.le_refl _) _ D _ _ (by have := HB1.out.size; omega) hDD rfl rfl)⟩
      · refine ⟨_, rfl, by rfl, fun KK hK => ?_⟩
        gi_wp2
        refine hK.out _ _ ?_
        clear hK KK
        try simp only [Act.put, List.setIfInBounds_toArray, List.set_cons_zero, List.set_cons_succ]
        refine anyIn_cases (L := [5, 7]) (by kernel_rfl) (by simp) (fun i hi => ?_)
        simp only [List.mem_cons, List.not_mem_nil, or_false] at hi
        rcases hi with rfl | rfl
        · refine ⟨_, rfl, by rfl, fun KK hK => ?_⟩
          gi_wp2
          refine hK.out _ _ ?_
          clear hK KK
          try simp only [Act.put, List.setIfInBounds_toArray, List.set_cons_zero, List.set_cons_succ]
          refine anyIn_cases (L := [7]) (by kernel_rfl) (by simp) (fun i hi => ?_)
          simp only [List.mem_cons, List.not_mem_nil, or_false] at hi
          subst hi
          refine ⟨_, rfl, by rfl, fun KK hK => ?_⟩
          gi_wp2_with (first | (refine ⟨trivial, ?_⟩; gi_at_call 33; ((have hm := mask_Count.calls kc A c L (ct : Int) w9 (Kd.C_below KC.out JB.out) Kc.out KCt.out); refine (callsIn_wide.2 hm).mono ?_; clear hm; rintro e8 w8 ⟨rfl, hd⟩; (have hb := hd.below); clear hd; replace JB := Lib.hid (JB.out.trans (hb.mono JB.out.size)); replace J2 := Lib.hid (box_below J2.out hb); replace J4 := Lib.hid (box_below J4.out hb); replace JD := Lib.hid (box_below JD.out hb); clear x2 y2 x4 y4; (obtain ⟨x2, y2⟩ := box_cell J2.out); (obtain ⟨x4, y4⟩ := box_cell J4.out); clear hb)))
          refine hK.out _ _ ?_
          clear hK KK
          try simp only [Act.put, List.setIfInBounds_toArray, List.set_cons_zero, List.set_cons_succ]
          refine anyIn_cases (L := [8]) (by kernel_rfl) (by simp) (fun i hi => ?_)
          simp only [List.mem_cons, List.not_mem_nil, or_false] at hi
          subst hi
          refine ⟨_, rfl, by rfl, fun KK hK => ?_⟩
          gi_wp2
          refine hK.out _ _ ?_
          clear hK KK
          try simp only [Act.put, List.setIfInBounds_toArray, List.set_cons_zero, List.set_cons_succ]
          refine anyIn_cases (L := [9]) (by kernel_rfl) (by simp) (fun i hi => ?_)
          simp only [List.mem_cons, List.not_mem_nil, or_false] at hi
          subst hi
          refine ⟨_, rfl, by rfl, fun KK hK => ?_⟩
          gi_wp2
          refine hK.out _ _ ?_
          clear hK KK
          try simp only [Act.put, List.setIfInBounds_toArray, List.set_cons_zero, List.set_cons_succ]
          refine anyIn_cases (L := [10]) (by kernel_rfl) (by simp) (fun i hi => ?_)
          simp only [List.mem_cons, List.not_mem_nil, or_false] at hi
          subst hi
          refine ⟨_, rfl, by rfl, fun KK hK => ?_⟩
          gi_wp2
          refine hK.out _ _ ?_
          clear hK KK
          try simp only [Act.put, List.setIfInBounds_toArray, List.set_cons_zero, List.set_cons_succ]
          refine anyIn_done (by kernel_rfl) ?_
          dsimp only [only]
          gi_wp2
          have hne := KB2n.out
          have hkd := KDD.out
          have hDD := set_far JD.out (b := w.heap.size + 1) (by omega) (.bool true)
          refine ⟨by simp, .inl ⟨_, _, rfl, run_takeDeferred hDD, ?_⟩⟩
          have q0 := (box_cell ((World.putObj_heap_other (o := .deferred none) (by omega : w.heap.size + 1 ≠ D)).trans (set_box J2.out (.bool true)))).1
          exact ⟨_, by simp [results, Tryd.results8, go_sem, q0], rfl, (JB.out.setCell (p := ⟨w.heap.size + 1, 0, none⟩) (by show w.heap.size ≤ w.heap.size + 1; omega) _).trans (belowK_b (w := w) (Nat.le_refl _) _ D _ _ (by have := HB1.out.size; omega) hDD rfl rfl)⟩
        · refine ⟨_, rfl, by rfl, fun KK hK => ?_⟩
          gi_wp2_with (first | (refine ⟨trivial, ?_⟩; gi_at_call 33; ((have hm := mask_Count.calls kc A c L (ct : Int) w9 (Kd.C_below KC.out JB.out) Kc.out KCt.out); refine (callsIn_wide.2 hm).mono ?_; clear hm; rintro e8 w8 ⟨rfl, hd⟩; (have hb := hd.below); clear hd; replace JB := Lib.hid (JB.out.trans (hb.mono JB.out.size)); replace J2 := Lib.hid (box_below J2.out hb); replace J4 := Lib.hid (box_below J4.out hb); replace JD := Lib.hid (box_below JD.out hb); clear x2 y2 x4 y4; (obtain ⟨x2, y2⟩ := box_cell J2.out); (obtain ⟨x4, y4⟩ := box_cell J4.out); clear hb)))
          refine hK.out _ _ ?_
          clear hK KK
          try simp only [Act.put, List.setIfInBounds_toArray, List.set_cons_zero, List.set_cons_succ]
          refine anyIn_cases (L := [5]) (by kernel_rfl) (by simp) (fun i hi => ?_)
          simp only [List.mem_cons, List.not_mem_nil, or_false] at hi
          subst hi
          refine ⟨_, rfl, by rfl, fun KK hK => ?_⟩
          gi_wp2
          refine hK.out _ _ ?_
          clear hK KK
          try simp only [Act.put, List.setIfInBounds_toArray, List.set_cons_zero, List.set_cons_succ]
          refine anyIn_cases (L := [8]) (by kernel_rfl) (by simp) (fun i hi => ?_)
          simp only [List.mem_cons, List.not_mem_nil, or_false] at hi
          subst hi
          refine ⟨_, rfl, by rfl, fun KK hK => ?_⟩
          gi_wp2
          refine hK.out _ _ ?_
          clear hK KK
          try simp only [Act.put, List.setIfInBounds_toArray, List.set_cons_zero, List.set_cons_succ]
          refine anyIn_cases (L := [9]) (by kernel_rfl) (by simp) (fun i hi => ?_)
          simp only [List.mem_cons, List.not_mem_nil, or_false] at hi
          subst hi
          refine ⟨_, rfl, by rfl, fun KK hK => ?_⟩
          gi_wp2
          refine hK.out _ _ ?_
          clear hK KK
          try simp only [Act.put, List.setIfInBounds_toArray, List.set_cons_zero, List.set_cons_succ]
          refine anyIn_cases (L := [10]) (by kernel_rfl) (by simp) (fun i hi => ?_)
          simp only [List.mem_cons, List.not_mem_nil, or_false] at hi
          subst hi
          refine ⟨_, rfl, by rfl, fun KK hK => ?_⟩
          gi_wp2
          refine hK.out _ _ ?_
          clear hK KK
          try simp only [Act.put, List.setIfInBounds_toArray, List.set_cons_zero, List.set_cons_succ]
          refine anyIn_done (by kernel_rfl) ?_
          dsimp only [only]
          gi_wp2
          have hne := KB2n.out
          have hkd := KDD.out
          have hDD := set_far JD.out (b := w.heap.size + 1) (by omega) (.bool true)
          refine ⟨by simp, .inl ⟨_, _, rfl, run_takeDeferred hDD, ?_⟩⟩
          have q0 := (box_cell ((World.putObj_heap_other (o := .deferred none) (by omega : w.heap.size + 1 ≠ D)).trans (set_box J2.out (.bool true)))).1
          exact ⟨_, by simp [results, Tryd.results8, go_sem, q0], rfl, (JB.out.setCell (p := ⟨w.heap.size + 1, 0, none⟩) (by show w.heap.size ≤ w.heap.size + 1; omega) _).trans (belowK_b (w := w) (Nat.le_refl _) _ D _ _ (by have := HB1.out.size; omega) hDD rfl rfl)⟩
  case stop =>
    rintro D c pre W _ hg ⟨rfl, pre', x, rfl, hbad⟩ _
    exact absurd hg.last hbad

set_option maxRecDepth 100000 in
set_option maxHeartbeats 1000000 in
theorem covers_long (A : Option Addr) (c : Nat) (L : List Int) (h8 : 8 < L.length) (hm : L.length ≤ 9223372036854775807) (w : World) (hL : LAID w) :
    CallsIn Fence.wide 5 Tryd.prog 8 #[.slice A L.length c] w fun e w' => e = .returned (.bool true) ∧ Below w.heap.size w w' := by
  have KL := Lib.hid hL
  clear hL
  obtain ⟨km, hkm⟩ := masked_eo
  have KM := Lib.hid (hkm km (Nat.le_refl _))
  clear hkm
  have hgt : (8 : Int) < (L.length : Int) := by omega
  have z1 := decide_eq_true hgt
  have HB0 := Lib.hid (((Below.refl w.heap.size w).alloc (Nat.le_refl _) (.cells #[.slice A L.length c] 24)).alloc (by simp) (.cells #[.bool false] 4))
  have B1 := Lib.hid (al_old (World.alloc_heap_new w (.cells #[.slice A L.length c] 24)) (.cells #[.bool false] 4))
  have B2 := Lib.hid (al_new (w.alloc (.cells #[.slice A L.length c] 24)) (.cells #[.bool false] 4) (n := w.heap.size + 1) (by simp))
  refine callsIn_of_wp_marks Tryd.func8 rfl trivial ?_ rfl
  simp only [Tryd.ntmps8, List.size_toArray, List.length_cons, List.length_nil, Nat.reduceAdd, Nat.reduceSub, Array.replicate_succ, Array.replicate_zero, List.push_toArray, List.append_toArray, List.nil_append, List.cons_append]
  gi_wp2_with (first
    | (refine ⟨trivial, ?_⟩; gi_at_call 12; ((have hm := windrowlaw04_masked.calls km true _ (Aside0.mk (KL.out.below HB0.out)) KM.out); refine (callsIn_wide.2 hm).mono ?_; clear hm; rintro e w2 ⟨rfl, hb⟩; replace B1 := Lib.hid (box_below B1.out hb); replace B2 := Lib.hid (box_below B2.out hb); replace HB0 := Lib.hid (HB0.out.trans (hb.mono HB0.out.size)); clear hb; (try clear c1); (obtain ⟨c1, -⟩ := box_cell B1.out); (try clear c2 d2); (obtain ⟨c2, d2⟩ := box_cell B2.out))))
  have q0 := (box_cell (set_box B2.out (.bool true))).1
  exact ⟨_, by simp [results, Tryd.results8, go_sem, q0], rfl, HB0.out.setCell (p := ⟨w.heap.size + 1, 0, none⟩) (by show w.heap.size ≤ w.heap.size + 1; omega) _⟩
theorem covers_law (A : Option Addr) (c : Nat) (L : List Int) (w : World) (hL : LAID w) (hr : Kd.C (Kd.int .u64) w A L.length L) (hcap : L.length ≤ c) (hx : ∀ n ∈ L, (Lit.int .u64 n).wf = true) :
    Calls Tryd.prog 8 #[.slice A L.length c] w fun e w' => e = .returned (.bool true) ∧ Below w.heap.size w w' := by
  by_cases h8 : L.length ≤ 8
  · exact callsIn_wide.1 (covers_in A c L (wfAll hx) h8 hcap w hL hr)
  · exact callsIn_wide.1 (covers_long A c L (by omega) hr.2.1 w hL)
end Go.Proofs.YticoepbjpeepcaaDoor.Cov
