/- Memory that is written over: the list that was handed in, a class that was told. -/
import Derived.Test.YteankgbcmfkfnaaSl
namespace Go.Proofs.Yteankgbcmfkfnaa.Cl
open Go Go.RowKit Go.Proofs.Yteankgbcmfkfnaa.Hp Go.Proofs.Yteankgbcmfkfnaa.PH
open Go.Proofs.YteankgbcmfkfnaaW.PrintWords (bt Kd Drawn0)
open Go.Proofs.YteankgbcmfkfnaaW.PrintWords.Kd (C_below R_reads R_lower R_mono R_move R_bound)
set_option linter.unusedVariables false
set_option linter.unusedSimpArgs false

def Fl (B T : Nat) (w : World) (A : Option Addr) (m : Nat) : Prop := 0 < m → ∃ b ds, A = some ⟨b, 0, none⟩ ∧ B ≤ b ∧ b < T ∧ w.heap[b]? = some (.cells ds 41 (0, 0)) ∧ 2 * m ≤ ds.size
structure InS (B T : Nat) (w : World) (g : Nat) (l : List S34) (i : Nat) : Prop where
  bg : B ≤ g
  gt : g < T
  ex : ∃ cs, w.heap[g]? = some (.cells cs 34 (0, 0)) ∧ ∀ j, i ≤ j → j < l.length → ∃ s A c, cs[2 * j]? = some (.string s) ∧ cs[2 * j + 1]? = some (.slice A (rd_T34 l j).f1.length c) ∧ Fl B T w A (rd_T34 l j).f1.length
theorem two_at {a b : Value} {cs : List Value} {j n : Nat} (h : ((cs.take (n * 2)).drop (j * 2)).take 2 = [a, b]) : cs[2 * j]? = some a ∧ cs[2 * j + 1]? = some b := by
  have h0 := congrArg (fun l => l[0]?) h
  have h1 := congrArg (fun l => l[1]?) h
  simp only [List.getElem?_take, List.getElem?_drop] at h0 h1
  simp at h0 h1
  rw [Nat.mul_comm 2 j]
  exact ⟨h0.2, h1.2⟩
theorem own41 {B : Nat} {w : World} {ok : Nat → Prop} {v : Value} {f1 : List S41} (h : k41.R 41 w B ok v f1) : ∃ A c, v = .slice A f1.length c ∧ Fl B w.heap.size w A f1.length := by
  obtain ⟨h0, inner, hown, hr⟩ := h
  rcases hown.2 with ⟨rfl, h2⟩ | ⟨g, cap, cur, rfl, h3, h4, h5, h6, h7, h8⟩
  · exact ⟨none, 0, by rw [h2], fun h => by omega⟩
  · refine ⟨_, _, rfl, fun _ => ⟨g, cur, rfl, h3, blk_lt h4, h4, ?_⟩⟩
    rw [h7]
    show 2 * f1.length ≤ cap * 2
    omega
theorem rd34_get (l : List S34) (j : Nat) (h : j < l.length) : l[j]? = some (rd_T34 l (j : Nat)) := by
  unfold rd_T34
  rw [Int.toNat_natCast, List.getD_eq_getElem?_getD, List.getElem?_eq_getElem h]
  rfl
theorem rd41_get (l : List S41) (j : Nat) (h : j < l.length) : l[j]? = some (rd_T41 l (j : Nat)) := by
  unfold rd_T41
  rw [Int.toNat_natCast, List.getD_eq_getElem?_getD, List.getElem?_eq_getElem h]
  rfl
theorem ins_of {B : Nat} {w : World} {v : Value} {l : List S34} (h : k34.R 34 w B (fun _ => True) v l) (hl : 0 < l.length) : ∃ g cap, v = .slice (some ⟨g, 0, none⟩) l.length cap ∧ InS B w.heap.size w g l 0 := by
  obtain ⟨h0, inner, hown, hr⟩ := h
  rcases hown.2 with ⟨rfl, h2⟩ | ⟨g, cap, cur, rfl, h3, h4, h5, h6, h7, h8⟩
  · omega
  · refine ⟨g, cap, rfl, h3, blk_lt h4, cur, h4, fun j _ hj => ?_⟩
    have hM := hr.2 j _ (rd34_get l j hj)
    obtain ⟨v1, e1, hR⟩ := k34_openM hM
    rw [← h8] at e1
    obtain ⟨e2, e3⟩ := two_at e1
    obtain ⟨A, c, rfl, hF⟩ := own41 hR
    exact ⟨_, A, c, by rw [← Array.getElem?_toList]; exact e2, by rw [← Array.getElem?_toList]; exact e3, hF⟩
theorem Fl.set {B T : Nat} {w : World} {A : Option Addr} {m : Nat} (h : Fl B T w A m) (p : Addr) (u : Value) : Fl B T (w.setCell ⟨p.block, p.off, none⟩ u) A m := fun hm => by
  obtain ⟨b, ds, e, h1, h2, h3, h4⟩ := h hm
  by_cases hb : b = p.block
  · subst hb
    exact ⟨_, _, e, h1, h2, blk_set h3 _ _, by simpa using h4⟩
  · exact ⟨b, ds, e, h1, h2, blk_far h3 _ (by exact hb) u, h4⟩
theorem InS.field {B T : Nat} {w : World} {g : Nat} {l : List S34} {i b x : Nat} {ds : Array Value} (h : InS B T w g l i) (hb : w.heap[b]? = some (.cells ds 41 (0, 0))) (u : Value) : InS B T (w.setCell ⟨b, x, none⟩ u) g l i := by
  obtain ⟨cs, h1, h2⟩ := h.ex
  refine ⟨h.bg, h.gt, cs, blk_far h1 _ (blk_ne h1 hb (by decide)) u, fun j h3 h4 => ?_⟩
  obtain ⟨s, A, c, e1, e2, hF⟩ := h2 j h3 h4
  exact ⟨s, A, c, e1, e2, hF.set ⟨b, x, none⟩ u⟩
theorem InS.next {B T : Nat} {w : World} {g : Nat} {l : List S34} {i : Nat} (h : InS B T w g l i) : InS B T w g l (i + 1) := by
  obtain ⟨cs, h1, h2⟩ := h.ex
  exact ⟨h.bg, h.gt, cs, h1, fun j h3 h4 => h2 j (by omega) h4⟩
theorem InS.class {B T : Nat} {w : World} {g : Nat} {l : List S34} {i x : Nat} (h : InS B T w g l (i + 1)) (hx : x < 2 * i + 2) (u : Value) : InS B T (w.setCell ⟨g, x, none⟩ u) g l (i + 1) := by
  obtain ⟨cs, h1, h2⟩ := h.ex
  refine ⟨h.bg, h.gt, _, blk_set h1 x u, fun j h3 h4 => ?_⟩
  obtain ⟨s, A, c, e1, e2, hF⟩ := h2 j h3 h4
  refine ⟨s, A, c, ?_, ?_, hF.set ⟨g, x, none⟩ u⟩
  · rw [Array.getElem?_setIfInBounds_ne (by omega)]; exact e1
  · rw [Array.getElem?_setIfInBounds_ne (by omega)]; exact e2
theorem InS.below {B T : Nat} {w w' : World} {g : Nat} {l : List S34} {i : Nat} (h : InS B T w g l i) (hb : Below w.heap.size w w') : InS B T w' g l i := by
  obtain ⟨cs, h1, h2⟩ := h.ex
  refine ⟨h.bg, h.gt, cs, (hb.block _ (blk_lt h1)).trans h1, fun j h3 h4 => ?_⟩
  obtain ⟨s, A, c, e1, e2, hF⟩ := h2 j h3 h4
  refine ⟨s, A, c, e1, e2, fun hm => ?_⟩
  obtain ⟨b, ds, e, h5, h6, h7, h8⟩ := hF hm
  exact ⟨b, ds, e, h5, h6, (hb.block _ (blk_lt h7)).trans h7, h8⟩
theorem TB.under {B : Nat} {w w' : World} {t : Nat} {L : List S34} {M : List Int} {vl vm : Value} (h : TB B w t L M vl vm) (hk : ∀ k, B ≤ k → k < w.heap.size → w'.heap[k]? = w.heap[k]?) : TB B w' t L M vl vm := by
  refine ⟨(hk t h.bt (blk_lt h.blk)).trans h.blk, R_mono (R_move (R_bound h.ll) (fun k hk' => hk k hk'.2.1 hk'.2.2.1)) (fun _ _ => trivial), ⟨h.mm.1, ?_⟩, h.bt⟩
  rcases h.mm.2 with h2 | ⟨g, cap, cur, rfl, h3, h4, h5⟩
  · exact .inl h2
  · exact .inr ⟨g, cap, cur, rfl, h3, (hk g h3 (blk_lt h4)).trans h4, h5⟩
theorem TB.set {B : Nat} {w : World} {t : Nat} {L : List S34} {M : List Int} {vl vm : Value} (h : TB B w t L M vl vm) {b x : Nat} (hb : b < B) (u : Value) : TB B (w.setCell ⟨b, x, none⟩ u) t L M vl vm :=
  h.under fun k h1 _ => Below.heap_setCell w _ u k (by show k ≠ b; omega)
theorem below_set {B : Nat} {w0 w : World} (h : Below B w0 w) (hs : B ≤ w.heap.size) {b x : Nat} (hb : B ≤ b) (u : Value) : Below B w0 (w.setCell ⟨b, x, none⟩ u) := by
  have hF : Fr (fun k => k = b) w (w.setCell ⟨b, x, none⟩ u) := (Fr.refl _ w).setCell _ _ (.inl rfl)
  exact Fr.toBelow h hs hF (fun k hk => by rw [hk]; exact hb)
def Fx (B : Nat) (w : World) (A : Option Addr) (f1 : List S41) (k : Nat) : Prop := k < f1.length → ∃ b ds, A = some ⟨b, 0, none⟩ ∧ B ≤ b ∧ w.heap[b]? = some (.cells ds 41 (0, 0)) ∧ ∀ j, k ≤ j → j < f1.length → ds[2 * j]? = some (.string (rd_T41 f1 j).f0) ∧ ds[2 * j + 1]? = some (.int .i64 (rd_T41 f1 j).f1)
theorem fx_of {B : Nat} {w : World} {ok : Nat → Prop} {v : Value} {f1 : List S41} (h : k41.R 41 w B ok v f1) : ∃ A c, v = .slice A f1.length c ∧ Fx B w A f1 0 := by
  obtain ⟨h0, inner, hown, hr⟩ := h
  rcases hown.2 with ⟨rfl, h2⟩ | ⟨g, cap, cur, rfl, h3, h4, h5, h6, h7, h8⟩
  · exact ⟨none, 0, by rw [h2], fun h => by omega⟩
  · refine ⟨_, _, rfl, fun _ => ⟨g, cur, rfl, h3, h4, fun j _ hj => ?_⟩⟩
    have hM := hr.2 j _ (rd41_get f1 j hj)
    have e1 := k41_openM hM
    rw [← h8] at e1
    obtain ⟨e2, e3⟩ := two_at e1
    exact ⟨by rw [← Array.getElem?_toList]; exact e2, by rw [← Array.getElem?_toList]; exact e3⟩
theorem Fx.next {B : Nat} {w w' : World} {A : Option Addr} {f1 : List S41} {k b : Nat} {ds : Array Value} {u v : Value} (h : Fx B w A f1 k) (hA : A = some ⟨b, 0, none⟩) (hb : w.heap[b]? = some (.cells ds 41 (0, 0))) (hw : w'.heap[b]? = some (.cells ((ds.setIfInBounds (2 * k) u).setIfInBounds (2 * k + 1) v) 41 (0, 0))) : Fx B w' A f1 (k + 1) := fun hk => by
  obtain ⟨b2, ds2, e, h1, h2, h3⟩ := h (by omega)
  rw [hA] at e
  injection e with e
  injection e with e
  subst e
  rw [hb] at h2
  injection h2 with h2
  injection h2 with h2
  subst h2
  refine ⟨b, _, hA, h1, hw, fun j h4 h5 => ?_⟩
  obtain ⟨e1, e2⟩ := h3 j (by omega) h5
  constructor
  · rw [Array.getElem?_setIfInBounds_ne (by omega), Array.getElem?_setIfInBounds_ne (by omega)]; exact e1
  · rw [Array.getElem?_setIfInBounds_ne (by omega), Array.getElem?_setIfInBounds_ne (by omega)]; exact e2
theorem Fx.below {B : Nat} {w w' : World} {A : Option Addr} {f1 : List S41} {k : Nat} (h : Fx B w A f1 k) (hb : Below w.heap.size w w') : Fx B w' A f1 k := fun hk => by
  obtain ⟨b, ds, e, h1, h2, h3⟩ := h hk
  exact ⟨b, ds, e, h1, (hb.block _ (blk_lt h2)).trans h2, h3⟩
section
variable {P : Program} {ops : Array Oper} {Q : Exit → Act → World → Prop} {md : Region.Mode} {S : World → Prop} {z : Nat}
/-- Number i is the only one: its own step, as the words tell it. -/
theorem Rg.Upto.oneW {i : Nat} {oi : Oper} {n : Nat} {listed : Array Bool} {a : Act} {w : World} (hi : Rg.nth ops.toList i = some oi) (hr : Region.ready md ops listed = [i])
    (h : ∀ K : Act → World → Prop, Hid (∀ a' w', S w' → Rg.Upto P md ops Q S z n (listed.setIfInBounds i true) a' w' → K a' w') → if Region.wanted oi (yielded ops a.tmps) = true then oi.wp P a w K Q else K (a.put oi.dst undef) w) : Rg.Upto P md ops Q S z (n + 1) listed a w := by
  refine ⟨fun h0 => (by rw [hr] at h0; cases h0), fun j hj => ?_⟩
  rw [hr] at hj
  obtain rfl := List.mem_singleton.1 hj
  refine wpOp_step (Rg.nth_ops hi) fun K hK => ?_
  exact h K (Lib.hid fun a' w' hs hu => hK a' w' ⟨fun _ => hs, hu⟩)
end
end Go.Proofs.Yteankgbcmfkfnaa.Cl
