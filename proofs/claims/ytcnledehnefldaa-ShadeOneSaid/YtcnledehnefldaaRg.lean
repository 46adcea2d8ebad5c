/- A region that draws its order, whose last store turns what the region has read: S holds until that store. -/
import Derived.Test.YtcnledehnefldaaHp
import Derived.OrdersHeld
import Derived.StillTail
import Derived.RegionTactic
import Derived.Deep.AppendLies
namespace Go.Proofs.Ytcnledehnefldaa.Rg
open Go Go.RowKit
set_option linter.unusedVariables false
set_option linter.unusedSimpArgs false

/-- The list's entry, as it is written. -/
def nth : List Oper → Nat → Option Oper
  | [], _ => none
  | x :: _, 0 => some x
  | _ :: l, n + 1 => nth l n
theorem nth_eq : ∀ (l : List Oper) (n : Nat), nth l n = l[n]?
  | [], _ => by simp [nth]
  | x :: l, 0 => by simp [nth]
  | x :: l, n + 1 => by simp [nth, nth_eq l n]
theorem nth_ops {ops : Array Oper} {n : Nat} {o : Oper} (h : nth ops.toList n = some o) : ops[n]? = some o := by
  rw [nth_eq, Array.getElem?_toList] at h
  exact h

section
variable {P : Program} {ops : Array Oper} {Q : Exit → Act → World → Prop} {md : Region.Mode} {S : World → Prop} {z : Nat}

/-- Whatever comes up next: S holds behind it, unless it is number z. -/
def Upto (P : Program) (md : Region.Mode) (ops : Array Oper) (Q : Exit → Act → World → Prop) (S : World → Prop) (z : Nat) : Nat → Array Bool → Act → World → Prop
  | 0, listed, a, w => Region.ready md ops listed = [] ∧ Q .normal a w
  | n + 1, listed, a, w =>
    (Region.ready md ops listed = [] → Q .normal a w) ∧
    ∀ j ∈ Region.ready md ops listed, wpOp P ops Q j (fun a' w' => (j ≠ z → S w') ∧ Upto P md ops Q S z n (listed.setIfInBounds j true) a' w') a w

theorem Upto.any : ∀ (n : Nat) (listed : Array Bool) (a : Act) (w : World), Upto P md ops Q S z n listed a w → wpAny P md ops Q n listed a w
  | 0, _, _, _, h => h
  | n + 1, _, _, _, h => ⟨h.1, fun j hj => wpOp_mono (fun a' w' h' => Upto.any n _ a' w' h'.2) (h.2 j hj)⟩

theorem Upto.first {i : Nat} {oi : Oper} {v : Value} (hi : ops[i]? = some oi) (hsel : ∀ (j : Nat) (o : Oper) cs b, ops[j]? = some o → o.op ≠ .select cs b)
    (hz : Region.waitsFor md ops z i = true) (hQ : ∀ c a w, Q (.panic c) (a.put oi.dst v) w → Q (.panic c) a w) :
    ∀ (n : Nat) (listed : Array Bool) (a : Act) (w : World),
      (∀ j oj, ops[j]? = some oj → j ≠ i → listed.getD j true = false → (∀ e ∈ oj.after, Region.binds md e = true → e.on ≠ i) → oi.apart ops oj = true) →
      i ∈ Region.ready md ops listed → YieldsIf P ops S oi v a → S w →
      Upto P md ops Q S z n (listed.setIfInBounds i true) (a.put oi.dst v) w → Upto P md ops Q S z (n + 1) listed a w
  | 0, listed, a, w, _, hr, hy, hS, H => by
    refine ⟨fun h => (by rw [h] at hr; cases hr), fun j hj => ?_⟩
    rcases Decidable.em (j = i) with hji | hji
    · subst hji; exact hy.wpOp hi hS ⟨fun _ => hS, H⟩
    · exact absurd (ready_mono hj hji) (by rw [H.1]; simp)
  | n + 1, listed, a, w, hfree, hr, hy, hS, H => by
    refine ⟨fun h => (by rw [h] at hr; cases hr), fun j hj => ?_⟩
    rcases Decidable.em (j = i) with hji | hji
    · subst hji; exact hy.wpOp hi hS ⟨fun _ => hS, H⟩
    obtain ⟨hjun, oj, hoj, hall⟩ := mem_ready.1 hj
    have hno : ∀ e ∈ oj.after, Region.binds md e = true → e.on ≠ i := fun e he hb heq => by
      have h1 := hall e he hb
      rw [heq, getD_both (mem_ready.1 hr).1] at h1
      cases h1
    have hjz : j ≠ z := by
      rintro rfl
      obtain ⟨o2, ho2, e, he, hb, hon⟩ := Region.waitsFor_spec hz
      obtain rfl := Option.some.inj (hoj.symm.trans ho2)
      exact hno e he hb hon
    refine wpOp_mono (fun a' w' h3 => ⟨fun _ => h3.2.1 hjz, ?_⟩) (wpOp_putIf hoj (hfree j oj hoj hji hjun hno) (fun cs b => hsel i oi cs b hi) (fun cs b => hsel j oj cs b hoj) hQ hy (H.2 j (ready_mono hj hji)))
    refine Upto.first hi hsel hz hQ n (listed.setIfInBounds j true) a' w' (fun k ok hk hki hun hnk => hfree k ok hk hki ?_ hnk) (ready_mono hr (Ne.symm hji)) h3.1 (h3.2.1 hjz) (by rw [Array.setIfInBounds_comm _ _ hji]; exact h3.2.2)
    rcases Decidable.em (j = k) with hjk | hjk
    · subst hjk; exact hjun
    · rwa [getD_set_ne true hjk] at hun

/-- Number i yields v wherever S holds: it may be taken ahead. -/
theorem Upto.take {i : Nat} {oi : Oper} {v : Value} {n : Nat} {listed : Array Bool} {a : Act} {w : World} (hi : nth ops.toList i = some oi)
    (hs : Region.noSelect ops = true) (hf : Region.free md ops listed i = true) (hr : (Region.ready md ops listed).contains i = true) (hz : Region.waitsFor md ops z i = true)
    (hQ : ∀ c a w, Q (.panic c) (a.put oi.dst v) w → Q (.panic c) a w) (hw : Region.wanted oi (yielded ops a.tmps) = true) (hy : ∀ w, S w → (execOp a.eval oi).run P w = .ok (.value v) w) (hS : S w)
    (h : Upto P md ops Q S z n (listed.setIfInBounds i true) (a.put oi.dst v) w) : Upto P md ops Q S z (n + 1) listed a w :=
  Upto.first (nth_ops hi) (Region.noSelect_spec hs) hz hQ n listed a w (Region.free_spec (nth_ops hi) hf) (by simpa using hr) (.inl ⟨hw, hy⟩) hS h

/-- S throughout: there is no number z. -/
theorem Upto.firstA {i : Nat} {oi : Oper} {v : Value} (hi : ops[i]? = some oi) (hsel : ∀ (j : Nat) (o : Oper) cs b, ops[j]? = some o → o.op ≠ .select cs b)
    (hz : ops.size ≤ z) (hQ : ∀ c a w, Q (.panic c) (a.put oi.dst v) w → Q (.panic c) a w) :
    ∀ (n : Nat) (listed : Array Bool) (a : Act) (w : World),
      (∀ j oj, ops[j]? = some oj → j ≠ i → listed.getD j true = false → (∀ e ∈ oj.after, Region.binds md e = true → e.on ≠ i) → oi.apart ops oj = true) →
      i ∈ Region.ready md ops listed → YieldsIf P ops S oi v a → S w →
      Upto P md ops Q S z n (listed.setIfInBounds i true) (a.put oi.dst v) w → Upto P md ops Q S z (n + 1) listed a w
  | 0, listed, a, w, _, hr, hy, hS, H => by
    refine ⟨fun h => (by rw [h] at hr; cases hr), fun j hj => ?_⟩
    rcases Decidable.em (j = i) with hji | hji
    · subst hji; exact hy.wpOp hi hS ⟨fun _ => hS, H⟩
    · exact absurd (ready_mono hj hji) (by rw [H.1]; simp)
  | n + 1, listed, a, w, hfree, hr, hy, hS, H => by
    refine ⟨fun h => (by rw [h] at hr; cases hr), fun j hj => ?_⟩
    rcases Decidable.em (j = i) with hji | hji
    · subst hji; exact hy.wpOp hi hS ⟨fun _ => hS, H⟩
    obtain ⟨hjun, oj, hoj, hall⟩ := mem_ready.1 hj
    have hno : ∀ e ∈ oj.after, Region.binds md e = true → e.on ≠ i := fun e he hb heq => by
      have h1 := hall e he hb
      rw [heq, getD_both (mem_ready.1 hr).1] at h1
      cases h1
    have hjz : j ≠ z := by
      have := (Array.getElem?_eq_some_iff.1 hoj).1
      omega
    refine wpOp_mono (fun a' w' h3 => ⟨fun _ => h3.2.1 hjz, ?_⟩) (wpOp_putIf hoj (hfree j oj hoj hji hjun hno) (fun cs b => hsel i oi cs b hi) (fun cs b => hsel j oj cs b hoj) hQ hy (H.2 j (ready_mono hj hji)))
    refine Upto.firstA hi hsel hz hQ n (listed.setIfInBounds j true) a' w' (fun k ok hk hki hun hnk => hfree k ok hk hki ?_ hnk) (ready_mono hr (Ne.symm hji)) h3.1 (h3.2.1 hjz) (by rw [Array.setIfInBounds_comm _ _ hji]; exact h3.2.2)
    rcases Decidable.em (j = k) with hjk | hjk
    · subst hjk; exact hjun
    · rwa [getD_set_ne true hjk] at hun
theorem Upto.takeA {i : Nat} {oi : Oper} {v : Value} {n : Nat} {listed : Array Bool} {a : Act} {w : World} (hi : nth ops.toList i = some oi)
    (hs : Region.noSelect ops = true) (hf : Region.free md ops listed i = true) (hr : (Region.ready md ops listed).contains i = true) (hz : ops.size ≤ z)
    (hQ : ∀ c a w, Q (.panic c) (a.put oi.dst v) w → Q (.panic c) a w) (hw : Region.wanted oi (yielded ops a.tmps) = true) (hy : ∀ w, S w → (execOp a.eval oi).run P w = .ok (.value v) w) (hS : S w)
    (h : Upto P md ops Q S z n (listed.setIfInBounds i true) (a.put oi.dst v) w) : Upto P md ops Q S z (n + 1) listed a w :=
  Upto.firstA (nth_ops hi) (Region.noSelect_spec hs) hz hQ n listed a w (Region.free_spec (nth_ops hi) hf) (by simpa using hr) (.inl ⟨hw, hy⟩) hS h
theorem Upto.skipA {i : Nat} {oi : Oper} {n : Nat} {listed : Array Bool} {a : Act} {w : World} (hi : nth ops.toList i = some oi)
    (hs : Region.noSelect ops = true) (hf : Region.free md ops listed i = true) (hr : (Region.ready md ops listed).contains i = true) (hz : ops.size ≤ z)
    (hQ : ∀ c a w, Q (.panic c) (a.put oi.dst undef) w → Q (.panic c) a w) (hw : Region.wanted oi (yielded ops a.tmps) = false) (hS : S w)
    (h : Upto P md ops Q S z n (listed.setIfInBounds i true) (a.put oi.dst undef) w) : Upto P md ops Q S z (n + 1) listed a w :=
  Upto.firstA (nth_ops hi) (Region.noSelect_spec hs) hz hQ n listed a w (Region.free_spec (nth_ops hi) hf) (by simpa using hr) (.inr ⟨hw, rfl⟩) hS h
/-- All is done. -/
theorem Upto.done : ∀ {n : Nat} {listed : Array Bool} {a : Act} {w : World}, Region.ready md ops listed = [] → Q .normal a w → Upto P md ops Q S z n listed a w
  | 0, _, _, _, hr, h => ⟨hr, h⟩
  | n + 1, _, _, _, hr, h => ⟨fun _ => h, by rw [hr]; simp⟩
/-- From here on more is known. -/
theorem Upto.more {S' : World → Prop} (hS : ∀ w, S' w → S w) : ∀ (n : Nat) (listed : Array Bool) (a : Act) (w : World), Upto P md ops Q S' z n listed a w → Upto P md ops Q S z n listed a w
  | 0, _, _, _, h => h
  | n + 1, listed, a, w, h => ⟨h.1, fun j hj => wpOp_mono (fun a' w' h' => ⟨fun hne => hS _ (h'.1 hne), Upto.more hS n _ a' w' h'.2⟩) (h.2 j hj)⟩

/-- Number i is not wanted: it may be passed over ahead. -/
theorem Upto.skip {i : Nat} {oi : Oper} {n : Nat} {listed : Array Bool} {a : Act} {w : World} (hi : nth ops.toList i = some oi)
    (hs : Region.noSelect ops = true) (hf : Region.free md ops listed i = true) (hr : (Region.ready md ops listed).contains i = true) (hz : Region.waitsFor md ops z i = true)
    (hQ : ∀ c a w, Q (.panic c) (a.put oi.dst undef) w → Q (.panic c) a w) (hw : Region.wanted oi (yielded ops a.tmps) = false) (hS : S w)
    (h : Upto P md ops Q S z n (listed.setIfInBounds i true) (a.put oi.dst undef) w) : Upto P md ops Q S z (n + 1) listed a w :=
  Upto.first (nth_ops hi) (Region.noSelect_spec hs) hz hQ n listed a w (Region.free_spec (nth_ops hi) hf) (by simpa using hr) (.inr ⟨hw, rfl⟩) hS h

/-- Number i is the only one that may come up now. -/
theorem Upto.one {i : Nat} {oi : Oper} {n : Nat} {listed : Array Bool} {a : Act} {w : World} (hi : nth ops.toList i = some oi) (hr : Region.ready md ops listed = [i]) (hw : Region.wanted oi (yielded ops a.tmps) = true)
    (h : ∀ K : Act → World → Prop, Hid (∀ a' w', S w' → Upto P md ops Q S z n (listed.setIfInBounds i true) a' w' → K a' w') → oi.wp P a w K Q) : Upto P md ops Q S z (n + 1) listed a w := by
  refine ⟨fun h0 => (by rw [hr] at h0; cases h0), fun j hj => ?_⟩
  rw [hr] at hj
  obtain rfl := List.mem_singleton.1 hj
  refine wpOp_step (nth_ops hi) fun K hK => ?_
  rw [if_pos hw]
  exact h K fun a' w' hs hu => hK a' w' ⟨fun _ => hs, hu⟩
/-- Some may come up now. -/
theorem Upto.cases {L : List Nat} {n : Nat} {listed : Array Bool} {a : Act} {w : World} (hr : Region.ready md ops listed = L) (hne : L ≠ [])
    (h : ∀ i ∈ L, ∃ oi, nth ops.toList i = some oi ∧ Region.wanted oi (yielded ops a.tmps) = true ∧ ∀ K : Act → World → Prop, Hid (∀ a' w', S w' → Upto P md ops Q S z n (listed.setIfInBounds i true) a' w' → K a' w') → oi.wp P a w K Q) : Upto P md ops Q S z (n + 1) listed a w := by
  refine ⟨fun h0 => absurd (hr.symm.trans h0) hne, fun j hj => ?_⟩
  rw [hr] at hj
  obtain ⟨oi, hi, hw, h⟩ := h j hj
  refine wpOp_step (nth_ops hi) fun K hK => ?_
  rw [if_pos hw]
  exact h K fun a' w' hs hu => hK a' w' ⟨fun _ => hs, hu⟩
/-- The last one: S is asked no more. -/
theorem Upto.last {oi : Oper} {n : Nat} {listed : Array Bool} {a : Act} {w : World} (hi : nth ops.toList z = some oi) (hr : Region.ready md ops listed = [z]) (hr2 : Region.ready md ops (listed.setIfInBounds z true) = []) (hw : Region.wanted oi (yielded ops a.tmps) = true)
    (h : ∀ K : Act → World → Prop, Hid (∀ a' w', Q .normal a' w' → K a' w') → oi.wp P a w K Q) : Upto P md ops Q S z (n + 1) listed a w := by
  refine ⟨fun h0 => (by rw [hr] at h0; cases h0), fun j hj => ?_⟩
  rw [hr] at hj
  obtain rfl := List.mem_singleton.1 hj
  refine wpOp_step (nth_ops hi) fun K hK => ?_
  rw [if_pos hw]
  refine h K fun a' w' hq => hK a' w' ⟨fun hne => absurd rfl hne, ?_⟩
  cases n with
  | zero => exact ⟨hr2, hq⟩
  | succ n => exact ⟨fun _ => hq, by rw [hr2]; simp⟩

theorem Upto.start {id : Nat} {a : Act} {w : World} (S : World → Prop) (z : Nat) (hm : P.follows .mixedOrders = true) (hS : S w.drew)
    (h : S w.drew → Upto P .any ops Q S z ops.size (Array.replicate ops.size false) a w.drew) : (Code.region id ops true).wp P Q a w :=
  wp_region_any hm (Upto.any _ _ _ _ (h hS))
end
end Go.Proofs.Ytcnledehnefldaa.Rg
