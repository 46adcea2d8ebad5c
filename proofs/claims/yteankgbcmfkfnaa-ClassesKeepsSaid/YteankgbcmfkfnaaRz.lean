/- A region that draws its order: S holds until number z has come; behind it nothing is asked. -/
import Derived.Test.YteankgbcmfkfnaaRg
namespace Go.Proofs.Yteankgbcmfkfnaa.Rg
open Go Go.RowKit
set_option linter.unusedVariables false
set_option linter.unusedSimpArgs false

section
variable {P : Program} {ops : Array Oper} {Q : Exit → Act → World → Prop} {md : Region.Mode} {S : World → Prop} {z : Nat}

def Till (P : Program) (md : Region.Mode) (ops : Array Oper) (Q : Exit → Act → World → Prop) (S : World → Prop) (z : Nat) : Nat → Array Bool → Act → World → Prop
  | 0, listed, a, w => Region.ready md ops listed = [] ∧ Q .normal a w
  | n + 1, listed, a, w =>
    (Region.ready md ops listed = [] → Q .normal a w) ∧
    ∀ j ∈ Region.ready md ops listed, wpOp P ops Q j (fun a' w' => ((listed.setIfInBounds j true).getD z true = false → S w') ∧ Till P md ops Q S z n (listed.setIfInBounds j true) a' w') a w

theorem Till.any : ∀ (n : Nat) (listed : Array Bool) (a : Act) (w : World), Till P md ops Q S z n listed a w → wpAny P md ops Q n listed a w
  | 0, _, _, _, h => h
  | n + 1, _, _, _, h => ⟨h.1, fun j hj => wpOp_mono (fun a' w' h' => Till.any n _ a' w' h'.2) (h.2 j hj)⟩

theorem Till.first {T : World → Prop} {i : Nat} {oi : Oper} {v : Value} (hi : ops[i]? = some oi) (hsel : ∀ (j : Nat) (o : Oper) cs b, ops[j]? = some o → o.op ≠ .select cs b)
    (hiz : i ≠ z) (hQ : ∀ c a w, Q (.panic c) (a.put oi.dst v) w → Q (.panic c) a w) :
    ∀ (n : Nat) (listed : Array Bool) (a : Act) (w : World),
      (∀ j oj, ops[j]? = some oj → j ≠ i → listed.getD j true = false → (∀ e ∈ oj.after, Region.binds md e = true → e.on ≠ i) → oi.apart ops oj = true) →
      i ∈ Region.ready md ops listed → YieldsIf P ops T oi v a → ((∀ w, T w) ∨ ((∀ w, S w → T w) ∧ Region.waitsFor md ops z i = true ∧ listed.getD z true = false)) → (listed.getD z true = false → S w) →
      Till P md ops Q S z n (listed.setIfInBounds i true) (a.put oi.dst v) w → Till P md ops Q S z (n + 1) listed a w
  | n, listed, a, w, hfree, hr, hy, hT, hS, H => by
    have hTw : T w := by
      rcases hT with h | ⟨h, _, h2⟩
      · exact h w
      · exact h w (hS h2)
    refine ⟨fun h => (by rw [h] at hr; cases hr), fun j hj => ?_⟩
    rcases Decidable.em (j = i) with hji | hji
    · subst hji
      exact hy.wpOp hi hTw ⟨fun hz => hS (by rwa [getD_set_ne true hiz] at hz), H⟩
    obtain ⟨hjun, oj, hoj, hall⟩ := mem_ready.1 hj
    have hno : ∀ e ∈ oj.after, Region.binds md e = true → e.on ≠ i := fun e he hb heq => by
      have h1 := hall e he hb
      rw [heq, getD_both (mem_ready.1 hr).1] at h1
      cases h1
    cases n with
    | zero => exact absurd (ready_mono hj hji) (by rw [H.1]; simp)
    | succ n =>
      refine wpOp_mono (fun a' w' h3 => ?_) (wpOp_putIf hoj (hfree j oj hoj hji hjun hno) (fun cs b => hsel i oi cs b hi) (fun cs b => hsel j oj cs b hoj) hQ hy (H.2 j (ready_mono hj hji)))
      have hS' : (listed.setIfInBounds j true).getD z true = false → S w' := fun hz => h3.2.1 (by
        rw [Array.setIfInBounds_comm _ _ (Ne.symm hji), getD_set_ne true hiz]
        exact hz)
      refine ⟨hS', ?_⟩
      refine Till.first hi hsel hiz hQ n (listed.setIfInBounds j true) a' w' (fun k ok hk hki hun hnk => hfree k ok hk hki ?_ hnk) (ready_mono hr (Ne.symm hji)) h3.1 ?_ hS' (by rw [Array.setIfInBounds_comm _ _ hji]; exact h3.2.2)
      · rcases Decidable.em (j = k) with hjk | hjk
        · subst hjk; exact hjun
        · rwa [getD_set_ne true hjk] at hun
      · rcases hT with h | ⟨h, h2, h4⟩
        · exact .inl h
        · refine .inr ⟨h, h2, ?_⟩
          have hjz : j ≠ z := by
            rintro rfl
            obtain ⟨o2, ho2, e, he, hb, hon⟩ := Region.waitsFor_spec h2
            obtain rfl := Option.some.inj (hoj.symm.trans ho2)
            exact hno e he hb hon
          rw [getD_set_ne true hjz]
          exact h4

/-- Number i reads what S tells. -/
theorem Till.take {i : Nat} {oi : Oper} {v : Value} {n : Nat} {listed : Array Bool} {a : Act} {w : World} (hi : nth ops.toList i = some oi)
    (hs : Region.noSelect ops = true) (hf : Region.free md ops listed i = true) (hr : (Region.ready md ops listed).contains i = true) (hz : Region.waitsFor md ops z i = true) (hl : listed.getD z true = false) (hiz : i ≠ z)
    (hQ : ∀ c a w, Q (.panic c) (a.put oi.dst v) w → Q (.panic c) a w) (hw : Region.wanted oi (yielded ops a.tmps) = true) (hy : ∀ w, S w → (execOp a.eval oi).run P w = .ok (.value v) w) (hS : S w)
    (h : Till P md ops Q S z n (listed.setIfInBounds i true) (a.put oi.dst v) w) : Till P md ops Q S z (n + 1) listed a w :=
  Till.first (T := S) (nth_ops hi) (Region.noSelect_spec hs) hiz hQ n listed a w (Region.free_spec (nth_ops hi) hf) (by simpa using hr) (.inl ⟨hw, hy⟩) (.inr ⟨fun _ h => h, hz, hl⟩) (fun _ => hS) h
/-- Number i reads no memory. -/
theorem Till.pure {i : Nat} {oi : Oper} {v : Value} {n : Nat} {listed : Array Bool} {a : Act} {w : World} (hi : nth ops.toList i = some oi)
    (hs : Region.noSelect ops = true) (hf : Region.free md ops listed i = true) (hr : (Region.ready md ops listed).contains i = true) (hiz : i ≠ z)
    (hQ : ∀ c a w, Q (.panic c) (a.put oi.dst v) w → Q (.panic c) a w) (hw : Region.wanted oi (yielded ops a.tmps) = true) (hy : ∀ w, True → (execOp a.eval oi).run P w = .ok (.value v) w) (hS : listed.getD z true = false → S w)
    (h : Till P md ops Q S z n (listed.setIfInBounds i true) (a.put oi.dst v) w) : Till P md ops Q S z (n + 1) listed a w :=
  Till.first (T := fun _ => True) (nth_ops hi) (Region.noSelect_spec hs) hiz hQ n listed a w (Region.free_spec (nth_ops hi) hf) (by simpa using hr) (.inl ⟨hw, hy⟩) (.inl fun _ => trivial) hS h
theorem Till.done : ∀ {n : Nat} {listed : Array Bool} {a : Act} {w : World}, Region.ready md ops listed = [] → Q .normal a w → Till P md ops Q S z n listed a w
  | 0, _, _, _, hr, h => ⟨hr, h⟩
  | n + 1, _, _, _, hr, h => ⟨fun _ => h, by rw [hr]; simp⟩
/-- Some may come up now. -/
theorem Till.cases {L : List Nat} {n : Nat} {listed : Array Bool} {a : Act} {w : World} (hr : Region.ready md ops listed = L) (hne : L ≠ [])
    (h : ∀ i ∈ L, ∃ oi, nth ops.toList i = some oi ∧ Region.wanted oi (yielded ops a.tmps) = true ∧ ∀ K : Act → World → Prop, Hid (∀ a' w', ((listed.setIfInBounds i true).getD z true = false → S w') → Till P md ops Q S z n (listed.setIfInBounds i true) a' w' → K a' w') → oi.wp P a w K Q) : Till P md ops Q S z (n + 1) listed a w := by
  refine ⟨fun h0 => absurd (hr.symm.trans h0) hne, fun j hj => ?_⟩
  rw [hr] at hj
  obtain ⟨oi, hi, hw, h⟩ := h j hj
  refine wpOp_step (nth_ops hi) fun K hK => ?_
  rw [if_pos hw]
  exact h K fun a' w' hs hu => hK a' w' ⟨hs, hu⟩
theorem Till.one {i : Nat} {oi : Oper} {n : Nat} {listed : Array Bool} {a : Act} {w : World} (hi : nth ops.toList i = some oi) (hr : Region.ready md ops listed = [i]) (hw : Region.wanted oi (yielded ops a.tmps) = true)
    (h : ∀ K : Act → World → Prop, Hid (∀ a' w', ((listed.setIfInBounds i true).getD z true = false → S w') → Till P md ops Q S z n (listed.setIfInBounds i true) a' w' → K a' w') → oi.wp P a w K Q) : Till P md ops Q S z (n + 1) listed a w :=
  Till.cases hr (by simp) fun j hj => by
    obtain rfl := List.mem_singleton.1 hj
    exact ⟨oi, hi, hw, h⟩
theorem Till.start {id : Nat} {a : Act} {w : World} (S : World → Prop) (z : Nat) (hm : P.follows .mixedOrders = true) (hS : S w.drew)
    (h : S w.drew → Till P .any ops Q S z ops.size (Array.replicate ops.size false) a w.drew) : (Code.region id ops true).wp P Q a w :=
  wp_region_any hm (Till.any _ _ _ _ (h hS))
end
end Go.Proofs.Yteankgbcmfkfnaa.Rg
