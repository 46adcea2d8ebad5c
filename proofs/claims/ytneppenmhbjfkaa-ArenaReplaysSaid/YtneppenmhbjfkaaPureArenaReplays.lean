/- ArenaReplays, plain: Replay tells what the chapter does. -/
import Derived.Test.YtneppenmhbjfkaaPAllx4
import Derived.Test.YtneppenmhbjfkaaEo
namespace Go.Proofs.Ytneppenmhbjfkaa.Pure
open Go.RowKit Go.Proofs.Ytneppenmhbjfkaa.PAll Go.Proofs.YtneppenmhbjfkaaW.PrintWords Go.Proofs.YtneppenmhbjfkaaW.PrintLast
open Go.Proofs.Ytneppenmhbjfkaa.Eo
set_option linter.unusedVariables false
set_option linter.unusedSimpArgs false

theorem after_eq (k : Nat) (a0 a1 a2 a3 a4 a5 a6 s : Int) : arena_after.f k a0 a1 a2 a3 a4 a5 a6 s = windrowref03_Left.f k a1 s a3 a4 := by
  have h : ∀ (k : Nat) (x1 x7 : Int) (b : Bool), arena_after.j0 k x1 x7 b a0 a1 a2 a3 a4 a5 a6 = windrowref03_Left.j0 k x1 a3 a4 x7 b := by
    intro k x1 x7 b
    cases k with
    | zero => simp only [arena_after.j0, windrowref03_Left.j0]
    | succ k => simp only [arena_after.j0, windrowref03_Left.j0]
  unfold arena_after.f windrowref03_Left.f
  rw [h, h]

theorem replay_eq (l : List S76) : ∀ (k : Nat), (∀ (x7 : List Int) (i : Int), arena_Replay.l0 k x7 l (l.length : Int) i = windrowref03_Replay.l0 k l x7 i) ∧
    (∀ (x7 : List Int) (i : Int) (b : Bool) (f0 f1 f2 f3 f4 f5 f6 : Int), arena_Replay.j1 k x7 i l (l.length : Int) i b f0 f1 f2 f3 f4 f5 f6 = windrowref03_Replay.j1 k l x7 i b f0 f1 f2 f3 f4 f5 f6) := by
  intro k
  induction k with
  | zero => exact ⟨fun _ _ => by simp only [arena_Replay.l0, windrowref03_Replay.l0], fun _ _ _ _ _ _ _ _ _ _ => by simp only [arena_Replay.j1, windrowref03_Replay.j1]⟩
  | succ k ih =>
    refine ⟨fun x7 i => ?_, fun x7 i b f0 f1 f2 f3 f4 f5 f6 => ?_⟩
    · simp only [arena_Replay.l0, windrowref03_Replay.l0, ih.2]
      by_cases h : i < (l.length : Int)
      · simp only [if_pos h]
      · simp only [if_neg h]
    · simp only [arena_Replay.j1, windrowref03_Replay.j1, after_eq, ih.1]

theorem left_some (a0 a1 a2 a3 : Int) : ∃ r : Int × Bool, Eo (fun k => windrowref03_Left.f k a0 a1 a2 a3) r := by
  have h : ∀ (b : Bool), ∃ r : Int × Bool, Eo (fun k => windrowref03_Left.j0 k a1 a2 a3 a0 b) r := by
    intro b
    have : ∃ r : Int × Bool, ∀ k, windrowref03_Left.j0 (k + 1) a1 a2 a3 a0 b = some r := by
      simp only [windrowref03_Left.j0]
      split
      · exact ⟨_, fun _ => rfl⟩
      · split
        · split
          · exact ⟨_, fun _ => rfl⟩
          · exact ⟨_, fun _ => rfl⟩
        · split
          · exact ⟨_, fun _ => rfl⟩
          · split
            · exact ⟨_, fun _ => rfl⟩
            · exact ⟨_, fun _ => rfl⟩
    obtain ⟨r, hr⟩ := this
    exact ⟨r, (Eo.of (g := fun _ => some r) fun _ => rfl).step fun k _ => hr k⟩
  unfold windrowref03_Left.f
  split
  · exact ⟨_, Eo.of fun _ => rfl⟩
  · split
    · exact h _
    · exact h _

theorem ref_some (l : List S76) (hl : l.length ≤ 500) : ∀ (d : Nat) (x7 : List Int) (i : Nat), d = l.length - i → i ≤ l.length → ∃ r, Eo (fun k => windrowref03_Replay.l0 k l x7 (i : Int)) r := by
  intro d
  induction d with
  | zero =>
    intro x7 i hd hi
    refine ⟨_, (Eo.of (g := fun _ => some (x7, 0, 0)) fun _ => rfl).step fun k _ => ?_⟩
    simp only [windrowref03_Replay.l0]
    rw [if_neg (by omega)]
  | succ d ih =>
    intro x7 i hd hi
    have key : ∀ (b : Bool), (b = false → 0 ≤ (rd_T76 l i).f2 ∧ (rd_T76 l i).f2 < x7.length) → ∃ r, Eo (fun k => windrowref03_Replay.j1 k l x7 i b ((rd_T76 l i).f0) ((rd_T76 l i).f1) ((rd_T76 l i).f2) ((rd_T76 l i).f3) ((rd_T76 l i).f4) ((rd_T76 l i).f5) ((rd_T76 l i).f6)) r := by
      intro b hb
      cases b with
      | true =>
        refine ⟨_, (Eo.of (g := fun _ => some (([] : List Int), (i : Int), 5)) fun _ => rfl).step fun k _ => ?_⟩
        simp only [windrowref03_Replay.j1]
        rfl
      | false =>
        obtain ⟨h0, h1⟩ := hb rfl
        obtain ⟨t, ht⟩ := left_some (rd_T76 l i).f1 (rd x7 (rd_T76 l i).f2) (rd_T76 l i).f3 (rd_T76 l i).f4
        by_cases hc : t.2 = true ∧ (rd_T76 l i).f5 = rd x7 (rd_T76 l i).f2 ∧ (rd_T76 l i).f6 = t.1
        · obtain ⟨r, hr⟩ := ih (x7.set ((rd_T76 l i).f2).toNat t.1) (i + 1) (by omega) (by omega)
          refine ⟨r, ht.step2 hr fun k hu1 hu2 => ?_⟩
          simp only [windrowref03_Replay.j1]
          rw [if_neg (by simp), if_pos h0, if_pos h1]
          rw [hu1]
          simp only [Option.bind_some]
          rw [if_pos hc.1, if_pos hc.2.1, if_pos hc.2.2, w64 (by omega) (by omega)]
          exact hu2
        · refine ⟨(([] : List Int), (i : Int), 4), ht.step1 fun k hk => ?_⟩
          simp only [windrowref03_Replay.j1]
          rw [if_neg (by simp), if_pos h0, if_pos h1, hk]
          simp only [Option.bind_some]
          by_cases c1 : t.2 = true
          · rw [if_pos c1]
            by_cases c2 : (rd_T76 l i).f5 = rd x7 (rd_T76 l i).f2
            · rw [if_pos c2, if_neg (fun c3 => hc ⟨c1, c2, c3⟩)]
            · rw [if_neg c2]
          · rw [if_neg c1]
    by_cases hlt : (rd_T76 l i).f2 < 0
    · obtain ⟨r, hr⟩ := key true (by simp)
      refine ⟨r, hr.step fun k hk => ?_⟩
      simp only [windrowref03_Replay.l0]
      rw [if_pos (by omega), if_pos (by omega), if_pos hlt]
      exact hk
    · obtain ⟨r, hr⟩ := key (decide ((rd_T76 l i).f2 ≥ (x7.length : Int))) (fun h => by simp at h; omega)
      refine ⟨r, hr.step fun k hk => ?_⟩
      simp only [windrowref03_Replay.l0]
      rw [if_pos (by omega), if_pos (by omega), if_neg hlt]
      exact hk

theorem words_same (l : List Int) (hl : l.length ≤ 9223372036854775807) : Eo (fun k => windrowref01_Words.f k l l) true := by
  have h : ∀ (d i : Nat), d = l.length - i → i ≤ l.length → Eo (fun k => windrowref01_Words.l0 k l l (i : Int)) true := by
    intro d
    induction d with
    | zero =>
      intro i hd hi
      refine (Eo.of (g := fun _ => some true) fun _ => rfl).step fun k _ => ?_
      simp only [windrowref01_Words.l0]
      rw [if_neg (by omega)]
    | succ d ih =>
      intro i hd hi
      refine (ih (i + 1) (by omega) (by omega)).step fun k hk => ?_
      simp only [windrowref01_Words.l0]
      rw [if_pos (by omega), if_pos (by omega), if_pos (by omega), if_pos trivial, w64 (by omega) (by omega)]
      exact hk
  refine (h l.length 0 (by omega) (by omega)).congr fun k => ?_
  unfold windrowref01_Words.f
  rw [if_pos rfl]
  rfl

/-- Each of the last d numbers of a list, one more. -/
def inc : Nat → List Int → Nat → List Int
  | 0, l, _ => l
  | d + 1, l, i => inc d (l.set i (IntKind.u64.wrap (rd l (i : Int) + 1))) (i + 1)
theorem inc_length : ∀ (d : Nat) (l : List Int) (i : Nat), (inc d l i).length = l.length
  | 0, _, _ => rfl
  | d + 1, l, i => by rw [inc, inc_length d]; simp

theorem loop0 (x0 x5 : List Int) (x7 x8 : Int) (x9 : List Int) (x10 x11 : Int) (r : Bool) : ∀ (d : Nat) (x6 : List Int) (i : Nat), x6.length ≤ 1000000 → d = x6.length - i → i ≤ x6.length →
    Eo (fun k => windrowlaw03_ArenaReplays.l1 k x0 x5 (inc d x6 i) x7 x8 x9 x10 x11 0) r → Eo (fun k => windrowlaw03_ArenaReplays.l0 k x0 x5 x6 x7 x8 x9 x10 x11 (i : Int)) r := by
  intro d
  induction d with
  | zero =>
    intro x6 i hm hd hi H
    refine H.step fun k hk => ?_
    simp only [windrowlaw03_ArenaReplays.l0]
    rw [if_neg (by omega)]
    exact hk
  | succ d ih =>
    intro x6 i hm hd hi H
    refine (ih (x6.set i (IntKind.u64.wrap (rd x6 (i : Int) + 1))) (i + 1) (by simpa using hm) (by simp; omega) (by simp; omega) H).step fun k hk => ?_
    simp only [windrowlaw03_ArenaReplays.l0]
    rw [if_pos (by omega), if_pos (by omega), w64 (by omega) (by omega)]
    exact hk
theorem loop1 (x0 x5 x6 : List Int) (x7 x8 : Int) (x10 x11 : Int) (r : Bool) : ∀ (d : Nat) (x9 : List Int) (i : Nat), x9.length ≤ 1000000 → d = x9.length - i → i ≤ x9.length →
    (∀ m : Nat, inc d x9 i = x6 → x7 = x10 → x8 = x11 → x5 = x0 → x6.length ≤ 1000000 → x0.length ≤ 1000000 → True) →
    inc d x9 i = x6 → x7 = x10 → x8 = x11 → x5 = x0 → x0.length ≤ 1000000 → Eo (fun k => windrowlaw03_ArenaReplays.l1 k x0 x5 x6 x7 x8 x9 x10 x11 (i : Int)) true := by
  intro d
  induction d with
  | zero =>
    intro x9 i hm hd hi _ h1 h2 h3 h4 h5
    simp only [inc] at h1
    subst h1 h2 h3 h4
    have a := words_same x9 (by omega)
    have b := words_same x5 (by omega)
    refine a.step2 b fun k hu1 hu2 => ?_
    simp only [windrowlaw03_ArenaReplays.l1]
    rw [if_neg (by omega)]
    refine bnd (a := true) rfl ?_
    rw [if_pos rfl, hu1]
    simp only [Option.bind_some]
    rw [if_pos trivial, if_pos trivial, if_pos trivial]
    refine bnd hu2 rfl
  | succ d ih =>
    intro x9 i hm hd hi _ h1 h2 h3 h4 h5
    refine (ih (x9.set i (IntKind.u64.wrap (rd x9 (i : Int) + 1))) (i + 1) (by simpa using hm) (by simp; omega) (by simp; omega) (fun _ _ _ _ _ _ _ => trivial) h1 h2 h3 h4 h5).step fun k hk => ?_
    simp only [windrowlaw03_ArenaReplays.l1]
    rw [if_pos (by omega), if_pos (by omega), w64 (by omega) (by omega)]
    exact hk

theorem ArenaReplays : windrowlaw03_ArenaReplays.Pure := by
  intro l0 l1 _ _ _ _ _
  refine Eo.get (g := fun k => windrowlaw03_ArenaReplays.f k l0 l1) ?_
  have out : ∀ a b, Eo (fun k => windrowlaw03_ArenaReplays.j0 k a b true) true := by
    intro a b
    refine (Eo.of (g := fun _ => some true) fun _ => rfl).step fun k _ => ?_
    simp only [windrowlaw03_ArenaReplays.j0]
    rw [if_pos trivial]
    rfl
  by_cases h0 : (l0.length : Int) > 500
  · refine (out l0 l1).congr fun k => ?_
    unfold windrowlaw03_ArenaReplays.f
    rw [if_pos h0]
  · by_cases h1 : (l1.length : Int) > 500
    · refine (out l0 l1).congr fun k => ?_
      unfold windrowlaw03_ArenaReplays.f
      rw [if_neg h0, decide_eq_true h1]
    · obtain ⟨r, hr⟩ := ref_some l1 (by omega) l1.length l0 0 (by omega) (by omega)
      have hb : Eo (fun k => windrowref03_Replay.f k l0 l1) r := hr.congr fun k => by
        unfold windrowref03_Replay.f
        rw [if_pos (by simp; omega)]
        rfl
      have ha : Eo (fun k => arena_Replay.f k l0 l1) r := hr.congr fun k => by
        unfold arena_Replay.f
        simp only [Option.bind_some]
        rw [if_pos (by simp; omega), (replay_eq l1 k).1]
        rfl
      have hlen : r.1.length ≤ 1000000 := by
        have h : ∀ (k : Nat), (∀ x7 i r, windrowref03_Replay.l0 k l1 x7 i = some r → r.1.length ≤ x7.length) ∧ (∀ x7 i b f0 f1 f2 f3 f4 f5 f6 r, windrowref03_Replay.j1 k l1 x7 i b f0 f1 f2 f3 f4 f5 f6 = some r → r.1.length ≤ x7.length) := by
          intro k
          induction k with
          | zero => exact ⟨fun _ _ _ h => by simp [windrowref03_Replay.l0] at h, fun _ _ _ _ _ _ _ _ _ _ _ h => by simp [windrowref03_Replay.j1] at h⟩
          | succ k ih =>
            refine ⟨fun x7 i r h => ?_, fun x7 i b f0 f1 f2 f3 f4 f5 f6 r h => ?_⟩
            · simp only [windrowref03_Replay.l0] at h
              split at h
              · split at h
                · split at h
                  · exact ih.2 _ _ _ _ _ _ _ _ _ _ _ h
                  · exact ih.2 _ _ _ _ _ _ _ _ _ _ _ h
                · cases h
              · cases h; exact Nat.le_refl _
            · simp only [windrowref03_Replay.j1] at h
              split at h
              · cases h; simp
              · split at h
                · split at h
                  · obtain ⟨t, _, h⟩ := Option.bind_eq_some_iff.1 h
                    split at h
                    · split at h
                      · split at h
                        · have := ih.1 _ _ _ h
                          simpa using this
                        · cases h; simp
                      · cases h; simp
                    · cases h; simp
                  · cases h
                · cases h
        obtain ⟨k, hk⟩ := hr.get
        have := (h k).1 _ _ _ hk
        omega
      have hl := loop1 l0 l0 (inc r.1.length r.1 0) r.2.1 r.2.2 r.2.1 r.2.2 true r.1.length r.1 0 hlen (by omega) (by omega) (fun _ _ _ _ _ _ _ => trivial) rfl rfl rfl rfl (by omega)
      have hw := loop0 l0 l0 r.2.1 r.2.2 r.1 r.2.1 r.2.2 true r.1.length r.1 0 hlen (by omega) (by omega) hl
      have H2 : Eo (fun k => windrowlaw03_ArenaReplays.j0 k l0 l1 false) true := ha.step3 hb hw fun k e1 e2 e3 => by
        simp only [windrowlaw03_ArenaReplays.j0]
        rw [if_neg (by simp)]
        simp only [Option.bind_some]
        rw [if_pos (by simp; omega), List.nil_append, e1]
        simp only [Option.bind_some]
        rw [e2]
        exact e3
      refine H2.congr fun k => ?_
      unfold windrowlaw03_ArenaReplays.f
      rw [if_neg h0, decide_eq_false h1]
end Go.Proofs.Ytneppenmhbjfkaa.Pure
