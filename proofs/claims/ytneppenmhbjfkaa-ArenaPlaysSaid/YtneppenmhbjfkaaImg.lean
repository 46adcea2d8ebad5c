/- An image as it is read later on; two rows of words that are the same. -/
import Derived.Test.YtneppenmhbjfkaaAoth
namespace Go.Proofs.Ytneppenmhbjfkaa.Ar
open Go Go.RowKit Go.Proofs.Ytneppenmhbjfkaa.Hp
open Go.Proofs.YtneppenmhbjfkaaW.PrintWords (Kd Drawn0 rd LeO)
open Go.Proofs.Ytneppenmhbjfkaa.PH
set_option linter.unusedVariables false
set_option linter.unusedSimpArgs false

theorem words_same (l : List Int) (hl : l.length ≤ 9223372036854775807) : ∃ k, windrowref01_Words.f k l l = some true := by
  have h : ∀ (d i : Nat), d = l.length - i → i ≤ l.length → windrowref01_Words.l0 (d + 1) l l (i : Int) = some true := by
    intro d
    induction d with
    | zero =>
      intro i hd hi
      simp only [windrowref01_Words.l0]
      rw [if_neg (by omega)]
    | succ d ih =>
      intro i hd hi
      rw [windrowref01_Words.l0, if_pos (by omega), if_pos (by omega), if_pos (by omega), if_pos rfl, show wrap64 ((i : Int) + 1) = ((i + 1 : Nat) : Int) by unfold wrap64; omega]
      exact ih (i + 1) (by omega) (by omega)
  refine ⟨l.length + 1, ?_⟩
  unfold windrowref01_Words.f
  rw [if_pos rfl]
  exact h l.length 0 (by omega) (by omega)

theorem imageC {B e : Nat} {w : World} {v : Value} {k : IntKind} {xs : List Int} (h : w.ownsRow B e 1 v xs.length (xs.map (Value.int k))) (hn : 0 < xs.length) :
    ∃ g cap, v = .slice (some ⟨g, 0, none⟩) xs.length cap ∧ B ≤ g ∧ xs.length ≤ cap ∧ (∃ cells, w.heap[g]? = some (.cells cells e (0, 0))) ∧ ∀ w2 : World, w2.heap[g]? = w.heap[g]? → Kd.C (Kd.int k) w2 (some ⟨g, 0, none⟩) xs.length xs := by
  have h2 := h
  obtain ⟨g, cap, rfl, hg, hc, hb, hr⟩ := own_read h hn
  have hm : xs.length ≤ 9223372036854775807 := by
    rcases h2.2 with ⟨h1, _⟩ | ⟨g, cap, cur, h1, _, _, h4, h5, _⟩
    · simp at h1
    · unfold maxLen at h5; omega
  refine ⟨g, cap, rfl, hg, hc, hb, fun w2 h2 => ⟨rfl, hm, fun _ => ⟨_, rfl, fun j p hp => ⟨[.int k p], rfl, rfl, fun i u hu => ?_⟩⟩⟩⟩
  have hj : j < xs.length := (List.getElem?_eq_some_iff.1 hp).1
  obtain ⟨rfl, rfl⟩ : i = 0 ∧ .int k p = u := by
    cases i with
    | zero => exact ⟨rfl, by simpa using hu⟩
    | succ i => simp at hu
  have e1 := hr j hj
  rw [List.getD_eq_getElem?_getD, hp, Option.getD_some] at e1
  have e2 : ((⟨g, 0, none⟩ : Addr).add (j * (Kd.int k).sz + 0)) = ⟨g, j, none⟩ := by
    show Addr.add _ (j * 1 + 0) = _
    unfold Addr.add
    split
    · rename_i h0
      have : j = 0 := by omega
      rw [this]
    · simp
  rw [e2, ← e1]
  simp only [World.cell?, h2]
end Go.Proofs.Ytneppenmhbjfkaa.Ar
