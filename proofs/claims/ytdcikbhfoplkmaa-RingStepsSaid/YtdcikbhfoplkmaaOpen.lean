/- A struct of whole numbers, bools and strings, nested as it likes, that came in by value: its cells, written out. -/
import Derived.ProofKit
import Derived.ChangeArms
import Derived.Below
import Derived.Carry
namespace Go.Proofs.Ytdcikbhfoplkmaa.Open
open Go

/-- The kind of one cell. -/
inductive FK where
  | int (k : IntKind)
  | bool
  | str

def FK.fit : FK → Value → Prop
  | .int k, v => ∃ n : Int, v = .int k n ∧ (Lit.int k n).wf = true
  | .bool, v => ∃ b : Bool, v = .bool b
  | .str, v => ∃ s : ByteArray, v = .string s ∧ s.size ≤ maxLen

def Fits : List FK → List Value → Prop
  | [], cs => cs = []
  | k :: ks, cs => ∃ c cs', cs = c :: cs' ∧ k.fit c ∧ Fits ks cs'

theorem Fits.append {l1 : List FK} : ∀ {l2 : List FK} {c1 c2 : List Value}, Fits l1 c1 → Fits l2 c2 → Fits (l1 ++ l2) (c1 ++ c2) := by
  induction l1 with
  | nil => intro l2 c1 c2 h1 h2; cases h1; simpa using h2
  | cons k ks ih =>
    intro l2 c1 c2 h1 h2
    obtain ⟨c, cs, rfl, hc, h⟩ := h1
    exact ⟨c, cs ++ c2, rfl, hc, ih h h2⟩

theorem Fits.length {l : List FK} : ∀ {cs : List Value}, Fits l cs → cs.length = l.length := by
  induction l with
  | nil => intro cs h; cases h; rfl
  | cons k ks ih => intro cs h; obtain ⟨c, cs', rfl, _, h'⟩ := h; simp [ih h']

/-- The kinds of a type's cells, if it is made of plain ones; the fields stand one behind the other. -/
def flat (P : Program) : Nat → TypeId → Option (List FK)
  | 0, _ => none
  | n + 1, t =>
    match P.underlying t with
    | some .bool => some [.bool]
    | some (.int k) => some [.int k]
    | some .string => some [.str]
    | some (.struct fs) => do
      let l ← fs.toList.foldlM (init := ([] : List FK)) fun acc f => do
        let ks ← flat P n f.type
        if f.offset = acc.length ∧ P.cellsOf f.type = ks.length then some (acc ++ ks) else none
      if P.cellsOf t = l.length then some l else none
    | _ => none

section
variable {H : Type} {enc : TypeId × Value → H} {P : Program} {w : World} {base : Nat} {spare : Nat → Bool} {held : Bool}

theorem fold_fits {n : Nat} (ih : ∀ (t : TypeId) (ks : List FK) (fuel : Nat) (cs : List Value) (x : DataW H × List MemPlace), flat P n t = some ks → DataW.trod enc P w base spare held fuel t cs = some x → Fits ks cs)
    {m : Nat} {cs : List Value} : ∀ (fs : List Field) (acc l : List FK), (∀ f ∈ fs, ∃ y, DataW.trod enc P w base spare held m f.type ((cs.drop f.offset).take (P.cellsOf f.type)) = some y) →
      Fits acc (cs.take acc.length) →
      fs.foldlM (init := acc) (fun acc f => do
        let ks ← flat P n f.type
        if f.offset = acc.length ∧ P.cellsOf f.type = ks.length then some (acc ++ ks) else none) = some l → Fits l (cs.take l.length) := by
  intro fs
  induction fs with
  | nil => intro acc l _ h0 h; simp at h; subst h; exact h0
  | cons f fs ihf =>
    intro acc l hf h0 h
    simp only [List.foldlM_cons, Option.bind_eq_bind, Option.bind_eq_some_iff] at h
    obtain ⟨acc', ⟨ks, hk, hif⟩, h⟩ := h
    split at hif
    · rename_i hc
      simp only [Option.some.injEq] at hif
      subst hif
      obtain ⟨y, hy⟩ := hf f (by simp)
      have hF := ih _ _ _ _ _ hk hy
      have hl := hF.length
      refine ihf _ _ (fun g hg => hf g (by simp [hg])) ?_ h
      have e : cs.take (acc ++ ks).length = cs.take acc.length ++ (cs.drop acc.length).take ks.length := by
        rw [List.length_append, List.take_add]
      rw [e]
      refine h0.append ?_
      rw [hc.1, hc.2] at hF
      exact hF
    · cases hif

theorem open_flat : ∀ (n : Nat) (t : TypeId) (ks : List FK) (fuel : Nat) (cs : List Value) (x : DataW H × List MemPlace), flat P n t = some ks → DataW.trod enc P w base spare held fuel t cs = some x → Fits ks cs := by
  intro n
  induction n with
  | zero => intro t ks fuel cs x h; simp [flat] at h
  | succ n ih =>
    intro t ks fuel cs x h hx
    unfold flat at h
    split at h
    · rename_i ht
      cases h
      obtain ⟨b, rfl, _⟩ := DataW.trod_bool ht hx
      exact ⟨_, [], rfl, ⟨b, rfl⟩, rfl⟩
    · rename_i k ht
      cases h
      obtain ⟨m, rfl, _, hw⟩ := DataW.trod_int ht hx
      exact ⟨_, [], rfl, ⟨m, rfl, hw⟩, rfl⟩
    · rename_i ht
      cases h
      obtain ⟨s, rfl, _, hs⟩ := DataW.trod_string ht hx
      exact ⟨_, [], rfl, ⟨s, rfl, hs⟩, rfl⟩
    · rename_i fs ht
      obtain ⟨xs, m, _, _, hl, hlen, hf⟩ := DataW.trod_struct ht hx
      simp only [Option.bind_eq_bind, Option.bind_eq_some_iff] at h
      obtain ⟨l, hfold, hif⟩ := h
      split at hif
      · rename_i hc
        cases hif
        have hfs : ∀ f ∈ fs.toList, ∃ y, DataW.trod enc P w base spare held m f.type ((cs.drop f.offset).take (P.cellsOf f.type)) = some y := by
          intro f hm
          obtain ⟨i, hi, e⟩ := List.getElem_of_mem hm
          have hi' : i < fs.size := by simpa using hi
          have := hf i f (by simp [Array.getElem?_eq_getElem hi', ← e])
          rw [this]
          exact ⟨xs[i], List.getElem?_eq_getElem (by omega)⟩
        have := fold_fits (ih) fs.toList [] ks hfs (by simp [Fits]) hfold
        rw [List.take_of_length_le (by omega)] at this
        exact this
      · cases hif
    · cases h

theorem Fits.uncons {k : FK} {ks : List FK} {cs : List Value} (h : Fits (k :: ks) cs) : ∃ c cs', cs = c :: cs' ∧ k.fit c ∧ Fits ks cs' := h

/-- A struct that came in: its value is written out. -/
theorem open_struct {r : Reach} {b0 : Nat} {t : TypeId} {fs : Array Field} {v : Value} {d : DataW H} {p : List MemPlace} {n : Nat} {ks : List FK} (ht : P.underlying t = some (.struct fs))
    (hk : flat P n t = some ks) (hv : Value.okWide P w r b0 t v) (h : DataW.Trod enc P w base spare held t v d p) : ∃ cs : List Value, v = .agg cs.toArray ∧ Fits ks cs := by
  unfold Value.okWide at hv
  rw [ht] at hv
  obtain ⟨cs, rfl, _, _⟩ := hv
  obtain ⟨fuel, hf⟩ := h
  refine ⟨cs.toList, by simp, ?_⟩
  exact open_flat n t ks fuel _ _ hk (by simpa [Value.cells] using hf)

/-- All whole numbers, bools, strings, likewise. -/
theorem trod_places {t : TypeId} {v : Value} {d : DataW H} {p : List MemPlace} (h : DataW.Trod enc P w base spare held t v d p) : ∀ x ∈ p, x.block < w.heap.size := by
  obtain ⟨m, hm⟩ := h
  exact DataW.trod_lt m _ _ _ hm
end
end Go.Proofs.Ytdcikbhfoplkmaa.Open
