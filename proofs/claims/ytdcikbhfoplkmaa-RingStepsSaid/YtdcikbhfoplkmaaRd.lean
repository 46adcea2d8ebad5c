/- Whatever came in and is made of whole numbers, bools, strings, structs and slices of such: its cells, written out. -/
import Derived.ProofKit
import Derived.ChangeArms
import Derived.Below
import Derived.Carry
import Derived.Deep.Slices
import Derived.Deep.Fields
import Derived.ChangeSame
namespace Go.Proofs.Ytdcikbhfoplkmaa.Rd
open Go Go.ChangeShapes Go.WideShapes Go.Deep

/-- The kind of one cell; a slice: the kinds of its element's cells. -/
inductive Sh where
  | int (k : IntKind)
  | bool
  | str
  | slice (fs : List Sh)

mutual
/-- A cell of that kind. -/
def Sh.fit (w : World) : Sh → Value → Prop
  | .int k, v => ∃ n : Int, v = .int k n ∧ (Lit.int k n).wf = true
  | .bool, v => ∃ b : Bool, v = .bool b
  | .str, v => ∃ s : ByteArray, v = .string s ∧ s.size ≤ maxLen
  | .slice l, v => v = .slice none 0 0 ∨ ∃ (a : Addr) (len cap : Nat), v = .slice (some a) len cap ∧ len ≤ cap ∧ cap ≤ maxLen ∧
      ∀ i, i < cap → ∃ cs : List Value, cs.length = l.length ∧ (∀ j, j < l.length → w.cell? (a.add (i * l.length + j)) = cs[j]?) ∧ Sh.fits w l cs
def Sh.fits (w : World) : List Sh → List Value → Prop
  | [], cs => cs = []
  | k :: ks, cs => ∃ c cs', cs = c :: cs' ∧ Sh.fit w k c ∧ Sh.fits w ks cs'
end

theorem fits_append {w : World} {l1 : List Sh} : ∀ {l2 : List Sh} {c1 c2 : List Value}, Sh.fits w l1 c1 → Sh.fits w l2 c2 → Sh.fits w (l1 ++ l2) (c1 ++ c2) := by
  induction l1 with
  | nil => intro l2 c1 c2 h1 h2; simp only [Sh.fits] at h1; subst h1; simpa using h2
  | cons k ks ih =>
    intro l2 c1 c2 h1 h2
    simp only [Sh.fits] at h1
    obtain ⟨c, cs, rfl, hc, h⟩ := h1
    simp only [List.cons_append, Sh.fits]
    exact ⟨c, cs ++ c2, rfl, hc, ih h h2⟩
/-- The kinds of a type's cells. -/
def shape (P : Program) : Nat → TypeId → Option (List Sh)
  | 0, _ => none
  | n + 1, t =>
    match P.underlying t with
    | some .bool => some [.bool]
    | some (.int k) => some [.int k]
    | some .string => some [.str]
    | some (.slice e) => (shape P n e).bind fun l => if P.cellsOf e = l.length then some [.slice l] else none
    | some (.struct fs) => do
      let l ← fs.toList.foldlM (init := ([] : List Sh)) fun acc f => do
        let ks ← shape P n f.type
        if f.offset = acc.length ∧ P.cellsOf f.type = ks.length then some (acc ++ ks) else none
      if P.cellsOf t = l.length then some l else none
    | _ => none

section
variable {H : Type} {enc : TypeId × Value → H} {P : Program} {w : World} {base : Nat} {spare : Nat → Bool} {held : Bool}

theorem fold_fits {n : Nat} (ih : ∀ (t : TypeId) (ks : List Sh) (fuel : Nat) (cs : List Value) (x : DataW H × List MemPlace), shape P n t = some ks → DataW.trod enc P w base (fun _ => true) held fuel t cs = some x → Sh.fits w ks cs)
    {m : Nat} {cs : List Value} : ∀ (fs : List Field) (acc l : List Sh), (∀ f ∈ fs, ∃ y, DataW.trod enc P w base (fun _ => true) held m f.type ((cs.drop f.offset).take (P.cellsOf f.type)) = some y) →
      Sh.fits w acc (cs.take acc.length) →
      fs.foldlM (init := acc) (fun acc f => do
        let ks ← shape P n f.type
        if f.offset = acc.length ∧ P.cellsOf f.type = ks.length then some (acc ++ ks) else none) = some l → Sh.fits w l (cs.take l.length) := by
  intro fs
  induction fs with
  | nil => intro acc l _ h0 h; simp at h; subst h; exact h0
  | cons f fs ihf =>
    intro acc l hf h0 h
    simp only [List.foldlM_cons, Option.bind_eq_bind, Option.bind_eq_some_iff] at h
    obtain ⟨acc', ⟨ks, hk, hif⟩, h⟩ := h
    split at hif
    · rename_i hc
      simp only [Option.some.injEq] at hif
      subst hif
      obtain ⟨y, hy⟩ := hf f (by simp)
      have hF := ih _ _ _ _ _ hk hy
      refine ihf _ _ (fun g hg => hf g (by simp [hg])) ?_ h
      have e : cs.take (acc ++ ks).length = cs.take acc.length ++ (cs.drop acc.length).take ks.length := by
        rw [List.length_append, List.take_add]
      rw [e]
      refine fits_append h0 ?_
      rw [hc.1, hc.2] at hF
      exact hF
    · cases hif

theorem open_shape : ∀ (n : Nat) (t : TypeId) (ks : List Sh) (fuel : Nat) (cs : List Value) (x : DataW H × List MemPlace), shape P n t = some ks → DataW.trod enc P w base (fun _ => true) held fuel t cs = some x → Sh.fits w ks cs := by
  intro n
  induction n with
  | zero => intro t ks fuel cs x h; simp [shape] at h
  | succ n ih =>
    intro t ks fuel cs x h hx
    unfold shape at h
    split at h
    · rename_i ht
      cases h
      obtain ⟨b, rfl, _⟩ := DataW.trod_bool ht hx
      exact ⟨_, [], rfl, ⟨b, rfl⟩, rfl⟩
    · rename_i k ht
      cases h
      obtain ⟨m, rfl, _, hw⟩ := DataW.trod_int ht hx
      exact ⟨_, [], rfl, ⟨m, rfl, hw⟩, rfl⟩
    · rename_i ht
      cases h
      obtain ⟨s, rfl, _, hs⟩ := DataW.trod_string ht hx
      exact ⟨_, [], rfl, ⟨s, rfl, hs⟩, rfl⟩
    · rename_i e ht
      simp only [Option.bind_eq_some_iff] at h
      obtain ⟨l, hl, hif⟩ := h
      split at hif
      · rename_i hc
        cases hif
        rcases open_slice ht hx with ⟨rfl, _⟩ | ⟨a, len, cap, m, n', D, Pl, rfl, _, hlc, hm, hmm, _, hi⟩
        · exact ⟨_, [], rfl, .inl rfl, rfl⟩
        · refine ⟨_, [], rfl, .inr ⟨a, len, cap, rfl, hlc, hm, fun i hic => ?_⟩, rfl⟩
          rw [if_pos rfl] at hmm
          subst hmm
          obtain ⟨cs', hcc, ht'⟩ := hi i hic
          rw [hc] at hcc
          obtain ⟨_, hcl, hat⟩ := World.cells?_some hcc
          refine ⟨cs', hcl, fun j hj => ?_, ih _ _ _ _ _ hl ht'⟩
          rw [← Go.Deep.add_add]
          exact hat j hj
      · cases hif
    · rename_i fs ht
      obtain ⟨xs, m, _, _, hl, hlen, hf⟩ := DataW.trod_struct ht hx
      simp only [Option.bind_eq_bind, Option.bind_eq_some_iff] at h
      obtain ⟨l, hfold, hif⟩ := h
      split at hif
      · rename_i hc
        cases hif
        have hfs : ∀ f ∈ fs.toList, ∃ y, DataW.trod enc P w base (fun _ => true) held m f.type ((cs.drop f.offset).take (P.cellsOf f.type)) = some y := by
          intro f hm
          obtain ⟨i, hi, e⟩ := List.getElem_of_mem hm
          have hi' : i < fs.size := by simpa using hi
          have := hf i f (by simp [Array.getElem?_eq_getElem hi', ← e])
          rw [this]
          exact ⟨xs[i], List.getElem?_eq_getElem (by omega)⟩
        have := fold_fits (ih) fs.toList [] ks hfs (by simp [Sh.fits]) hfold
        rw [List.take_of_length_le (by omega)] at this
        exact this
      · cases hif
    · cases h

/-- What came in: its cells. -/
theorem open_any {t : TypeId} {v : Value} {d : DataW H} {p : List MemPlace} {ks : List Sh} (n : Nat) (hk : shape P n t = some ks) (h : DataW.Trod enc P w base (fun _ => true) held t v d p) : Sh.fits w ks v.cells.toList := by
  obtain ⟨fuel, hf⟩ := h
  exact open_shape n t ks fuel _ _ hk hf
theorem trod_places {t : TypeId} {v : Value} {d : DataW H} {p : List MemPlace} (h : DataW.Trod enc P w base spare held t v d p) : ∀ x ∈ p, x.block < w.heap.size := by
  obtain ⟨m, hm⟩ := h
  exact DataW.trod_lt m _ _ _ hm
end
end Go.Proofs.Ytdcikbhfoplkmaa.Rd
