/- What came in, as the printed words tell it: rows of whole numbers, strings, structs, and rows within them. -/
import Derived.Test.YtdcikbhfoplkmaaRd
import Derived.Test.YtdcikbhfoplkmaaWWords
namespace Go.Proofs.Ytdcikbhfoplkmaa.Rk
open Go Go.RowKit Go.Proofs.YtdcikbhfoplkmaaW.PrintWords Go.Proofs.Ytdcikbhfoplkmaa.Rd
set_option linter.unusedVariables false

/-- Cells of these kinds are told by d, and what is told is good. -/
def Opens {α : Type} (d : Kd α) (ks : List Sh) (g : α → Prop) : Prop := ks.length = d.sz ∧ ∀ (w : World) (cs : List Value), Sh.fits w ks cs → ∃ x : α, d.K w x cs ∧ g x

theorem opens_int (k : IntKind) : Opens (Kd.int k) [.int k] (fun n => (Lit.int k n).wf = true) := ⟨rfl, fun w cs h => by
  simp only [Sh.fits, Sh.fit] at h
  obtain ⟨c, cs', rfl, ⟨n, rfl, hn⟩, rfl⟩ := h
  exact ⟨n, rfl, hn⟩⟩
theorem opens_bool : Opens Kd.bool [.bool] (fun _ => True) := ⟨rfl, fun w cs h => by
  simp only [Sh.fits, Sh.fit] at h
  obtain ⟨c, cs', rfl, ⟨n, rfl⟩, rfl⟩ := h
  exact ⟨n, rfl, trivial⟩⟩
theorem fits_split {w : World} {l1 : List Sh} : ∀ {l2 : List Sh} {cs : List Value}, Sh.fits w (l1 ++ l2) cs → ∃ c1 c2, cs = c1 ++ c2 ∧ Sh.fits w l1 c1 ∧ Sh.fits w l2 c2 := by
  induction l1 with
  | nil => intro l2 cs h; exact ⟨[], cs, rfl, rfl, h⟩
  | cons k ks ih =>
    intro l2 cs h
    simp only [List.cons_append, Sh.fits] at h
    obtain ⟨c, cs', rfl, hc, h'⟩ := h
    obtain ⟨c1, c2, rfl, h1, h2⟩ := ih h'
    refine ⟨c :: c1, c2, rfl, ?_, h2⟩
    simp only [Sh.fits]
    exact ⟨c, c1, rfl, hc, h1⟩
theorem opens_pair {α β : Type} {a : Kd α} {b : Kd β} {l1 l2 : List Sh} {ga : α → Prop} {gb : β → Prop} (ha : Opens a l1 ga) (hb : Opens b l2 gb) : Opens (Kd.pair a b) (l1 ++ l2) (fun x => ga x.1 ∧ gb x.2) :=
  ⟨by rw [List.length_append, ha.1, hb.1]; rfl, fun w cs h => by
    obtain ⟨c1, c2, rfl, h1, h2⟩ := fits_split h
    obtain ⟨x, hx, gx⟩ := ha.2 w _ h1
    obtain ⟨y, hy, gy⟩ := hb.2 w _ h2
    exact ⟨(x, y), ⟨c1, c2, rfl, hx, hy⟩, gx, gy⟩⟩
/-- A row, told. -/
theorem row_of {α : Type} {d : Kd α} {ks : List Sh} {g : α → Prop} (h : Opens d ks g) {w : World} {v : Value} (hv : Sh.fit w (.slice ks) v) :
    ∃ (A : Option Addr) (c : Nat) (xs : List α), v = .slice A xs.length c ∧ xs.length ≤ c ∧ c ≤ maxLen ∧ d.C w A xs.length xs ∧ ∀ x ∈ xs, g x := by
  simp only [Sh.fit] at hv
  rcases hv with rfl | ⟨a, len, cap, rfl, hl, hc, hi⟩
  · exact ⟨none, 0, [], rfl, by simp, by simp, ⟨rfl, by simp, fun h => absurd h (Nat.lt_irrefl 0)⟩, by simp⟩
  · have hx : ∀ i, ∃ x : Option α, i < len → ∃ y, x = some y ∧ g y ∧ ∃ cs : List Value, cs.length = d.sz ∧ d.K w y cs ∧ ∀ j, j < d.sz → w.cell? (a.add (i * d.sz + j)) = cs[j]? := by
      intro i
      by_cases hil : i < len
      · obtain ⟨cs, hcl, hcc, hf⟩ := hi i (by omega)
        obtain ⟨x, hk, hg⟩ := h.2 w cs hf
        exact ⟨some x, fun _ => ⟨x, rfl, hg, cs, by rw [hcl, h.1], hk, by rw [← h.1]; exact hcc⟩⟩
      · exact ⟨none, fun h => absurd h hil⟩
    obtain ⟨f, hf⟩ := Classical.axiomOfChoice hx
    have hs : ∀ i, i < len → ∃ y, f i = some y := fun i hil => ⟨_, (hf i hil).choose_spec.1⟩
    have e : ∃ xs : List α, xs.length = len ∧ ∀ i, i < len → xs[i]? = f i := by
      clear hf hx hi hl
      induction len with
      | zero => exact ⟨[], rfl, fun i hi => absurd hi (Nat.not_lt_zero _)⟩
      | succ n ih =>
        obtain ⟨xs, h1, h2⟩ := ih (fun i hi => hs i (by omega))
        obtain ⟨y, hy⟩ := hs n (by omega)
        refine ⟨xs ++ [y], by simp [h1], fun i hi => ?_⟩
        by_cases hin : i < n
        · rw [List.getElem?_append_left (by omega)]; exact h2 i hin
        · obtain rfl : i = n := by omega
          rw [List.getElem?_append_right (by omega), h1, Nat.sub_self, hy]; rfl
    obtain ⟨xs, rfl, hxs⟩ := e
    refine ⟨some a, cap, xs, rfl, hl, hc, ⟨rfl, by unfold maxLen at hc; omega, fun _ => ⟨a, rfl, fun j p hp => ?_⟩⟩, fun x hx => ?_⟩
    · have hj : j < xs.length := (List.getElem?_eq_some_iff.1 hp).1
      obtain ⟨y, hy, _, cs, hcl, hk, hcc⟩ := hf j hj
      have : y = p := by
        have := (hxs j hj).symm.trans hp
        rw [hy] at this
        exact Option.some.inj this
      subst this
      refine ⟨cs, hcl, hk, fun i u hu => ?_⟩
      have hi' : i < cs.length := (List.getElem?_eq_some_iff.1 hu).1
      rw [hcc i (by omega), hu]
    · obtain ⟨j, hj, rfl⟩ := List.getElem_of_mem hx
      obtain ⟨y, hy, hg, _⟩ := hf j hj
      have := (hxs j hj).symm
      rw [List.getElem?_eq_getElem hj, hy] at this
      rw [← Option.some.inj this]
      exact hg
theorem fits_one {w : World} {k : Sh} {v : Value} (h : Sh.fits w [k] [v]) : Sh.fit w k v := by
  simp only [Sh.fits] at h
  obtain ⟨c, cs', e, h1, rfl⟩ := h
  obtain ⟨rfl, _⟩ := List.cons.inj e
  exact h1

section
variable {H : Type} {enc : TypeId × Value → H} {P : Program} {w : World} {base : Nat} {held : Bool}
/-- A row that came in. -/
theorem open_row {α : Type} {d : Kd α} {ks : List Sh} {g : α → Prop} (ho : Opens d ks g) (n : Nat) {t : TypeId} {a : Option Addr} {len cap : Nat} {dt : DataW H} {p : List MemPlace} (hk : Rd.shape P n t = some [Sh.slice ks])
    (h : DataW.Trod enc P w base (fun _ => true) held t (.slice a len cap) dt p) : ∃ l : List α, len = l.length ∧ d.C w a l.length l ∧ l.length ≤ cap ∧ l.length ≤ maxLen ∧ ∀ x ∈ l, g x := by
  have hf := Rd.open_any n hk h
  obtain ⟨A, c, xs, e, h1, h2, h3, h4⟩ := row_of ho (fits_one (v := .slice a len cap) (by simpa [Value.cells] using hf))
  injection e with e1 e2 e3
  subst e1 e2 e3
  exact ⟨xs, rfl, h3, h1, by omega, h4⟩
end
end Go.Proofs.Ytdcikbhfoplkmaa.Rk
