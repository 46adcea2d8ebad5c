/- Many shades: their blocks, the row of pointers to them. -/
import Derived.Test.YtcnledehnefldaaOi
namespace Go.Proofs.Ytcnledehnefldaa.Ar
open Go Go.RowKit Go.Proofs.Ytcnledehnefldaa.Hp Go.Proofs.Ytcnledehnefldaa.PH Go.Proofs.Ytcnledehnefldaa.Eo
open Go.Proofs.YtcnledehnefldaaW.PrintWords (Kd)
set_option linter.unusedVariables false
set_option linter.unusedSimpArgs false

theorem infoSh : (Try.prog.info? 36).map (fun i => (i.zero, i.size, i.bytes)) = some (some (.pointer none), 1, 8) := by kernel_rfl
theorem own_touch {B : Nat} {w : World} {e : Nat} {size n : Nat} {lv : Value} {xs : List Value} (hl : w.ownsRow B e size lv n xs) (k : Nat) (hk : lv.ownBlock = some k) : ∃ cs, w.heap[k]? = some (.cells cs e (0, 0)) := by
  rcases hl.2 with ⟨rfl, _⟩ | ⟨g, cap, cur, rfl, _, hg, _⟩
  · simp [Value.ownBlock] at hk
  · simp only [Value.ownBlock, Option.some.injEq] at hk
    subst hk
    exact ⟨cur, hg⟩
theorem own_still {B e n : Nat} {w w' : World} {v : Value} {xs : List Value} (h : w.ownsRow B e 1 v n xs) (hF : Fr (fun _ => False) w w') : w'.ownsRow B e 1 v n xs := own_fr h hF fun _ _ h => h
theorem own_bel {B e n : Nat} {w w' : World} {v : Value} {xs : List Value} (h : w.ownsRow B e 1 v n xs) (hb : Below w.heap.size w w') : w'.ownsRow B e 1 v n xs := own_still h ((Fr.refl _ w).below hb)
theorem own_down {B B' e n : Nat} {w : World} {v : Value} {xs : List Value} (h : w.ownsRow B' e 1 v n xs) (hB : B ≤ B') : w.ownsRow B e 1 v n xs := by
  refine ⟨h.1, ?_⟩
  rcases h.2 with h2 | ⟨g, cap, cur, h1, h3, h4⟩
  · exact .inl h2
  · exact .inr ⟨g, cap, cur, h1, Nat.le_trans hB h3, h4⟩
/-- A row that is no memory of the arena's. -/
theorem row_kept {B c : Nat} {w w' : World} {e n : Nat} {v : Value} {xs : List Value} (hF : Fr (Touch c w) w w') (ho : w.ownsRow B e 1 v n xs) (hc : v.ownBlock ≠ some c) (he : e ≠ 111 ∧ e ≠ 113 ∧ e ≠ 75) : w'.ownsRow B e 1 v n xs :=
  own_fr ho hF fun k hk => by
    obtain ⟨cs, h2⟩ := own_touch ho k hk
    exact not_touch h2 (fun e => hc (by rw [hk, e])) he
theorem ne_cel {B a c : Nat} {w : World} {s : AS} {ps : List (Nat × Int × Bool)} {e n : Nat} {v : Value} {xs : List Value} (h : Sys B w a c s ps) (ho : w.ownsRow B e 1 v n xs) (he : e ≠ 24) : v.ownBlock ≠ some c := fun hk => by
  obtain ⟨cs, h2⟩ := own_touch ho c hk
  exact Hp.blk_ne h2 (sys_cel h) he rfl
theorem fr_app {w w' : World} {X : Obj} {v : Value} (g : (w.alloc X).grownBy w' v.ownBlock) : Fr (fun x => v.ownBlock = some x) w w' := ((Fr.refl _ w).alloc X).grown g (fun k hk => .inl hk)
/-- A row of another type than the arena's is turned. -/
theorem sys_grow {B : Nat} {w w' : World} {a c : Nat} {s : AS} {ps : List (Nat × Int × Bool)} {e n : Nat} {v : Value} {xs : List Value} (h : Sys B w a c s ps) (ho : w.ownsRow B e 1 v n xs) (hF : Fr (fun x => v.ownBlock = some x) w w') (hc : v.ownBlock ≠ some c) (he : e ≠ 111 ∧ e ≠ 113 ∧ e ≠ 75) : Sys B w' a c s ps :=
  h.fr hF fun k hk hs => by
    obtain ⟨cs, h2⟩ := own_touch ho k hs
    exact not_touch h2 (fun e => hc (by rw [hs, e])) he
def ptrs (l : List Nat) : List Value := l.map fun x => .pointer (some ⟨x, 0, none⟩)
theorem ptrs_snoc (l : List Nat) (x : Nat) : ptrs (l ++ [x]) = ptrs l ++ [.pointer (some ⟨x, 0, none⟩)] := by simp [ptrs]
theorem ptr_cell {B e n : Nat} {w : World} {v : Value} {l : List Nat} (h : w.ownsRow B e 1 v n (ptrs l)) (hn : 0 < n) : ∃ g cap, v = .slice (some ⟨g, 0, none⟩) n cap ∧ (∃ cs, w.heap[g]? = some (.cells cs e (0, 0))) ∧ ∀ i x, i < n → l[i]? = some x → w.cell? ⟨g, i, none⟩ = some (.pointer (some ⟨x, 0, none⟩)) := by
  rcases h.2 with ⟨_, h2⟩ | ⟨g, cap, cur, rfl, h3, h4, h5, h6, h7, h8⟩
  · omega
  · refine ⟨g, cap, rfl, ⟨cur, h4⟩, fun i x hi hx => ?_⟩
    have e1 := congrArg (fun l => l[i]?) h8
    simp only [ptrs, List.getElem?_map] at e1
    rw [List.getElem?_take_of_lt (by omega), hx, Array.getElem?_toList] at e1
    simp [World.cell?, h4, e1]
theorem ptr_at {B e n g cap : Nat} {w : World} {l : List Nat} (h : w.ownsRow B e 1 (.slice (some ⟨g, 0, none⟩) n cap) n (ptrs l)) {i x : Nat} (hi : i < n) (hx : l[i]? = some x) : w.cell? ⟨g, i, none⟩ = some (.pointer (some ⟨x, 0, none⟩)) := by
  obtain ⟨g', cap', he, _, hc⟩ := ptr_cell h (by omega)
  injection he with h1 _ _
  injection h1 with h1
  injection h1 with h1 _ _
  subst h1
  exact hc i x hi hx
theorem set_get {α : Type} {l : List α} {i : Nat} {x y : α} (h : l[i]? = some x) : (l.set i y)[i]? = some y := by
  obtain ⟨hi, _⟩ := List.getElem?_eq_some_iff.1 h
  rw [List.getElem?_set_self hi]
theorem row_ints {k : IntKind} {w : World} {A : Option Addr} {n : Nat} {xs : List Int} (h : Kd.C (Kd.int k) w A n xs) (hn : 0 < n) : ∃ ad, A = some ad ∧ ∀ i, i < n → w.cell? (ad.add i) = some (.int k (xs.getD i 0)) := by
  obtain ⟨ad, e, hc⟩ := h.2.2 hn
  refine ⟨ad, e, fun i hi => ?_⟩
  have hl : i < xs.length := by have := h.1; omega
  obtain ⟨c, hs, hr, hcell⟩ := hc i _ (List.getElem?_eq_getElem hl)
  have hr' : c = [.int k xs[i]] := hr
  subst hr'
  have := hcell 0 (.int k xs[i]) rfl
  have e1 : (Kd.int k).sz = 1 := rfl
  rw [e1, Nat.mul_one, Nat.add_zero] at this
  rw [this, List.getD_eq_getElem?_getD, List.getElem?_eq_getElem hl]
  rfl
/-- A row of another type than a shade's blocks and the arena's. -/
theorem row_kept2 {B c m mk pu : Nat} {w w' : World} {x : SS} {e n : Nat} {v : Value} {xs : List Value} (hF : Fr (ShTouch c m mk pu w) w w') (hX : IsShade w m mk pu x) (ho : w.ownsRow B e 1 v n xs) (hc : v.ownBlock ≠ some c)
    (he : (e ≠ 111 ∧ e ≠ 113 ∧ e ≠ 75) ∧ e ≠ 98 ∧ e ≠ 95 ∧ e ≠ 131) : w'.ownsRow B e 1 v n xs :=
  own_fr ho hF fun k hk hz => by
    obtain ⟨cs, h2⟩ := own_touch ho k hk
    rcases hz with e1 | e1 | e1 | e1
    · exact blk_ne h2 hX.blk he.2.1 e1
    · exact blk_ne h2 hX.mrk he.2.2.1 e1
    · exact blk_ne h2 hX.psh he.2.2.2 e1
    · exact not_touch h2 (fun e => hc (by rw [hk, e])) he.1 e1
/-- A block of another type than a shade's and the arena's. -/
theorem box_free {B c a m mk pu k : Nat} {w : World} {s : AS} {ps : List (Nat × Int × Bool)} {x : SS} {cs : Array Value} {t : TypeId} {f : Nat × Nat} (hX : IsShade w m mk pu x) (hs : Sys B w a c s ps) (h : w.heap[k]? = some (.cells cs t f))
    (he : (t ≠ 111 ∧ t ≠ 113 ∧ t ≠ 75) ∧ t ≠ 98 ∧ t ≠ 95 ∧ t ≠ 131 ∧ t ≠ 24) : ¬ ShTouch c m mk pu w k := by
  rintro (e1 | e1 | e1 | e1)
  · exact blk_ne h hX.blk he.2.1 e1
  · exact blk_ne h hX.mrk he.2.2.1 e1
  · exact blk_ne h hX.psh he.2.2.2.1 e1
  · exact not_touch h (blk_ne h (sys_cel hs) he.2.2.2.2) he.1 e1

structure Shs (B : Nat) (w : World) (ls : List (Nat × Nat × Nat)) (xs : List SS) : Prop where
  len : ls.length = xs.length
  sh : ∀ (i : Nat) m mk pu x, ls[i]? = some (m, mk, pu) → xs[i]? = some x → IsShade w m mk pu x ∧ B ≤ m ∧ B ≤ mk ∧ B ≤ pu
  dj : ∀ (i j : Nat) l1 l2, i ≠ j → ls[i]? = some l1 → ls[j]? = some l2 → ∀ k, (k = l1.1 ∨ k = l1.2.1 ∨ k = l1.2.2) → k ≠ l2.1 ∧ k ≠ l2.2.1 ∧ k ≠ l2.2.2
theorem Shs.nil (B : Nat) (w : World) : Shs B w [] [] := ⟨rfl, fun i m mk pu x h => by simp at h, fun i j l1 l2 _ h => by simp at h⟩
theorem Shs.below {B : Nat} {w w' : World} {ls : List (Nat × Nat × Nat)} {xs : List SS} (h : Shs B w ls xs) (hb : Below w.heap.size w w') : Shs B w' ls xs :=
  ⟨h.len, fun i m mk pu x h1 h2 => ⟨(h.sh i m mk pu x h1 h2).1.below hb, (h.sh i m mk pu x h1 h2).2⟩, h.dj⟩
theorem Shs.get {B : Nat} {w : World} {ls : List (Nat × Nat × Nat)} {xs : List SS} (h : Shs B w ls xs) {i : Nat} (hi : i < xs.length) : ∃ m mk pu x, ls[i]? = some (m, mk, pu) ∧ xs[i]? = some x ∧ IsShade w m mk pu x ∧ B ≤ m ∧ B ≤ mk ∧ B ≤ pu := by
  have hl : i < ls.length := by rw [h.len]; exact hi
  obtain ⟨⟨m, mk, pu⟩, e1⟩ : ∃ l, ls[i]? = some l := ⟨_, List.getElem?_eq_getElem hl⟩
  obtain ⟨x, e2⟩ : ∃ x, xs[i]? = some x := ⟨_, List.getElem?_eq_getElem hi⟩
  exact ⟨m, mk, pu, x, e1, e2, h.sh i m mk pu x e1 e2⟩
theorem Shs.touched {B B' : Nat} {w w' : World} {a c : Nat} {s : AS} {ps : List (Nat × Int × Bool)} {ls : List (Nat × Nat × Nat)} {xs : List SS} (h : Shs B w ls xs) (hs : Sys B' w a c s ps) (hF : Fr (Touch c w) w w') : Shs B w' ls xs :=
  ⟨h.len, fun i m mk pu x h1 h2 => by
    obtain ⟨hX, hB⟩ := h.sh i m mk pu x h1 h2
    have hf := hX.free hs
    exact ⟨hX.fr hF hf.1 hf.2.1 hf.2.2, hB⟩, h.dj⟩
theorem Shs.step {B B' : Nat} {w w' : World} {a c m mk pu i : Nat} {s : AS} {ps : List (Nat × Int × Bool)} {ls : List (Nat × Nat × Nat)} {xs : List SS} {y : SS} (h : Shs B w ls xs) (hs : Sys B' w a c s ps) (hi : ls[i]? = some (m, mk, pu)) (hF : Fr (ShTouch c m mk pu w) w w') (hY : IsShade w' m mk pu y) : Shs B w' ls (xs.set i y) := by
  have hli : i < xs.length := by rw [← h.len]; exact (List.getElem?_eq_some_iff.1 hi).1
  refine ⟨by rw [List.length_set]; exact h.len, fun j m' mk' pu' x' h1 h2 => ?_, h.dj⟩
  by_cases e : j = i
  · subst e
    rw [hi] at h1
    obtain ⟨rfl, rfl, rfl⟩ : m = m' ∧ mk = mk' ∧ pu = pu' := by simpa using h1
    rw [List.getElem?_set_self hli] at h2
    obtain rfl := Option.some.inj h2
    obtain ⟨x, hx⟩ : ∃ x, xs[j]? = some x := ⟨_, List.getElem?_eq_getElem hli⟩
    exact ⟨hY, (h.sh j m mk pu x hi hx).2⟩
  · rw [List.getElem?_set_ne (fun z => e z.symm)] at h2
    obtain ⟨hX, hB⟩ := h.sh j m' mk' pu' x' h1 h2
    exact ⟨hX.other hs hF (h.dj j i _ _ e h1 hi), hB⟩
theorem Shs.snoc {B : Nat} {w w' : World} {m mk pu : Nat} {ls : List (Nat × Nat × Nat)} {xs : List SS} {y : SS} (h : Shs B w ls xs) (hb : Below w.heap.size w w') (hB : B ≤ w.heap.size) (hY : IsShade w' m mk pu y) (hlt : w.heap.size ≤ m ∧ w.heap.size ≤ mk ∧ w.heap.size ≤ pu) : Shs B w' (ls ++ [(m, mk, pu)]) (xs ++ [y]) := by
  have lt : ∀ (j : Nat) l, ls[j]? = some l → l.1 < w.heap.size ∧ l.2.1 < w.heap.size ∧ l.2.2 < w.heap.size := fun j l hj => by
    have hl : j < xs.length := by rw [← h.len]; exact (List.getElem?_eq_some_iff.1 hj).1
    obtain ⟨x, hx⟩ : ∃ x, xs[j]? = some x := ⟨_, List.getElem?_eq_getElem hl⟩
    exact sh_lt (h.sh j l.1 l.2.1 l.2.2 x hj hx).1
  refine ⟨by simp [h.len], fun i m' mk' pu' x' h1 h2 => ?_, fun i j l1 l2 hij h1 h2 k hk => ?_⟩
  · by_cases e : i < ls.length
    · rw [List.getElem?_append_left e] at h1
      rw [List.getElem?_append_left (by rw [← h.len]; exact e)] at h2
      exact ⟨(h.sh i _ _ _ _ h1 h2).1.below hb, (h.sh i _ _ _ _ h1 h2).2⟩
    · have hi : i = ls.length := by
        have := (List.getElem?_eq_some_iff.1 h1).1
        simp at this; omega
      subst hi
      rw [List.getElem?_append_right (Nat.le_refl _), Nat.sub_self] at h1
      rw [h.len, List.getElem?_append_right (Nat.le_refl _), Nat.sub_self] at h2
      obtain ⟨rfl, rfl, rfl⟩ : m = m' ∧ mk = mk' ∧ pu = pu' := by simpa using h1
      obtain rfl : y = x' := by simpa using h2
      exact ⟨hY, by omega, by omega, by omega⟩
  · have key : ∀ (i : Nat) l, (ls ++ [(m, mk, pu)])[i]? = some l → (i < ls.length ∧ ls[i]? = some l) ∨ (i = ls.length ∧ l = (m, mk, pu)) := fun i l hl => by
      by_cases e : i < ls.length
      · rw [List.getElem?_append_left e] at hl; exact .inl ⟨e, hl⟩
      · have hi : i = ls.length := by
          have := (List.getElem?_eq_some_iff.1 hl).1
          simp at this; omega
        subst hi
        rw [List.getElem?_append_right (Nat.le_refl _), Nat.sub_self] at hl
        exact .inr ⟨rfl, by simpa using hl.symm⟩
    rcases key i l1 h1 with ⟨a1, a2⟩ | ⟨a1, rfl⟩ <;> rcases key j l2 h2 with ⟨b1, b2⟩ | ⟨b1, rfl⟩
    · exact h.dj i j l1 l2 hij a2 b2 k hk
    · obtain ⟨t1, t2, t3⟩ := lt i l1 a2
      simp only
      rcases hk with rfl | rfl | rfl <;> (refine ⟨?_, ?_, ?_⟩ <;> omega)
    · obtain ⟨t1, t2, t3⟩ := lt j l2 b2
      simp only at hk
      rcases hk with rfl | rfl | rfl <;> (refine ⟨?_, ?_, ?_⟩ <;> omega)
    · omega
end Go.Proofs.Ytcnledehnefldaa.Ar
