/- A queue as a block: its two machines, what was put and taken. -/
import Derived.Test.YtdcikbhfoplkmaaSm
import Derived.Test.YtdcikbhfoplkmaaRg
import Derived.Deep.Cut
namespace Go.Proofs.Ytdcikbhfoplkmaa.Ar
open Go Go.RowKit Go.Proofs.Ytdcikbhfoplkmaa.Hp Go.Proofs.Ytdcikbhfoplkmaa.PH
set_option linter.unusedVariables false
set_option linter.unusedSimpArgs false

abbrev pv (o : Option Nat) : Value := .pointer (o.map fun m => ⟨m, 0, none⟩)
/-- The queue's cells. -/
def qCells (p c : Nat) (pu po : Option Nat) (next : Int) (vp vt : Value) (ok : Bool) : Array Value :=
  #[.pointer (some ⟨p, 0, none⟩), .pointer (some ⟨c, 0, none⟩), pv pu, pv po, .int .u64 next, vp, vt, .bool ok]
/-- A queue: cc is the block of the arena's cells. -/
structure IsQ (B : Nat) (w : World) (x p c cc : Nat) (pu po : Option Nat) (next : Int) (put taken : List Int) (ok : Bool) (vp vt : Value) : Prop where
  blk : w.heap[x]? = some (.cells #[.pointer (some ⟨p, 0, none⟩), .pointer (some ⟨c, 0, none⟩), pv pu, pv po, .int .u64 next, vp, vt, .bool ok] 50 (0, 0))
  rp : w.ownsRow B 24 1 vp put.length (put.map (Value.int .u64))
  rt : w.ownsRow B 24 1 vt taken.length (taken.map (Value.int .u64))
  sp : ∀ k, vp.ownBlock = some k → vt.ownBlock ≠ some k ∧ k ≠ cc ∧ k < w.heap.size
  st : ∀ k, vt.ownBlock = some k → k ≠ cc ∧ k < w.heap.size
  bx : B ≤ x
  nx : x ≠ cc

/-- A row's block is of words. -/
theorem row_blk {B n : Nat} {w : World} {v : Value} {xs : List Value} (h : w.ownsRow B 24 1 v n xs) (k : Nat) (hk : v.ownBlock = some k) : (∃ cs, w.heap[k]? = some (.cells cs 24 (0, 0))) ∧ B ≤ k := by
  rcases h.2 with ⟨rfl, _⟩ | ⟨g, cap, cur, rfl, h3, h4, _⟩
  · simp [Value.ownBlock] at hk
  · simp only [Value.ownBlock, Option.some.injEq] at hk
    subst hk
    exact ⟨⟨cur, h4⟩, h3⟩
theorem row_ne {B n m : Nat} {w : World} {v : Value} {xs : List Value} (h : w.ownsRow B 24 1 v n xs) {cs : Array Value} {t : TypeId} {f : Nat × Nat} (hm : w.heap[m]? = some (.cells cs t f)) (ht : 24 ≠ t) (k : Nat) (hk : v.ownBlock = some k) : k ≠ m := by
  obtain ⟨⟨cs', h1⟩, _⟩ := row_blk h k hk
  exact blk_ne h1 hm ht
theorem row_far {B n cc : Nat} {w : World} {v : Value} {xs : List Value} (h : w.ownsRow B 24 1 v n xs) (k : Nat) (hk : v.ownBlock = some k) (hc : k ≠ cc) : ¬ Touch cc w k := by
  obtain ⟨⟨cs', h1⟩, _⟩ := row_blk h k hk
  exact not_touch h1 hc (by decide)
theorem own_fr2 {S : Nat → Prop} {B e size n : Nat} {w w' : World} {v : Value} {xs : List Value} (h : w.ownsRow B e size v n xs) (hf : Fr S w w') (hs : ∀ k, v.ownBlock = some k → ¬ S k) : w'.ownsRow B e size v n xs := by
  refine ⟨h.1, ?_⟩
  rcases h.2 with h2 | ⟨g, cap, cur, rfl, h3, h4, h5⟩
  · exact .inl h2
  · exact .inr ⟨g, cap, cur, rfl, h3, hf.blk h4 (hs g rfl), h5⟩
theorem IsQ.fr {S : Nat → Prop} {B : Nat} {w w' : World} {x p c cc : Nat} {pu po : Option Nat} {next : Int} {put taken : List Int} {ok : Bool} {vp vt : Value} (h : IsQ B w x p c cc pu po next put taken ok vp vt) (hF : Fr S w w') (hx : ¬ S x) (hp : ∀ k, vp.ownBlock = some k → ¬ S k) (ht : ∀ k, vt.ownBlock = some k → ¬ S k) : IsQ B w' x p c cc pu po next put taken ok vp vt :=
  ⟨hF.blk h.blk hx, own_fr2 h.rp hF hp, own_fr2 h.rt hF ht, fun k hk => ⟨(h.sp k hk).1, (h.sp k hk).2.1, Nat.lt_of_lt_of_le (h.sp k hk).2.2 hF.size⟩, fun k hk => ⟨(h.st k hk).1, Nat.lt_of_lt_of_le (h.st k hk).2 hF.size⟩, h.bx, h.nx⟩
theorem IsQ.below {B : Nat} {w w' : World} {x p c cc : Nat} {pu po : Option Nat} {next : Int} {put taken : List Int} {ok : Bool} {vp vt : Value} (h : IsQ B w x p c cc pu po next put taken ok vp vt) (hb : Below w.heap.size w w') : IsQ B w' x p c cc pu po next put taken ok vp vt :=
  h.fr (S := fun _ => False) ⟨hb.os, hb.tape, hb.output, hb.size, fun k hk _ => hb.block k hk⟩ id (fun _ _ => id) (fun _ _ => id)
/-- What a step of a machine (block m) at the arena leaves. -/
theorem IsQ.step {B : Nat} {w w' : World} {x p c cc m : Nat} {pu po : Option Nat} {next : Int} {put taken : List Int} {ok : Bool} {vp vt : Value} {cs : Array Value} {t : TypeId} (h : IsQ B w x p c cc pu po next put taken ok vp vt) (hm : w.heap[m]? = some (.cells cs t (0, 0))) (ht : t ≠ 24 ∧ t ≠ 50) (hF : Fr (fun k => k = m ∨ Touch cc w k) w w') : IsQ B w' x p c cc pu po next put taken ok vp vt :=
  h.fr hF (fun z => by
    rcases z with z | z
    · exact blk_ne h.blk hm (fun e => ht.2 e.symm) z
    · exact not_touch h.blk h.nx (by decide) z)
    (fun k hk z => by
      rcases z with z | z
      · exact row_ne h.rp hm (fun e => ht.1 e.symm) k hk z
      · exact row_far h.rp k hk (h.sp k hk).2.1 z)
    (fun k hk z => by
      rcases z with z | z
      · exact row_ne h.rt hm (fun e => ht.1 e.symm) k hk z
      · exact row_far h.rt k hk (h.st k hk).1 z)
theorem IsQ.touch {B : Nat} {w w' : World} {x p c cc : Nat} {pu po : Option Nat} {next : Int} {put taken : List Int} {ok : Bool} {vp vt : Value} (h : IsQ B w x p c cc pu po next put taken ok vp vt) (hF : Fr (Touch cc w) w w') : IsQ B w' x p c cc pu po next put taken ok vp vt :=
  h.fr hF (not_touch h.blk h.nx (by decide)) (fun k hk => row_far h.rp k hk (h.sp k hk).2.1) (fun k hk => row_far h.rt k hk (h.st k hk).1)
/-- A cell of the queue is stored. -/
theorem IsQ.pop {B : Nat} {w : World} {x p c cc : Nat} {pu po : Option Nat} {next : Int} {put taken : List Int} {ok : Bool} {vp vt : Value} (h : IsQ B w x p c cc pu po next put taken ok vp vt) (o : Option Nat) : IsQ B (w.setCell ⟨x, 3, none⟩ (pv o)) x p c cc pu o next put taken ok vp vt := by
  have hF : Fr (fun k => k = x) w (w.setCell ⟨x, 3, none⟩ (pv o)) := (Fr.refl _ w).setCell _ _ (.inl rfl)
  exact ⟨Hp.blk_set h.blk 3 _, own_fr2 h.rp hF (fun k hk => row_ne h.rp h.blk (by decide) k hk), own_fr2 h.rt hF (fun k hk => row_ne h.rt h.blk (by decide) k hk), fun k hk => ⟨(h.sp k hk).1, (h.sp k hk).2.1, Nat.lt_of_lt_of_le (h.sp k hk).2.2 hF.size⟩, fun k hk => ⟨(h.st k hk).1, Nat.lt_of_lt_of_le (h.st k hk).2 hF.size⟩, h.bx, h.nx⟩
theorem IsQ.push {B : Nat} {w : World} {x p c cc : Nat} {pu po : Option Nat} {next : Int} {put taken : List Int} {ok : Bool} {vp vt : Value} (h : IsQ B w x p c cc pu po next put taken ok vp vt) (o : Option Nat) : IsQ B (w.setCell ⟨x, 2, none⟩ (pv o)) x p c cc o po next put taken ok vp vt := by
  have hF : Fr (fun k => k = x) w (w.setCell ⟨x, 2, none⟩ (pv o)) := (Fr.refl _ w).setCell _ _ (.inl rfl)
  exact ⟨Hp.blk_set h.blk 2 _, own_fr2 h.rp hF (fun k hk => row_ne h.rp h.blk (by decide) k hk), own_fr2 h.rt hF (fun k hk => row_ne h.rt h.blk (by decide) k hk), fun k hk => ⟨(h.sp k hk).1, (h.sp k hk).2.1, Nat.lt_of_lt_of_le (h.sp k hk).2.2 hF.size⟩, fun k hk => ⟨(h.st k hk).1, Nat.lt_of_lt_of_le (h.st k hk).2 hF.size⟩, h.bx, h.nx⟩
theorem IsQ.nxt {B : Nat} {w : World} {x p c cc : Nat} {pu po : Option Nat} {next : Int} {put taken : List Int} {ok : Bool} {vp vt : Value} (h : IsQ B w x p c cc pu po next put taken ok vp vt) (n : Int) : IsQ B (w.setCell ⟨x, 4, none⟩ (.int .u64 n)) x p c cc pu po n put taken ok vp vt := by
  have hF : Fr (fun k => k = x) w (w.setCell ⟨x, 4, none⟩ (.int .u64 n)) := (Fr.refl _ w).setCell _ _ (.inl rfl)
  exact ⟨Hp.blk_set h.blk 4 _, own_fr2 h.rp hF (fun k hk => row_ne h.rp h.blk (by decide) k hk), own_fr2 h.rt hF (fun k hk => row_ne h.rt h.blk (by decide) k hk), fun k hk => ⟨(h.sp k hk).1, (h.sp k hk).2.1, Nat.lt_of_lt_of_le (h.sp k hk).2.2 hF.size⟩, fun k hk => ⟨(h.st k hk).1, Nat.lt_of_lt_of_le (h.st k hk).2 hF.size⟩, h.bx, h.nx⟩
/-- What is taken is appended to, then the slice is stored. -/
theorem IsQ.took {B : Nat} {w w4 : World} {x p c cc : Nat} {pu po : Option Nat} {next : Int} {put taken : List Int} {ok : Bool} {vp vt : Value} (h : IsQ B w x p c cc pu po next put taken ok vp vt) (v : Int) (g cap : Nat)
    (own : w4.ownsRow B 24 1 (.slice (some ⟨g, 0, none⟩) (taken.length + 1) cap) (taken.length + 1) (taken.map (Value.int .u64) ++ [.int .u64 v])) (hF : Fr (fun k => vt.ownBlock = some k) w w4) (hg : vt.ownBlock = some g ∨ w.heap.size ≤ g) (hl : g < w4.heap.size) (hc : cc < w.heap.size) :
    IsQ B (w4.setCell ⟨x, 6, none⟩ (.slice (some ⟨g, 0, none⟩) (taken.length + 1) cap)) x p c cc pu po next put (taken ++ [v]) ok vp (.slice (some ⟨g, 0, none⟩) (taken.length + 1) cap) := by
  have fX := hF.blk h.blk (fun z => row_ne h.rt h.blk (by decide) x z rfl)
  have hF2 : Fr (fun k => k = x) w4 (w4.setCell ⟨x, 6, none⟩ (.slice (some ⟨g, 0, none⟩) (taken.length + 1) cap)) := (Fr.refl _ w4).setCell _ _ (.inl rfl)
  have rp4 := own_fr2 h.rp hF (fun k hk => (h.sp k hk).1)
  refine ⟨Hp.blk_set fX 6 _, own_fr2 rp4 hF2 (fun k hk => row_ne rp4 fX (by decide) k hk), ?_, fun k hk => ⟨?_, (h.sp k hk).2.1, ?_⟩, fun k hk => ?_, h.bx, h.nx⟩
  · have := own_fr2 own hF2 (fun k hk => row_ne own fX (by decide) k hk)
    simpa using this
  · intro e
    simp only [Value.ownBlock, Option.some.injEq] at e
    subst e
    rcases hg with hg | hg
    · exact (h.sp _ hk).1 hg
    · have := (h.sp _ hk).2.2; omega
  · exact Nat.lt_of_lt_of_le (h.sp k hk).2.2 (Nat.le_trans hF.size hF2.size)
  · simp only [Value.ownBlock, Option.some.injEq] at hk
    subst hk
    refine ⟨?_, Nat.lt_of_lt_of_le hl hF2.size⟩
    rcases hg with hg | hg
    · exact (h.st _ hg).1
    · omega
theorem IsQ.gave {B : Nat} {w w4 : World} {x p c cc : Nat} {pu po : Option Nat} {next : Int} {put taken : List Int} {ok : Bool} {vp vt : Value} (h : IsQ B w x p c cc pu po next put taken ok vp vt) (v : Int) (g cap : Nat)
    (own : w4.ownsRow B 24 1 (.slice (some ⟨g, 0, none⟩) (put.length + 1) cap) (put.length + 1) (put.map (Value.int .u64) ++ [.int .u64 v])) (hF : Fr (fun k => vp.ownBlock = some k) w w4) (hg : vp.ownBlock = some g ∨ w.heap.size ≤ g) (hl : g < w4.heap.size) (hc : cc < w.heap.size) :
    IsQ B (w4.setCell ⟨x, 5, none⟩ (.slice (some ⟨g, 0, none⟩) (put.length + 1) cap)) x p c cc pu po next (put ++ [v]) taken ok (.slice (some ⟨g, 0, none⟩) (put.length + 1) cap) vt := by
  have fX := hF.blk h.blk (fun z => row_ne h.rp h.blk (by decide) x z rfl)
  have hF2 : Fr (fun k => k = x) w4 (w4.setCell ⟨x, 5, none⟩ (.slice (some ⟨g, 0, none⟩) (put.length + 1) cap)) := (Fr.refl _ w4).setCell _ _ (.inl rfl)
  have rt4 := own_fr2 h.rt hF (fun k hk z => (h.sp k z).1 hk)
  refine ⟨Hp.blk_set fX 5 _, ?_, own_fr2 rt4 hF2 (fun k hk => row_ne rt4 fX (by decide) k hk), fun k hk => ?_, fun k hk => ⟨(h.st k hk).1, Nat.lt_of_lt_of_le (h.st k hk).2 (Nat.le_trans hF.size hF2.size)⟩, h.bx, h.nx⟩
  · have := own_fr2 own hF2 (fun k hk => row_ne own fX (by decide) k hk)
    simpa using this
  · simp only [Value.ownBlock, Option.some.injEq] at hk
    subst hk
    refine ⟨fun e => ?_, ?_, Nat.lt_of_lt_of_le hl hF2.size⟩
    · rcases hg with hg | hg
      · exact (h.sp _ hg).1 e
      · have := (h.st _ e).2; omega
    · rcases hg with hg | hg
      · exact (h.sp _ hg).2.1
      · omega
end Go.Proofs.Ytdcikbhfoplkmaa.Ar
