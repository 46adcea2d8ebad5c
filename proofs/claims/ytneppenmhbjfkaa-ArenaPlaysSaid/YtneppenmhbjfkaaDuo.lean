/- The program's arena and the chapter's, side by side. -/
import Derived.Test.YtneppenmhbjfkaaMo
namespace Go.Proofs.Ytneppenmhbjfkaa.Ar
open Go Go.RowKit Go.Proofs.Ytneppenmhbjfkaa.Hp
set_option linter.unusedVariables false
set_option linter.unusedSimpArgs false

/-- A block that a call on one of the two may turn. -/
def TouchD (c c2 : Nat) (w : World) (k : Nat) : Prop := k = c ∨ k = c2 ∨ ∃ cs t f, w.heap[k]? = some (.cells cs t f) ∧ (t = 70 ∨ t = 72 ∨ t = 76 ∨ t = 56 ∨ t = 62)

theorem not_touchD {c c2 k : Nat} {w : World} {cs : Array Value} {t : TypeId} {f : Nat × Nat} (h : w.heap[k]? = some (.cells cs t f)) (hc : k ≠ c ∧ k ≠ c2) (ht : t ≠ 70 ∧ t ≠ 72 ∧ t ≠ 76 ∧ t ≠ 56 ∧ t ≠ 62) : ¬ TouchD c c2 w k := by
  rintro (e | e | ⟨cs', t', f', h', h2⟩)
  · exact hc.1 e
  · exact hc.2 e
  · rw [h] at h'
    injection h' with h'
    injection h' with _ h' _
    subst h'
    rcases h2 with e | e | e | e | e
    · exact ht.1 e
    · exact ht.2.1 e
    · exact ht.2.2.1 e
    · exact ht.2.2.2.1 e
    · exact ht.2.2.2.2 e

structure Duo (B : Nat) (w : World) (a c : Nat) (s : AS) (ps : List (Nat × Int × Bool)) (m c2 : Nat) (t : AS) (qs : List (Nat × Int × Bool)) : Prop where
  both : ∃ lv lv2, IsA B w a c lv s ∧ IsM B w m c2 lv2 t ∧ ∀ k, lv.ownBlock = some k → lv2.ownBlock ≠ some k
  cc : c ≠ c2
  base : B ≤ w.heap.size ∧ B ≤ a ∧ B ≤ c ∧ B ≤ m ∧ B ≤ c2
  pt : ∀ x ∈ ps, IsP w x.1 a x.2.1 x.2.2 ∧ B ≤ x.1
  nd : (ps.map (·.1)).Nodup
  qt : ∀ x ∈ qs, IsQ w x.1 x.2.1 x.2.2 ∧ B ≤ x.1
  qd : (qs.map (·.1)).Nodup

structure DidD (B : Nat) (w w' : World) (a c : Nat) (s : AS) (ps : List (Nat × Int × Bool)) (m c2 : Nat) (t : AS) (qs : List (Nat × Int × Bool)) : Prop where
  duo : Duo B w' a c s ps m c2 t qs
  bel : Below B w w'
  fr : Fr (TouchD c c2 w) w w'

section
variable {B : Nat} {w w' : World} {a c m c2 : Nat} {s s' t t' : AS} {ps qs : List (Nat × Int × Bool)}

theorem Duo.sys (h : Duo B w a c s ps m c2 t qs) : Sys B w a c s ps := by
  obtain ⟨lv, lv2, hA, hM, hd⟩ := h.both
  exact ⟨⟨lv, hA⟩, ⟨h.base.1, h.base.2.1, h.base.2.2.1⟩, h.pt, h.nd⟩
theorem own_touch {e : Nat} {size n : Nat} {lv : Value} {xs : List Value} (hl : w.ownsRow B e size lv n xs) (k : Nat) (hk : lv.ownBlock = some k) : ∃ cs, w.heap[k]? = some (.cells cs e (0, 0)) := by
  rcases hl.2 with ⟨rfl, _⟩ | ⟨g, cap, cur, rfl, _, hg, _⟩
  · simp [Value.ownBlock] at hk
  · simp only [Value.ownBlock, Option.some.injEq] at hk
    subst hk
    exact ⟨cur, hg⟩

/-- What turns none of their blocks leaves them as they are. -/
theorem Duo.fr {S : Nat → Prop} (h : Duo B w a c s ps m c2 t qs) (hF : Fr S w w') (hS : ∀ k, k < w.heap.size → S k → ¬ TouchD c c2 w k) : Duo B w' a c s ps m c2 t qs := by
  obtain ⟨⟨lv, lv2, hA, hM, hd⟩, hcc, hb, hp, hn, hq, hqn⟩ := h
  refine ⟨⟨lv, lv2, hA.fr hF ?_ ?_ ?_, hM.fr hF ?_ ?_ ?_, hd⟩, hcc, ⟨Nat.le_trans hb.1 hF.size, hb.2⟩, fun x hx => ⟨(hp x hx).1.fr hF ?_, (hp x hx).2⟩, hn, fun x hx => ⟨(hq x hx).1.fr hF ?_, (hq x hx).2⟩, hqn⟩
  · exact fun z => hS a (blk_lt hA.blk) z (.inr (.inr ⟨_, _, _, hA.blk, .inl rfl⟩))
  · exact fun z => hS c (blk_lt hA.cel) z (.inl rfl)
  · intro k hk z
    obtain ⟨cs, hc⟩ := own_touch hA.log k hk
    exact hS k (blk_lt hc) z (.inr (.inr ⟨_, _, _, hc, .inr (.inr (.inl rfl))⟩))
  · exact fun z => hS m (blk_lt hM.blk) z (.inr (.inr ⟨_, _, _, hM.blk, .inr (.inr (.inr (.inl rfl)))⟩))
  · exact fun z => hS c2 (blk_lt hM.cel) z (.inr (.inl rfl))
  · intro k hk z
    obtain ⟨cs, hc⟩ := own_touch hM.log k hk
    exact hS k (blk_lt hc) z (.inr (.inr ⟨_, _, _, hc, .inr (.inr (.inl rfl))⟩))
  · exact fun z => hS x.1 (blk_lt (hp x hx).1) z (.inr (.inr ⟨_, _, _, (hp x hx).1, .inr (.inl rfl)⟩))
  · exact fun z => hS x.1 (blk_lt (hq x hx).1) z (.inr (.inr ⟨_, _, _, (hq x hx).1, .inr (.inr (.inr (.inr rfl)))⟩))
theorem Duo.still (h : Duo B w a c s ps m c2 t qs) (hF : Fr (fun _ => False) w w') : Duo B w' a c s ps m c2 t qs := h.fr hF (fun _ _ => False.elim)
theorem Duo.alloc (h : Duo B w a c s ps m c2 t qs) (o : Obj) : Duo B (w.alloc o) a c s ps m c2 t qs := h.still ((Fr.refl _ w).alloc o)
theorem Duo.drewN (h : Duo B w a c s ps m c2 t qs) (n : Nat) : Duo B (w.drewN n) a c s ps m c2 t qs := h.still ((Fr.refl _ w).drewN n)
theorem Duo.drew (h : Duo B w a c s ps m c2 t qs) : Duo B w.drew a c s ps m c2 t qs := h.still ((Fr.refl _ w).drew)
theorem Duo.below (h : Duo B w a c s ps m c2 t qs) (hb : Below w.heap.size w w') : Duo B w' a c s ps m c2 t qs :=
  h.still ⟨hb.os, hb.tape, hb.output, hb.size, fun k hk _ => hb.block k hk⟩
theorem Duo.other {k : Nat} (h : Duo B w a c s ps m c2 t qs) (hk : ¬ TouchD c c2 w k) (j : Nat) (u : Value) : Duo B (w.setCell ⟨k, j, none⟩ u) a c s ps m c2 t qs :=
  h.fr (S := fun i => i = k) ((Fr.refl _ w).setCell _ _ (.inl rfl)) (fun i _ e => by subst e; exact hk)

/-- A call on the program's arena. -/
theorem Duo.actA {lv lv2 lv' : Value} {S : Nat → Prop} {ps' : List (Nat × Int × Bool)} (h : Duo B w a c s ps m c2 t qs) (hA : IsA B w a c lv s) (hM : IsM B w m c2 lv2 t) (hd : ∀ k, lv.ownBlock = some k → lv2.ownBlock ≠ some k)
    (hS : Sys B w' a c s' ps') (hA' : IsA B w' a c lv' s') (hF : Fr S w w') (hSS : ∀ k, S k → k = a ∨ k ∈ ps.map (·.1) ∨ k = c ∨ lv.ownBlock = some k) (hl : lv'.ownBlock = lv.ownBlock ∨ ∀ k, lv'.ownBlock = some k → w.heap.size ≤ k) (hbel : Below B w w') :
    DidD B w w' a c s' ps' m c2 t qs := by
  have am : a ≠ m := blk_ne hA.blk hM.blk (by decide)
  have ac2 : a ≠ c2 := blk_ne hA.blk hM.cel (by decide)
  have mc : m ≠ c := blk_ne hM.blk hA.cel (by decide)
  have hpb : ∀ k, k ∈ ps.map (·.1) → ∃ cs, w.heap[k]? = some (.cells cs 72 (0, 0)) := by
    intro k hk
    obtain ⟨x, hx, rfl⟩ := List.mem_map.1 hk
    exact ⟨_, (h.pt x hx).1⟩
  have n1 : ∀ {k cs e}, w.heap[k]? = some (.cells cs e (0, 0)) → k ≠ c → e ≠ 70 → e ≠ 72 → e ≠ 76 → ¬ S k := by
    intro k cs e hk h1 h2 h3 h4 z
    rcases hSS k z with r | r | r | r
    · exact (blk_ne hk hA.blk h2) r
    · obtain ⟨cs', hc'⟩ := hpb k r
      exact (blk_ne hk hc' h3) rfl
    · exact h1 r
    · obtain ⟨cs', hc'⟩ := own_touch hA.log k r
      exact (blk_ne hk hc' h4) rfl
  refine ⟨⟨⟨lv', lv2, hA', hM.fr hF (n1 hM.blk mc (by decide) (by decide) (by decide)) (n1 hM.cel (Ne.symm h.cc) (by decide) (by decide) (by decide)) ?_, ?_⟩, h.cc, ⟨hS.base.1, h.base.2⟩, hS.pt, hS.nd, fun x hx => ⟨(h.qt x hx).1.fr hF (n1 (h.qt x hx).1 ?_ (by decide) (by decide) (by decide)), (h.qt x hx).2⟩, h.qd⟩, hbel, hF.mono fun k hk z => ?_⟩
  · intro k hk z
    obtain ⟨cs, hc⟩ := own_touch hM.log k hk
    rcases hSS k z with r | r | r | r
    · exact (blk_ne hc hA.blk (by decide)) r
    · obtain ⟨cs', hc'⟩ := hpb k r
      exact (blk_ne hc hc' (by decide)) rfl
    · exact (blk_ne hc hA.cel (by decide)) r
    · exact hd k r hk
  · intro k hk hk2
    rcases hl with e | e
    · rw [e] at hk
      exact hd k hk hk2
    · have := e k hk
      obtain ⟨cs, hc⟩ := own_touch hM.log k hk2
      have := blk_lt hc
      omega
  · exact blk_ne (h.qt x hx).1 hA.cel (by decide)
  · rcases hSS k z with r | r | r | r
    · subst r; exact .inr (.inr ⟨_, _, _, hA.blk, .inl rfl⟩)
    · obtain ⟨cs', hc'⟩ := hpb k r
      exact .inr (.inr ⟨_, _, _, hc', .inr (.inl rfl)⟩)
    · exact .inl r
    · obtain ⟨cs', hc'⟩ := own_touch hA.log k r
      exact .inr (.inr ⟨_, _, _, hc', .inr (.inr (.inl rfl))⟩)

theorem Duo.did {lv lv2 : Value} {p : Nat} {who : Int} {g : Bool} {i : Nat} (h : Duo B w a c s ps m c2 t qs) (hA : IsA B w a c lv s) (hM : IsM B w m c2 lv2 t) (hd : ∀ k, lv.ownBlock = some k → lv2.ownBlock ≠ some k) (hi : ps[i]? = some (p, who, g)) (hw : Post B w w' p a c who lv s') :
    DidD B w w' a c s' (ps.set i (p, who, false)) m c2 t qs := by
  have hD := h.sys.did hA hi hw
  obtain ⟨lv', hA', hP', hF, hl⟩ := hw
  refine h.actA hA hM hd hD.sys hA' hF (fun k z => ?_) hl hD.bel
  rcases z with r | r | r | r
  · exact .inl r
  · exact .inr (.inl (List.mem_map.2 ⟨_, List.mem_of_getElem? hi, r.symm⟩))
  · exact .inr (.inr (.inl r))
  · exact .inr (.inr (.inr r))

theorem Duo.load {p : Nat} {who : Int} {g : Bool} (h : Duo B w a c s ps m c2 t qs) (i : Nat) (at_ : Int) (hi : ps[i]? = some (p, who, g)) (hl : s.log.length ≤ 1000000) :
    Calls Try.prog 16 #[.pointer (some ⟨p, 0, none⟩), .int .i64 at_] w fun e w' => e = .returned (.int .u64 (s.acc g who 1 at_ 0 0).2) ∧ DidD B w w' a c (s.acc g who 1 at_ 0 0).1 (ps.set i (p, who, false)) m c2 t qs := by
  obtain ⟨lv, lv2, hA, hM, hd⟩ := h.both
  exact (mLoad B w p a c lv s who at_ g hA (h.pt _ (List.mem_of_getElem? hi)).1 h.base.1 hl).mono fun e w' hw => ⟨hw.1, h.did hA hM hd hi hw.2⟩
theorem Duo.store {p : Nat} {who : Int} {g : Bool} (h : Duo B w a c s ps m c2 t qs) (i : Nat) (at_ v : Int) (hi : ps[i]? = some (p, who, g)) (hl : s.log.length ≤ 1000000) :
    Calls Try.prog 19 #[.pointer (some ⟨p, 0, none⟩), .int .i64 at_, .int .u64 v] w fun e w' => e = .returned (.tuple #[]) ∧ DidD B w w' a c (s.acc g who 2 at_ 0 v).1 (ps.set i (p, who, false)) m c2 t qs := by
  obtain ⟨lv, lv2, hA, hM, hd⟩ := h.both
  exact (mStore B w p a c lv s who at_ v g hA (h.pt _ (List.mem_of_getElem? hi)).1 h.base.1 hl).mono fun e w' hw => ⟨hw.1, h.did hA hM hd hi hw.2⟩
theorem Duo.swap {p : Nat} {who : Int} {g : Bool} (h : Duo B w a c s ps m c2 t qs) (i : Nat) (at_ v : Int) (hi : ps[i]? = some (p, who, g)) (hl : s.log.length ≤ 1000000) :
    Calls Try.prog 14 #[.pointer (some ⟨p, 0, none⟩), .int .i64 at_, .int .u64 v] w fun e w' => e = .returned (.int .u64 (s.acc g who 3 at_ 0 v).2) ∧ DidD B w w' a c (s.acc g who 3 at_ 0 v).1 (ps.set i (p, who, false)) m c2 t qs := by
  obtain ⟨lv, lv2, hA, hM, hd⟩ := h.both
  exact (mSwap B w p a c lv s who at_ v g hA (h.pt _ (List.mem_of_getElem? hi)).1 h.base.1 hl).mono fun e w' hw => ⟨hw.1, h.did hA hM hd hi hw.2⟩
theorem Duo.cas {p : Nat} {who : Int} {g : Bool} (h : Duo B w a c s ps m c2 t qs) (i : Nat) (at_ want v : Int) (hi : ps[i]? = some (p, who, g)) (hl : s.log.length ≤ 1000000) :
    Calls Try.prog 20 #[.pointer (some ⟨p, 0, none⟩), .int .i64 at_, .int .u64 want, .int .u64 v] w fun e w' => e = .returned (.bool (decide (g = true ∧ s.has at_ = true) && decide (s.cells.getD at_.toNat 0 = want))) ∧ DidD B w w' a c (s.acc g who 4 at_ want v).1 (ps.set i (p, who, false)) m c2 t qs := by
  obtain ⟨lv, lv2, hA, hM, hd⟩ := h.both
  exact (mCas B w p a c lv s who at_ want v g hA (h.pt _ (List.mem_of_getElem? hi)).1 h.base.1 hl).mono fun e w' hw => ⟨hw.1, h.did hA hM hd hi hw.2⟩
/-- Cas leaves the chapter's block as it is. -/
theorem Duo.casM {p : Nat} {who : Int} {g : Bool} (h : Duo B w a c s ps m c2 t qs) (i : Nat) (at_ want v : Int) (hi : ps[i]? = some (p, who, g)) (hl : s.log.length ≤ 1000000) :
    Calls Try.prog 20 #[.pointer (some ⟨p, 0, none⟩), .int .i64 at_, .int .u64 want, .int .u64 v] w fun e w' => e = .returned (.bool (decide (g = true ∧ s.has at_ = true) && decide (s.cells.getD at_.toNat 0 = want))) ∧ DidD B w w' a c (s.acc g who 4 at_ want v).1 (ps.set i (p, who, false)) m c2 t qs ∧ w'.heap[m]? = w.heap[m]? := by
  obtain ⟨lv, lv2, hA, hM, hd⟩ := h.both
  refine (mCas B w p a c lv s who at_ want v g hA (h.pt _ (List.mem_of_getElem? hi)).1 h.base.1 hl).mono fun e w' hw => ⟨hw.1, h.did hA hM hd hi hw.2, ?_⟩
  obtain ⟨lv', _, _, hF, _⟩ := hw.2
  have hP := (h.pt _ (List.mem_of_getElem? hi)).1
  refine hF.block m (blk_lt hM.blk) ?_
  rintro (e | e | e | e)
  · exact (blk_ne hM.blk hA.blk (by decide)) e
  · exact (blk_ne hM.blk hP (by decide)) e
  · exact (blk_ne hM.blk hA.cel (by decide)) e
  · obtain ⟨cs, hc⟩ := own_touch hA.log m e
    exact (blk_ne hM.blk hc (by decide)) rfl
theorem Duo.or_ {p : Nat} {who : Int} {g : Bool} (h : Duo B w a c s ps m c2 t qs) (i : Nat) (at_ v : Int) (hi : ps[i]? = some (p, who, g)) (hl : s.log.length ≤ 1000000) :
    Calls Try.prog 21 #[.pointer (some ⟨p, 0, none⟩), .int .i64 at_, .int .u64 v] w fun e w' => e = .returned (.int .u64 (s.acc g who 5 at_ 0 v).2) ∧ DidD B w w' a c (s.acc g who 5 at_ 0 v).1 (ps.set i (p, who, false)) m c2 t qs := by
  obtain ⟨lv, lv2, hA, hM, hd⟩ := h.both
  exact (mOr B w p a c lv s who at_ v g hA (h.pt _ (List.mem_of_getElem? hi)).1 h.base.1 hl).mono fun e w' hw => ⟨hw.1, h.did hA hM hd hi hw.2⟩
theorem Duo.and_ {p : Nat} {who : Int} {g : Bool} (h : Duo B w a c s ps m c2 t qs) (i : Nat) (at_ v : Int) (hi : ps[i]? = some (p, who, g)) (hl : s.log.length ≤ 1000000) :
    Calls Try.prog 22 #[.pointer (some ⟨p, 0, none⟩), .int .i64 at_, .int .u64 v] w fun e w' => e = .returned (.int .u64 (s.acc g who 6 at_ 0 v).2) ∧ DidD B w w' a c (s.acc g who 6 at_ 0 v).1 (ps.set i (p, who, false)) m c2 t qs := by
  obtain ⟨lv, lv2, hA, hM, hd⟩ := h.both
  exact (mAnd B w p a c lv s who at_ v g hA (h.pt _ (List.mem_of_getElem? hi)).1 h.base.1 hl).mono fun e w' hw => ⟨hw.1, h.did hA hM hd hi hw.2⟩
theorem Duo.grant {p : Nat} {who : Int} {g : Bool} (h : Duo B w a c s ps m c2 t qs) (i : Nat) (hi : ps[i]? = some (p, who, g)) :
    Calls Try.prog 13 #[.pointer (some ⟨p, 0, none⟩)] w fun e w' => e = .returned (.tuple #[]) ∧ DidD B w w' a c s (ps.set i (p, who, true)) m c2 t qs := by
  obtain ⟨lv, lv2, hA, hM, hd⟩ := h.both
  refine (Ar.grant w p a who g (h.pt _ (List.mem_of_getElem? hi)).1).mono fun e w' hw => ⟨hw.1, ?_⟩
  have hD := h.sys.granted hi hw.2.1 hw.2.2
  have hPp := (h.pt _ (List.mem_of_getElem? hi)).1
  refine h.actA hA hM hd hD.sys (hA.fr hw.2.2 (hA.ap hPp) (hA.cp hPp) (fun k hk e => hA.lp hPp (hk.trans (congrArg some e)))) hw.2.2 (fun k z => .inr (.inl (List.mem_map.2 ⟨_, List.mem_of_getElem? hi, z.symm⟩))) (.inl rfl) hD.bel
theorem Duo.poke (h : Duo B w a c s ps m c2 t qs) (at_ v : Int) (hh : s.has at_ = true) :
    Calls Try.prog 11 #[.pointer (some ⟨a, 0, none⟩), .int .i64 at_, .int .u64 v] w fun e w' => e = .returned (.int .i64 0) ∧ DidD B w w' a c (s.poked at_ v) ps m c2 t qs := by
  obtain ⟨lv, lv2, hA, hM, hd⟩ := h.both
  refine (mPoke B w a c lv s at_ v hA hh).mono fun e w' hw => ⟨hw.1, ?_⟩
  refine h.actA hA hM hd ⟨⟨lv, hw.2.1⟩, ⟨Nat.le_trans h.base.1 hw.2.2.size, h.base.2.1, h.base.2.2.1⟩, fun x hx => ⟨(h.pt x hx).1.fr hw.2.2 (fun e => hA.cp (h.pt x hx).1 e.symm), (h.pt x hx).2⟩, h.nd⟩ hw.2.1 hw.2.2 (fun k z => .inr (.inr (.inl z))) (.inl rfl) ⟨hw.2.2.os, hw.2.2.tape, hw.2.2.output, hw.2.2.size, fun k hk => hw.2.2.block k (by have := h.base.1; omega) (fun e => by have := h.base.2.2.1; omega)⟩

/-- A call on the chapter's. -/
theorem Duo.actM {lv lv2 lv' : Value} {S : Nat → Prop} {qs' : List (Nat × Int × Bool)} (h : Duo B w a c s ps m c2 t qs) (hA : IsA B w a c lv s) (hM : IsM B w m c2 lv2 t) (hd : ∀ k, lv.ownBlock = some k → lv2.ownBlock ≠ some k)
    (hq' : ∀ x ∈ qs', IsQ w' x.1 x.2.1 x.2.2 ∧ B ≤ x.1) (hqd' : (qs'.map (·.1)).Nodup) (hM' : IsM B w' m c2 lv' t') (hF : Fr S w w') (hSS : ∀ k, S k → k = m ∨ k ∈ qs.map (·.1) ∨ k = c2 ∨ lv2.ownBlock = some k) (hl : lv'.ownBlock = lv2.ownBlock ∨ ∀ k, lv'.ownBlock = some k → w.heap.size ≤ k) :
    DidD B w w' a c s ps m c2 t' qs' := by
  have hqb : ∀ k, k ∈ qs.map (·.1) → B ≤ k ∧ ∃ cs, w.heap[k]? = some (.cells cs 62 (0, 0)) := by
    intro k hk
    obtain ⟨x, hx, rfl⟩ := List.mem_map.1 hk
    exact ⟨(h.qt x hx).2, _, (h.qt x hx).1⟩
  have n1 : ∀ {k cs e}, w.heap[k]? = some (.cells cs e (0, 0)) → k ≠ c2 → e ≠ 56 → e ≠ 62 → e ≠ 76 → ¬ S k := by
    intro k cs e hk h1 h2 h3 h4 z
    rcases hSS k z with r | r | r | r
    · exact (blk_ne hk hM.blk h2) r
    · obtain ⟨_, cs', hc'⟩ := hqb k r
      exact (blk_ne hk hc' h3) rfl
    · exact h1 r
    · obtain ⟨cs', hc'⟩ := own_touch hM.log k r
      exact (blk_ne hk hc' h4) rfl
  have ac2 : a ≠ c2 := blk_ne hA.blk hM.cel (by decide)
  refine ⟨⟨⟨lv, lv', hA.fr hF (n1 hA.blk ac2 (by decide) (by decide) (by decide)) (n1 hA.cel h.cc (by decide) (by decide) (by decide)) ?_, hM', ?_⟩, h.cc, ⟨Nat.le_trans h.base.1 hF.size, h.base.2⟩, fun x hx => ⟨(h.pt x hx).1.fr hF (n1 (h.pt x hx).1 ?_ (by decide) (by decide) (by decide)), (h.pt x hx).2⟩, h.nd, hq', hqd'⟩, ?_, hF.mono fun k hk z => ?_⟩
  · intro k hk z
    obtain ⟨cs, hc⟩ := own_touch hA.log k hk
    rcases hSS k z with r | r | r | r
    · exact (blk_ne hc hM.blk (by decide)) r
    · obtain ⟨_, cs', hc'⟩ := hqb k r
      exact (blk_ne hc hc' (by decide)) rfl
    · exact (blk_ne hc hM.cel (by decide)) r
    · exact hd k hk r
  · intro k hk hk2
    rcases hl with e | e
    · rw [e] at hk2
      exact hd k hk hk2
    · have := e k hk2
      obtain ⟨cs, hc⟩ := own_touch hA.log k hk
      have := blk_lt hc
      omega
  · exact blk_ne (h.pt x hx).1 hM.cel (by decide)
  · refine ⟨hF.os, hF.tape, hF.output, hF.size, fun k hk => hF.block k (by have := h.base.1; omega) (fun z => ?_)⟩
    rcases hSS k z with r | r | r | r
    · have := h.base.2.2.2.1; omega
    · have := (hqb k r).1; omega
    · have := h.base.2.2.2.2; omega
    · have := (hM.log.lt k r).1; omega
  · rcases hSS k z with r | r | r | r
    · subst r; exact .inr (.inr ⟨_, _, _, hM.blk, .inr (.inr (.inr (.inl rfl)))⟩)
    · obtain ⟨_, cs', hc'⟩ := hqb k r
      exact .inr (.inr ⟨_, _, _, hc', .inr (.inr (.inr (.inr rfl)))⟩)
    · exact .inr (.inl r)
    · obtain ⟨cs', hc'⟩ := own_touch hM.log k r
      exact .inr (.inr ⟨_, _, _, hc', .inr (.inr (.inl rfl))⟩)
/-- One of the chapter's ports, anew. -/
theorem qs_set {q : Nat} {who : Int} {g g' : Bool} {i : Nat} {S : Nat → Prop} (hq : ∀ x ∈ qs, IsQ w x.1 x.2.1 x.2.2 ∧ B ≤ x.1) (hqd : (qs.map (·.1)).Nodup) (hi : qs[i]? = some (q, who, g)) (hQ : IsQ w' q who g') (hF : Fr S w w')
    (hS : ∀ x ∈ qs, x.1 ≠ q → ¬ S x.1) : (∀ x ∈ qs.set i (q, who, g'), IsQ w' x.1 x.2.1 x.2.2 ∧ B ≤ x.1) ∧ ((qs.set i (q, who, g')).map (·.1)).Nodup := by
  have hm : (q, who, g) ∈ qs := List.mem_of_getElem? hi
  constructor
  · obtain ⟨l1, l2, e1, e2, _⟩ := set_split (q, who, g') hi
    rw [e2]
    rw [e1] at hqd hq hS
    simp only [List.map_append, List.map_cons, List.nodup_append, List.nodup_cons] at hqd
    intro x hx
    have hx' : x = (q, who, g') ∨ (x ∈ l1 ++ (q, who, g) :: l2 ∧ x.1 ≠ q) := by
      rcases List.mem_append.1 hx with h1 | h1
      · refine .inr ⟨List.mem_append.2 (.inl h1), ?_⟩
        rintro rfl
        exact hqd.2.2 x.1 (List.mem_map.2 ⟨x, h1, rfl⟩) x.1 (by simp) rfl
      · rcases List.mem_cons.1 h1 with h2 | h2
        · exact .inl h2
        · refine .inr ⟨List.mem_append.2 (.inr (List.mem_cons_of_mem _ h2)), ?_⟩
          rintro rfl
          exact hqd.2.1.1 (List.mem_map.2 ⟨x, h2, rfl⟩)
    rcases hx' with rfl | ⟨hx', hne⟩
    · exact ⟨hQ, (hq (q, who, g) (by simp)).2⟩
    · exact ⟨(hq x hx').1.fr hF (hS x hx' hne), (hq x hx').2⟩
  · rw [List.map_set]
    obtain ⟨l1, l2, e1, e2, _⟩ := set_split q (show (qs.map (·.1))[i]? = some q by rw [List.getElem?_map, hi]; rfl)
    rw [e2, ← e1]
    exact hqd
theorem Duo.do_ {q : Nat} {who : Int} {g : Bool} (h : Duo B w a c s ps m c2 t qs) (i : Nat) (kind at_ want put : Int) (hi : qs[i]? = some (q, who, g)) (hl : t.log.length ≤ 1000000) (hk1 : 1 ≤ kind) (hk2 : kind ≤ 6) :
    Calls Try.prog 43 #[.pointer (some ⟨m, 0, none⟩), .pointer (some ⟨q, 0, none⟩), .int .i64 kind, .int .i64 at_, .int .u64 want, .int .u64 put] w fun e w' => e = .returned (.int .u64 (t.acc g who kind at_ want put).2) ∧ DidD B w w' a c s ps m c2 (t.acc g who kind at_ want put).1 (qs.set i (q, who, false)) := by
  obtain ⟨lv, lv2, hA, hM, hd⟩ := h.both
  have hm : (q, who, g) ∈ qs := List.mem_of_getElem? hi
  refine (mDo B w m c2 q lv2 t who kind at_ want put g hM (h.qt _ hm).1 h.base.1 hl hk1 hk2).mono fun e w' hw => ⟨hw.1, ?_⟩
  obtain ⟨lv', hM', hQ', hF, hlv⟩ := hw.2
  obtain ⟨k1, k2⟩ := qs_set h.qt h.qd hi hQ' hF (fun x hx hne z => by
    rcases z with r | r | r | r
    · exact (hM.mq (h.qt x hx).1) r.symm
    · exact hne r
    · exact (hM.cq (h.qt x hx).1) r.symm
    · exact hM.lq (h.qt x hx).1 r)
  refine h.actM hA hM hd k1 k2 hM' hF (fun k z => ?_) hlv
  rcases z with r | r | r | r
  · exact .inl r
  · exact .inr (.inl (List.mem_map.2 ⟨_, hm, r.symm⟩))
  · exact .inr (.inr (.inl r))
  · exact .inr (.inr (.inr r))
/-- The chapter's port gets its grant. -/
theorem Duo.setQ {q : Nat} {who : Int} {g : Bool} (h : Duo B w a c s ps m c2 t qs) (i : Nat) (hi : qs[i]? = some (q, who, g)) : DidD B w (w.setCell ⟨q, 1, none⟩ (.bool true)) a c s ps m c2 t (qs.set i (q, who, true)) := by
  obtain ⟨lv, lv2, hA, hM, hd⟩ := h.both
  have hm : (q, who, g) ∈ qs := List.mem_of_getElem? hi
  have hF : Fr (fun k => k = q) w (w.setCell ⟨q, 1, none⟩ (.bool true)) := (Fr.refl _ w).setCell _ _ (.inl rfl)
  have hQ : IsQ (w.setCell ⟨q, 1, none⟩ (.bool true)) q who true := by
    have := blk_set (h.qt _ hm).1 1 (.bool true)
    simpa [IsQ] using this
  obtain ⟨k1, k2⟩ := qs_set h.qt h.qd hi hQ hF (fun x hx hne z => hne z)
  refine h.actM hA hM hd k1 k2 (hM.fr hF (hM.mq (h.qt _ hm).1) (hM.cq (h.qt _ hm).1) (fun k hk e => hM.lq (h.qt _ hm).1 (hk.trans (congrArg some e)))) hF (fun k z => .inr (.inl (List.mem_map.2 ⟨_, hm, z.symm⟩))) (.inl rfl)
/-- One of the chapter's cells is set. -/
theorem Duo.setM (h : Duo B w a c s ps m c2 t qs) (at_ v : Int) : DidD B w (w.setCell ⟨c2, at_.toNat, none⟩ (.int .u64 v)) a c s ps m c2 (t.poked at_ v) qs := by
  obtain ⟨lv, lv2, hA, hM, hd⟩ := h.both
  have hF : Fr (fun k => k = c2) w (w.setCell ⟨c2, at_.toNat, none⟩ (.int .u64 v)) := (Fr.refl _ w).setCell _ _ (.inl rfl)
  refine h.actM hA hM hd (fun x hx => ⟨(h.qt x hx).1.fr hF (fun e => hM.cq (h.qt x hx).1 e.symm), (h.qt x hx).2⟩) h.qd (lv' := lv2) ⟨?_, ?_, own_far hM.log _ _ hM.lc, by simpa [AS.poked] using hM.small, hM.keep⟩ hF (fun k z => .inr (.inr (.inl z))) (.inl rfl)
  · have := blk_far hM.blk ⟨c2, at_.toNat, none⟩ hM.mc (.int .u64 v)
    simpa [AS.poked] using this
  · have := blk_set hM.cel at_.toNat (.int .u64 v)
    rw [this]
    simp [AS.poked, List.map_set]
end
end Go.Proofs.Ytneppenmhbjfkaa.Ar
