/- An arena and its ports together: what each call does to them. -/
import Derived.Test.YtcnledehnefldaaArE
namespace Go.Proofs.Ytcnledehnefldaa.Ar
open Go Go.RowKit Go.Proofs.Ytcnledehnefldaa.Hp
set_option linter.unusedVariables false
set_option linter.unusedSimpArgs false

/-- A block that a call through a port may turn. -/
def Touch (c : Nat) (w : World) (k : Nat) : Prop := k = c ∨ ∃ cs t f, w.heap[k]? = some (.cells cs t f) ∧ (t = 111 ∨ t = 113 ∨ t = 75)

/-- An arena a, its cells c, its ports. -/
structure Sys (B : Nat) (w : World) (a c : Nat) (s : AS) (ps : List (Nat × Int × Bool)) : Prop where
  ar : ∃ lv, IsA B w a c lv s
  base : B ≤ w.heap.size ∧ B ≤ a ∧ B ≤ c
  pt : ∀ x ∈ ps, IsP w x.1 a x.2.1 x.2.2 ∧ B ≤ x.1
  nd : (ps.map (·.1)).Nodup

theorem not_touch {c k : Nat} {w : World} {cs : Array Value} {t : TypeId} {f : Nat × Nat} (h : w.heap[k]? = some (.cells cs t f)) (hc : k ≠ c) (ht : t ≠ 111 ∧ t ≠ 113 ∧ t ≠ 75) : ¬ Touch c w k := by
  rintro (e | ⟨cs', t', f', h', h2⟩)
  · exact hc e
  · rw [h] at h'
    injection h' with h'
    injection h' with _ h' _
    subst h'
    rcases h2 with e | e | e
    · exact ht.1 e
    · exact ht.2.1 e
    · exact ht.2.2 e
theorem not_touch_map {c k : Nat} {w : World} {o : Obj} (h : w.heap[k]? = some o) (hc : k ≠ c) (ho : ∀ cs t f, o ≠ .cells cs t f) : ¬ Touch c w k := by
  rintro (e | ⟨cs', t', f', h', h2⟩)
  · exact hc e
  · rw [h] at h'
    exact ho _ _ _ (Option.some.inj h')

theorem Sys.fr {B : Nat} {w w' : World} {a c : Nat} {s : AS} {ps : List (Nat × Int × Bool)} {S : Nat → Prop} (h : Sys B w a c s ps) (hF : Fr S w w') (hS : ∀ k, k < w.heap.size → S k → ¬ Touch c w k) : Sys B w' a c s ps := by
  obtain ⟨⟨lv, hA⟩, hb, hp, hn⟩ := h
  refine ⟨⟨lv, hA.fr hF ?_ ?_ ?_⟩, ⟨Nat.le_trans hb.1 hF.size, hb.2⟩, fun x hx => ⟨(hp x hx).1.fr hF ?_, (hp x hx).2⟩, hn⟩
  · exact fun z => hS a (blk_lt hA.blk) z (.inr ⟨_, _, _, hA.blk, .inl rfl⟩)
  · exact fun z => hS c (blk_lt hA.cel) z (.inl rfl)
  · intro k hk z
    have hl := (hA.log.lt k hk)
    rcases hA.log.2 with ⟨rfl, _⟩ | ⟨g, cap, cur, rfl, _, hg, _⟩
    · simp [Value.ownBlock] at hk
    · simp only [Value.ownBlock, Option.some.injEq] at hk
      subst hk
      exact hS g (blk_lt hg) z (.inr ⟨_, _, _, hg, .inr (.inr rfl)⟩)
  · exact fun z => hS x.1 (blk_lt (hp x hx).1) z (.inr ⟨_, _, _, (hp x hx).1, .inr (.inl rfl)⟩)
theorem Sys.still {B : Nat} {w w' : World} {a c : Nat} {s : AS} {ps : List (Nat × Int × Bool)} (h : Sys B w a c s ps) (hF : Fr (fun _ => False) w w') : Sys B w' a c s ps := h.fr hF (fun _ _ => False.elim)
theorem Sys.alloc {B : Nat} {w : World} {a c : Nat} {s : AS} {ps : List (Nat × Int × Bool)} (h : Sys B w a c s ps) (o : Obj) : Sys B (w.alloc o) a c s ps := h.still ((Fr.refl _ w).alloc o)
theorem Sys.drewN {B : Nat} {w : World} {a c : Nat} {s : AS} {ps : List (Nat × Int × Bool)} (h : Sys B w a c s ps) (n : Nat) : Sys B (w.drewN n) a c s ps := h.still ((Fr.refl _ w).drewN n)
theorem Sys.drew {B : Nat} {w : World} {a c : Nat} {s : AS} {ps : List (Nat × Int × Bool)} (h : Sys B w a c s ps) : Sys B w.drew a c s ps := h.still ((Fr.refl _ w).drew)
/-- A store into a block that is none of theirs. -/
theorem Sys.other {B : Nat} {w : World} {a c k : Nat} {s : AS} {ps : List (Nat × Int × Bool)} (h : Sys B w a c s ps) (hk : ¬ Touch c w k) (j : Nat) (u : Value) : Sys B (w.setCell ⟨k, j, none⟩ u) a c s ps :=
  h.fr (S := fun i => i = k) ((Fr.refl _ w).setCell _ _ (.inl rfl)) (fun i _ e => by subst e; exact hk)
theorem Sys.below {B : Nat} {w w' : World} {a c : Nat} {s : AS} {ps : List (Nat × Int × Bool)} (h : Sys B w a c s ps) (hb : Below w.heap.size w w') : Sys B w' a c s ps :=
  h.still ⟨hb.os, hb.tape, hb.output, hb.size, fun k hk _ => hb.block k hk⟩
theorem Sys.lt {B : Nat} {w : World} {a c : Nat} {s : AS} {ps : List (Nat × Int × Bool)} (h : Sys B w a c s ps) : a < w.heap.size ∧ c < w.heap.size := by
  obtain ⟨⟨lv, hA⟩, _⟩ := h
  exact ⟨blk_lt hA.blk, blk_lt hA.cel⟩
theorem Sys.mono {B B' : Nat} {w : World} {a c : Nat} {s : AS} {ps : List (Nat × Int × Bool)} (h : Sys B w a c s ps) (hB : B' ≤ B) : Sys B' w a c s ps := by
  obtain ⟨⟨lv, hA⟩, hb, hp, hn⟩ := h
  refine ⟨⟨lv, hA.blk, hA.cel, ⟨hA.log.1, ?_⟩, hA.small⟩, by omega, fun x hx => ⟨(hp x hx).1, by have := (hp x hx).2; omega⟩, hn⟩
  rcases hA.log.2 with h2 | ⟨g, cap, cur, h1, h2, h3⟩
  · exact .inl h2
  · exact .inr ⟨g, cap, cur, h1, by omega, h3⟩

/-- What a call says of the world behind it. -/
structure Did (B : Nat) (w w' : World) (a c : Nat) (s : AS) (ps : List (Nat × Int × Bool)) : Prop where
  sys : Sys B w' a c s ps
  bel : Below B w w'
  fr : Fr (Touch c w) w w'

theorem set_split {α : Type} : ∀ {l : List α} {i : Nat} {x : α} (y : α), l[i]? = some x → ∃ l1 l2, l = l1 ++ x :: l2 ∧ l.set i y = l1 ++ y :: l2 ∧ l1.length = i
  | [], i, x, y, h => by simp at h
  | z :: l, 0, x, y, h => by simp at h; subst h; exact ⟨[], l, rfl, rfl, rfl⟩
  | z :: l, i + 1, x, y, h => by
    obtain ⟨l1, l2, h1, h2, h3⟩ := set_split y (show l[i]? = some x by simpa using h)
    exact ⟨z :: l1, l2, by rw [h1]; rfl, by rw [List.set_cons_succ, h2]; rfl, by simp [h3]⟩

theorem Sys.did {B : Nat} {w w' : World} {a c p : Nat} {s s' : AS} {who : Int} {g : Bool} {lv : Value} {ps : List (Nat × Int × Bool)} {i : Nat} (h : Sys B w a c s ps) (hA : IsA B w a c lv s) (hi : ps[i]? = some (p, who, g)) (hw : Post B w w' p a c who lv s') : Did B w w' a c s' (ps.set i (p, who, false)) := by
  obtain ⟨lv', hA', hP', hF, hl⟩ := hw
  obtain ⟨_, hb, hp, hn⟩ := h
  have hm : (p, who, g) ∈ ps := List.mem_of_getElem? hi
  have hT : Fr (Touch c w) w w' := hF.mono fun k hk e => by
    rcases e with e | e | e | e
    · subst e; exact .inr ⟨_, _, _, hA.blk, .inl rfl⟩
    · subst e; exact .inr ⟨_, _, _, (hp _ hm).1, .inr (.inl rfl)⟩
    · exact .inl e
    · rcases hA.log.2 with ⟨rfl, _⟩ | ⟨g, cap, cur, rfl, _, hg, _⟩
      · simp [Value.ownBlock] at e
      · simp only [Value.ownBlock, Option.some.injEq] at e
        subst e
        exact .inr ⟨_, _, _, hg, .inr (.inr rfl)⟩
  refine ⟨⟨⟨lv', hA'⟩, ⟨Nat.le_trans hb.1 hF.size, hb.2⟩, ?_, ?_⟩, ?_, hT⟩
  · obtain ⟨l1, l2, e1, e2, _⟩ := set_split (p, who, false) hi
    rw [e2]
    rw [e1] at hn hp
    simp only [List.map_append, List.map_cons, List.nodup_append, List.nodup_cons] at hn
    intro x hx
    have hx' : x = (p, who, false) ∨ (x ∈ l1 ++ (p, who, g) :: l2 ∧ x.1 ≠ p) := by
      rcases List.mem_append.1 hx with h1 | h1
      · refine .inr ⟨List.mem_append.2 (.inl h1), ?_⟩
        rintro rfl
        exact hn.2.2 x.1 (List.mem_map.2 ⟨x, h1, rfl⟩) x.1 (by simp) rfl
      · rcases List.mem_cons.1 h1 with h2 | h2
        · exact .inl h2
        · refine .inr ⟨List.mem_append.2 (.inr (List.mem_cons_of_mem _ h2)), ?_⟩
          rintro rfl
          exact hn.2.1.1 (List.mem_map.2 ⟨x, h2, rfl⟩)
    rcases hx' with rfl | ⟨hx', hne⟩
    · exact ⟨hP', (hp (p, who, g) (by simp)).2⟩
    · have := hp x hx'
      refine ⟨this.1.fr hF ?_, this.2⟩
      rintro (e | e | e | e)
      · exact hA.ap this.1 e.symm
      · exact hne e
      · exact hA.cp this.1 e.symm
      · exact hA.lp this.1 e
  · rw [List.map_set]
    obtain ⟨l1, l2, e1, e2, _⟩ := set_split p (show (ps.map (·.1))[i]? = some p by rw [List.getElem?_map, hi]; rfl)
    rw [e2, ← e1]
    exact hn
  · refine ⟨hF.os, hF.tape, hF.output, hF.size, fun k hk => hF.block k (by omega) ?_⟩
    have := (hp _ hm).2
    rintro (e | e | e | e)
    · omega
    · simp only at this; omega
    · omega
    · have := (hA.log.lt k e).1; omega

theorem Sys.load {B : Nat} {w : World} {a c p : Nat} {s : AS} {who : Int} {g : Bool} {ps : List (Nat × Int × Bool)} (h : Sys B w a c s ps) (i : Nat) (at_ : Int) (hi : ps[i]? = some (p, who, g)) (hl : s.log.length ≤ 1000000) :
    Calls Try.prog 66 #[.pointer (some ⟨p, 0, none⟩), .int .i64 at_] w fun e w' => e = .returned (.int .u64 (s.acc g who 1 at_ 0 0).2) ∧ Did B w w' a c (s.acc g who 1 at_ 0 0).1 (ps.set i (p, who, false)) := by
  obtain ⟨lv, hA⟩ := h.ar
  exact (mLoad B w p a c lv s who at_ g hA (h.pt _ (List.mem_of_getElem? hi)).1 h.base.1 hl).mono fun e w' hw => ⟨hw.1, h.did hA hi hw.2⟩
theorem Sys.store {B : Nat} {w : World} {a c p : Nat} {s : AS} {who : Int} {g : Bool} {ps : List (Nat × Int × Bool)} (h : Sys B w a c s ps) (i : Nat) (at_ v : Int) (hi : ps[i]? = some (p, who, g)) (hl : s.log.length ≤ 1000000) :
    Calls Try.prog 53 #[.pointer (some ⟨p, 0, none⟩), .int .i64 at_, .int .u64 v] w fun e w' => e = .returned (.tuple #[]) ∧ Did B w w' a c (s.acc g who 2 at_ 0 v).1 (ps.set i (p, who, false)) := by
  obtain ⟨lv, hA⟩ := h.ar
  exact (mStore B w p a c lv s who at_ v g hA (h.pt _ (List.mem_of_getElem? hi)).1 h.base.1 hl).mono fun e w' hw => ⟨hw.1, h.did hA hi hw.2⟩
theorem Sys.or_ {B : Nat} {w : World} {a c p : Nat} {s : AS} {who : Int} {g : Bool} {ps : List (Nat × Int × Bool)} (h : Sys B w a c s ps) (i : Nat) (at_ v : Int) (hi : ps[i]? = some (p, who, g)) (hl : s.log.length ≤ 1000000) :
    Calls Try.prog 49 #[.pointer (some ⟨p, 0, none⟩), .int .i64 at_, .int .u64 v] w fun e w' => e = .returned (.int .u64 (s.acc g who 5 at_ 0 v).2) ∧ Did B w w' a c (s.acc g who 5 at_ 0 v).1 (ps.set i (p, who, false)) := by
  obtain ⟨lv, hA⟩ := h.ar
  exact (mOr B w p a c lv s who at_ v g hA (h.pt _ (List.mem_of_getElem? hi)).1 h.base.1 hl).mono fun e w' hw => ⟨hw.1, h.did hA hi hw.2⟩
/-- A port's grant, anew. -/
theorem Sys.granted {B : Nat} {w w' : World} {a c p : Nat} {s : AS} {who : Int} {g : Bool} {ps : List (Nat × Int × Bool)} {i : Nat} (h : Sys B w a c s ps) (hi : ps[i]? = some (p, who, g)) (hP : IsP w' p a who true) (hF : Fr (fun k => k = p) w w') : Did B w w' a c s (ps.set i (p, who, true)) := by
  obtain ⟨⟨lv, hA⟩, hb, hp, hn⟩ := h
  have hm : (p, who, g) ∈ ps := List.mem_of_getElem? hi
  have hPp := (hp _ hm).1
  refine ⟨⟨⟨lv, hA.fr hF (hA.ap hPp) (hA.cp hPp) (fun k hk e => hA.lp hPp (hk.trans (congrArg some e)))⟩, ⟨Nat.le_trans hb.1 hF.size, hb.2⟩, ?_, ?_⟩, ?_, hF.mono fun k _ e => by subst e; exact .inr ⟨_, _, _, hPp, .inr (.inl rfl)⟩⟩
  · obtain ⟨l1, l2, e1, e2, _⟩ := set_split (p, who, true) hi
    rw [e2]
    rw [e1] at hn hp
    simp only [List.map_append, List.map_cons, List.nodup_append, List.nodup_cons] at hn
    intro x hx
    have hx' : x = (p, who, true) ∨ (x ∈ l1 ++ (p, who, g) :: l2 ∧ x.1 ≠ p) := by
      rcases List.mem_append.1 hx with h1 | h1
      · refine .inr ⟨List.mem_append.2 (.inl h1), ?_⟩
        rintro rfl
        exact hn.2.2 x.1 (List.mem_map.2 ⟨x, h1, rfl⟩) x.1 (by simp) rfl
      · rcases List.mem_cons.1 h1 with h2 | h2
        · exact .inl h2
        · refine .inr ⟨List.mem_append.2 (.inr (List.mem_cons_of_mem _ h2)), ?_⟩
          rintro rfl
          exact hn.2.1.1 (List.mem_map.2 ⟨x, h2, rfl⟩)
    rcases hx' with rfl | ⟨hx', hne⟩
    · exact ⟨hP, (hp (p, who, g) (by simp)).2⟩
    · have := hp x hx'
      exact ⟨this.1.fr hF hne, this.2⟩
  · rw [List.map_set]
    obtain ⟨l1, l2, e1, e2, _⟩ := set_split p (show (ps.map (·.1))[i]? = some p by rw [List.getElem?_map, hi]; rfl)
    rw [e2, ← e1]
    exact hn
  · refine ⟨hF.os, hF.tape, hF.output, hF.size, fun k hk => hF.block k (by omega) ?_⟩
    have := (hp _ hm).2
    rintro rfl
    simp only at this; omega
theorem Sys.grant {B : Nat} {w : World} {a c p : Nat} {s : AS} {who : Int} {g : Bool} {ps : List (Nat × Int × Bool)} (h : Sys B w a c s ps) (i : Nat) (hi : ps[i]? = some (p, who, g)) :
    Calls Try.prog 29 #[.pointer (some ⟨p, 0, none⟩)] w fun e w' => e = .returned (.tuple #[]) ∧ Did B w w' a c s (ps.set i (p, who, true)) :=
  (Ar.grant w p a who g (h.pt _ (List.mem_of_getElem? hi)).1).mono fun e w' hw => ⟨hw.1, h.granted hi hw.2.1 hw.2.2⟩
theorem Sys.open_ {B : Nat} {w : World} {a c p : Nat} {s : AS} {who : Int} {g : Bool} {ps : List (Nat × Int × Bool)} (h : Sys B w a c s ps) (i : Nat) (hi : ps[i]? = some (p, who, g)) :
    Calls Try.prog 47 #[.pointer (some ⟨p, 0, none⟩)] w fun e w' => e = .returned (.bool g) ∧ w' = w := Ar.open_ w p a who g (h.pt _ (List.mem_of_getElem? hi)).1
theorem Sys.who {B : Nat} {w : World} {a c p : Nat} {s : AS} {who : Int} {g : Bool} {ps : List (Nat × Int × Bool)} (h : Sys B w a c s ps) (i : Nat) (hi : ps[i]? = some (p, who, g)) :
    Calls Try.prog 62 #[.pointer (some ⟨p, 0, none⟩)] w fun e w' => e = .returned (.int .i64 who) ∧ w' = w := Ar.who_ w p a who g (h.pt _ (List.mem_of_getElem? hi)).1
theorem Sys.faults {B : Nat} {w : World} {a c : Nat} {s : AS} {ps : List (Nat × Int × Bool)} (h : Sys B w a c s ps) :
    Calls Try.prog 34 #[.pointer (some ⟨a, 0, none⟩)] w fun e w' => e = .returned (.int .i64 s.faults) ∧ w' = w := by
  obtain ⟨lv, hA⟩ := h.ar
  exact mFaults B w a c lv s hA
theorem Sys.peek {B : Nat} {w : World} {a c : Nat} {s : AS} {ps : List (Nat × Int × Bool)} (h : Sys B w a c s ps) (at_ : Int) :
    Calls Try.prog 54 #[.pointer (some ⟨a, 0, none⟩), .int .i64 at_] w fun e w' => e = .returned (.tuple #[.int .u64 (if s.has at_ = true then s.cells.getD at_.toNat 0 else 0), .int .i64 (if s.has at_ = true then 0 else 5)]) ∧ ∃ n, w' = w.drewN n := by
  obtain ⟨lv, hA⟩ := h.ar
  by_cases hh : s.has at_ = true
  · rw [if_pos hh, if_pos hh]
    exact mPeek B w a c lv s at_ hA hh
  · rw [if_neg hh, if_neg hh]
    exact mPeek_out B w a c lv s at_ hA (by simpa using hh)
/-- A cell set ahead of a run. -/
def AS.poked (s : AS) (at_ v : Int) : AS := { s with cells := s.cells.set at_.toNat v }
theorem Sys.poke {B : Nat} {w : World} {a c : Nat} {s : AS} {ps : List (Nat × Int × Bool)} (h : Sys B w a c s ps) (at_ v : Int) (hh : s.has at_ = true) :
    Calls Try.prog 27 #[.pointer (some ⟨a, 0, none⟩), .int .i64 at_, .int .u64 v] w fun e w' => e = .returned (.int .i64 0) ∧ Did B w w' a c (s.poked at_ v) ps := by
  obtain ⟨lv, hA⟩ := h.ar
  refine (mPoke B w a c lv s at_ v hA hh).mono fun e w' hw => ⟨hw.1, ⟨⟨lv, hw.2.1⟩, ⟨Nat.le_trans h.base.1 hw.2.2.size, h.base.2⟩, fun x hx => ⟨(h.pt x hx).1.fr hw.2.2 (fun e => hA.cp (h.pt x hx).1 e.symm), (h.pt x hx).2⟩, h.nd⟩, ⟨hw.2.2.os, hw.2.2.tape, hw.2.2.output, hw.2.2.size, fun k hk => hw.2.2.block k (by have := h.base.1; omega) (fun e => by have := h.base.2.2; omega)⟩, hw.2.2.mono fun k _ e => .inl e⟩
theorem Sys.poke_out {B : Nat} {w : World} {a c : Nat} {s : AS} {ps : List (Nat × Int × Bool)} (h : Sys B w a c s ps) (at_ v : Int) (hh : s.has at_ = false) :
    Calls Try.prog 27 #[.pointer (some ⟨a, 0, none⟩), .int .i64 at_, .int .u64 v] w fun e w' => e = .returned (.int .i64 5) ∧ w' = w := by
  obtain ⟨lv, hA⟩ := h.ar
  exact mPoke_out B w a c lv s at_ v hA hh
theorem sys_new (B : Nat) (w : World) (n : Nat) (keep : Bool) (h : 1 ≤ n) (h' : n ≤ 4096) (hB : B ≤ w.heap.size) :
    Calls Try.prog 55 #[.int .i64 n, .bool keep] w fun e w' => ∃ a c, e = .returned (.tuple #[.pointer (some ⟨a, 0, none⟩), .int .i64 0]) ∧ Sys B w' a c ⟨List.replicate n 0, [], keep, 0, 0⟩ [] ∧ Below w.heap.size w w' ∧ w.heap.size ≤ a ∧ w.heap.size ≤ c := by
  refine (new_ B w n keep h h').mono ?_
  rintro e w' ⟨a, c, he, hA, hF, ha, hc⟩
  exact ⟨a, c, he, ⟨⟨_, hA⟩, ⟨Nat.le_trans hB hF.size, by omega, by omega⟩, fun x hx => (by cases hx), by simp⟩, ⟨hF.os, hF.tape, hF.output, hF.size, fun k hk => hF.block k hk id⟩, ha, hc⟩
theorem Sys.port {B : Nat} {w : World} {a c : Nat} {s : AS} {ps : List (Nat × Int × Bool)} (h : Sys B w a c s ps) (who : Int) (h0 : 0 ≤ who) (h1 : who ≤ 15) :
    Calls Try.prog 56 #[.pointer (some ⟨a, 0, none⟩), .int .i64 who] w fun e w' => ∃ p, e = .returned (.tuple #[.pointer (some ⟨p, 0, none⟩), .int .i64 0]) ∧ Sys B w' a c s (ps ++ [(p, who, false)]) ∧ Below w.heap.size w w' ∧ w.heap.size ≤ p := by
  refine (Ar.port w a who h0 h1).mono ?_
  rintro e w' ⟨p, he, hP, hF, hp⟩
  have h2 := h.still hF
  refine ⟨p, he, ⟨h2.ar, h2.base, fun x hx => ?_, ?_⟩, ⟨hF.os, hF.tape, hF.output, hF.size, fun k hk => hF.block k hk id⟩, hp⟩
  · rcases List.mem_append.1 hx with hx | hx
    · exact h2.pt x hx
    · rw [List.mem_singleton.1 hx]
      exact ⟨hP, by have := h.base.1; simp only; omega⟩
  · rw [List.map_append]
    refine List.nodup_append.2 ⟨h.nd, by simp, fun y hy z hz e => ?_⟩
    obtain ⟨x, hx, rfl⟩ := List.mem_map.1 hy
    have : z = p := by simpa using hz
    have h3 := blk_lt (h.pt x hx).1
    omega
end Go.Proofs.Ytcnledehnefldaa.Ar
