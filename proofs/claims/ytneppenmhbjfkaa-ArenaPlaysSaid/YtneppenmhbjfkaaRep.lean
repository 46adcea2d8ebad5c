/- A log, played over the cells; a log as a row of structs. -/
import Derived.Test.YtneppenmhbjfkaaLogB
import Derived.Test.YtneppenmhbjfkaaPHx3
import Derived.Test.YtneppenmhbjfkaaEo
namespace Go.Proofs.Ytneppenmhbjfkaa.Ar
open Go Go.RowKit Go.Proofs.Ytneppenmhbjfkaa.Hp
open Go.Proofs.YtneppenmhbjfkaaW.PrintWords (Kd Drawn0 rd LeO)
open Go.Proofs.Ytneppenmhbjfkaa.PH Go.Proofs.Ytneppenmhbjfkaa.Eo
set_option linter.unusedVariables false
set_option linter.unusedSimpArgs false

def toS (x : Acc) : S76 := ⟨x.who, x.kind, x.at_, x.want, x.put, x.seen, x.left⟩
theorem c76_of_own {B : Nat} {w : World} {v : Value} {log : List Acc} (h : w.ownsRow B 76 7 v log.length (log.flatMap Acc.cells)) (hl : log.length ≤ 1000) :
    ∃ A cap, v = .slice A log.length cap ∧ log.length ≤ cap ∧ Kd.C k76 w A (log.map toS).length (log.map toS) := by
  rcases logAt_of h with ⟨rfl, rfl⟩ | ⟨b, cap, rfl, hc, hb, hL⟩
  · exact ⟨none, 0, rfl, Nat.le_refl _, ⟨rfl, by simp, fun h => absurd h (by simp)⟩⟩
  · refine ⟨_, cap, rfl, hc, ⟨rfl, by simp; omega, fun _ => ⟨_, rfl, fun j p hp => ?_⟩⟩⟩
    rw [List.getElem?_map] at hp
    obtain ⟨x, hx, rfl⟩ := Option.map_eq_some_iff.1 hp
    obtain ⟨a0, a1, a2, a3, a4, a5, a6⟩ := hL j x hx
    refine ⟨_, rfl, k76_mk w (toS x), fun i u hu => ?_⟩
    have e2 : ∀ i, ((⟨b, 0, none⟩ : Addr).add (j * k76.sz + i)) = ⟨b, j * 7 + i, none⟩ := by
      intro i
      show Addr.add _ (j * 7 + i) = _
      unfold Addr.add
      split
      · rename_i h0
        rw [h0]
      · simp
    rw [e2]
    match i, hu with
    | 0, hu => have : Value.int .i64 x.who = u := by simpa [toS] using hu
               rw [← this]; exact a0
    | 1, hu => have : Value.int .i64 x.kind = u := by simpa [toS] using hu
               rw [← this]; exact a1
    | 2, hu => have : Value.int .i64 x.at_ = u := by simpa [toS] using hu
               rw [← this]; exact a2
    | 3, hu => have : Value.int .u64 x.want = u := by simpa [toS] using hu
               rw [← this]; exact a3
    | 4, hu => have : Value.int .u64 x.put = u := by simpa [toS] using hu
               rw [← this]; exact a4
    | 5, hu => have : Value.int .u64 x.seen = u := by simpa [toS] using hu
               rw [← this]; exact a5
    | 6, hu => have : Value.int .u64 x.left = u := by simpa [toS] using hu
               rw [← this]; exact a6
    | i + 7, hu => simp at hu

/-- An access that fits the cells. -/
structure Fit (cs : List Int) (x : Acc) : Prop where
  k1 : 1 ≤ x.kind
  k2 : x.kind ≤ 6
  at0 : 0 ≤ x.at_
  at1 : x.at_ < cs.length
  seen : x.seen = cs.getD x.at_.toNat 0
  left : x.left = leftOf x.kind x.seen x.want x.put
def Rp : List Int → List Acc → List Int → Prop
  | l, [], cs => l = cs
  | l, x :: log, cs => Fit l x ∧ Rp (l.set x.at_.toNat x.left) log cs
theorem Rp.snoc : ∀ {log : List Acc} {l cs : List Int} {x : Acc}, Rp l log cs → Fit cs x → Rp l (log ++ [x]) (cs.set x.at_.toNat x.left)
  | [], l, cs, x, h, hf => by cases h; exact ⟨hf, rfl⟩
  | y :: log, l, cs, x, h, hf => ⟨h.1, Rp.snoc h.2 hf⟩

theorem after_of (x : Acc) (cur : Int) (h1 : 1 ≤ x.kind) (h2 : x.kind ≤ 6) (k : Nat) : arena_after.f (k + 1) x.who x.kind x.at_ x.want x.put x.seen x.left cur = some (leftOf x.kind cur x.want x.put, true) := by
  have : x.kind = 1 ∨ x.kind = 2 ∨ x.kind = 3 ∨ x.kind = 4 ∨ x.kind = 5 ∨ x.kind = 6 := by omega
  unfold arena_after.f leftOf
  rcases this with h | h | h | h | h | h <;> rw [h] <;> simp [arena_after.j0]
  split <;> rfl

theorem replay_of (L : List S76) : ∀ (rest : List Acc) (cur cs : List Int) (i : Nat), Rp cur rest cs → L.length = i + rest.length → L.length ≤ 1000 → (∀ j x, rest[j]? = some x → rd_T76 L ((i + j : Nat) : Int) = toS x) →
    Eo (fun k => arena_Replay.l0 k cur L (L.length : Int) (i : Int)) (cs, 0, 0)
  | [], cur, cs, i, h, hl, hm, _ => by
    cases h
    refine (Eo.of (g := fun _ => some (cur, 0, 0)) fun _ => rfl).step fun k _ => ?_
    simp only [arena_Replay.l0]
    rw [if_neg (by simp at hl; omega)]
  | x :: rest, cur, cs, i, h, hl, hm, hr => by
    obtain ⟨hf, hR⟩ := h
    have ih := replay_of L rest _ cs (i + 1) hR (by simp at hl; omega) hm (fun j y hy => by
      have := hr (j + 1) y (by simpa using hy)
      rwa [show i + (j + 1) = i + 1 + j by omega] at this)
    have e0 := hr 0 x rfl
    rw [Nat.add_zero] at e0
    have hlt : (i : Int) < (L.length : Int) := by simp at hl; omega
    have hj : Eo (fun k => arena_Replay.j1 k cur (i : Int) L (L.length : Int) (i : Int) false x.who x.kind x.at_ x.want x.put x.seen x.left) (cs, 0, 0) := by
      obtain ⟨K, hK⟩ := ih
      refine ⟨K + 2, fun k hk => ?_⟩
      obtain ⟨m, rfl⟩ : ∃ m, k = m + 1 + 1 := ⟨k - 2, by omega⟩
      show arena_Replay.j1 (m + 1 + 1) _ _ _ _ _ _ _ _ _ _ _ _ _ = _
      have es : x.seen = rd cur x.at_ := hf.seen
      simp only [arena_Replay.j1]
      rw [if_neg (by simp), if_pos hf.at0, if_pos hf.at1, after_of x _ hf.k1 hf.k2]
      simp only [Option.bind_some]
      rw [if_pos trivial, if_pos es, if_pos (by rw [hf.left, es]), w64 (by omega) (by simp at hl; omega)]
      rw [← es, ← hf.left]
      exact hK (m + 1) (by omega)
    refine hj.step1 fun k hk => ?_
    simp only [arena_Replay.l0]
    rw [if_pos hlt, if_pos (by omega), if_pos hlt, e0]
    rw [if_neg (show ¬ (toS x).f2 < 0 by have := hf.at0; show ¬ x.at_ < 0; omega), decide_eq_false (show ¬ (toS x).f2 ≥ (cur.length : Int) by have := hf.at1; show ¬ x.at_ ≥ _; omega)]
    exact hk
theorem replay_all (l cs : List Int) (log : List Acc) (h : Rp l log cs) (hl : l.length ≤ 1000) (hg : log.length ≤ 1000) : ∃ k, arena_Replay.f k l (log.map toS) = some (cs, 0, 0) := by
  have e := replay_of (log.map toS) log l cs 0 h (by simp) (by simpa using hg) (fun j x hx => by
    unfold rd_T76
    rw [Nat.zero_add, Int.toNat_natCast, List.getD_eq_getElem?_getD, List.getElem?_map, hx]
    rfl)
  obtain ⟨k, hk⟩ := e.get
  refine ⟨k, ?_⟩
  unfold arena_Replay.f
  simp only [Option.bind_some]
  rw [if_pos (by simp; omega), List.nil_append]
  exact hk

/-- What holds between two calls. -/
structure Inv (l : List Int) (k : Nat) (s : AS) : Prop where
  keep : s.keep = true
  cnt : s.count = s.log.length
  len : s.log.length ≤ k
  f0 : 0 ≤ s.faults
  fk : s.faults ≤ k
  cl : s.cells.length = l.length
  rp : Rp l s.log s.cells
theorem Inv.acc {l : List Int} {k : Nat} {s : AS} (h : Inv l k s) (hk : k ≤ 1000) (b : Bool) (who kind at_ want put : Int) (h1 : 1 ≤ kind) (h2 : kind ≤ 6) : Inv l (k + 1) (s.acc b who kind at_ want put).1 := by
  obtain ⟨a1, a2, a3, a4, a5, a6, a7⟩ := h
  unfold AS.acc
  by_cases hc : b = true ∧ s.has at_ = true
  · rw [if_pos hc]
    have hh := of_decide_eq_true hc.2
    refine ⟨a1, ?_, ?_, a4, by simp only [AS.done]; omega, by simpa [AS.done] using a6, ?_⟩
    · simp only [AS.done, a1, if_true, List.length_append, a2]; unfold wrap64; simp; omega
    · simp only [AS.done, a1, if_true, List.length_append]; simp; omega
    · simp only [AS.done, a1, if_true]
      exact a7.snoc ⟨h1, h2, hh.1, hh.2, rfl, rfl⟩
  · rw [if_neg hc]
    have e : wrap64 (s.faults + 1) = s.faults + 1 := by unfold wrap64; omega
    exact ⟨a1, a2, by simp only [AS.fault]; omega, by simp only [AS.fault, e]; omega, by simp only [AS.fault, e]; omega, a6, a7⟩
theorem Inv.next {l : List Int} {k : Nat} {s : AS} (h : Inv l k s) : Inv l (k + 1) s := by
  obtain ⟨a1, a2, a3, a4, a5, a6, a7⟩ := h
  exact ⟨a1, a2, by omega, a4, by omega, a6, a7⟩
theorem poke_stepK (keep : Bool) (l : List Int) (k : Nat) (hk : k < l.length) : AS.poked ⟨l.take k ++ List.replicate (l.length - k) 0, [], keep, 0, 0⟩ k (l.getD k 0) = ⟨l.take (k + 1) ++ List.replicate (l.length - (k + 1)) 0, [], keep, 0, 0⟩ := by
  have := poke_step l k hk
  unfold AS.poked at this ⊢
  injection this with h
  exact congrArg (fun c => (⟨c, [], keep, 0, 0⟩ : AS)) h
end Go.Proofs.Ytneppenmhbjfkaa.Ar
