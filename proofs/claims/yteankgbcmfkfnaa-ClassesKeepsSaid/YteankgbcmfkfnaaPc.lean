/- What the laws want of Check and SameClass. -/
import Derived.Test.YteankgbcmfkfnaaCk
import Derived.Test.YteankgbcmfkfnaaTab
import Derived.Test.YteankgbcmfkfnaaRk
namespace Go.Proofs.Yteankgbcmfkfnaa.Cl
open Go Go.RowKit Go.Proofs.Yteankgbcmfkfnaa.Hp Go.Proofs.Yteankgbcmfkfnaa.PH Go.Proofs.Yteankgbcmfkfnaa.Eo
open Go.Proofs.YteankgbcmfkfnaaW.PrintWords (bt Kd Drawn0)
set_option linter.unusedVariables false
set_option linter.unusedSimpArgs false

theorem op41 : Rk.Opens k41 [.str, .int .i64] (fun _ => True) :=
  Rk.opens_iso (Rk.opens_pair Rk.opens_str (Rk.opens_int .i64)) (fun x : S41 => (x.f0, x.f1)) (fun x => ⟨x.1, x.2⟩) (fun _ => rfl) (fun _ _ => trivial)
theorem op34 : Rk.Opens k34 [.str, .slice [.str, .int .i64]] (fun _ => True) :=
  Rk.opens_iso (Rk.opens_pair Rk.opens_str (Rk.opens_slice 41 op41)) (fun x : S34 => (x.f0, x.f1)) (fun x => ⟨x.1, x.2⟩) (fun _ => rfl) (fun _ _ => trivial)
theorem cE_ok : ∀ (l : List S34) (i : Nat) (pre : List (List UInt8)), (cE i pre l).2 = 0 → cE i pre l = (0, 0) ∧ ∀ x ∈ l, fieldsE x.f1 = 0
  | [], i, pre, h => ⟨rfl, by simp⟩
  | x :: r, i, pre, h => by
    have e : cE i pre (x :: r) = (if nm x.f0 = true then (if nk x.f0 ∈ pre then ((i : Int), 41) else if fieldsE x.f1 = 0 then cE (i + 1) (pre ++ [nk x.f0]) r else ((i : Int), fieldsE x.f1)) else ((i : Int), 20)) := rfl
    rw [e] at h ⊢
    by_cases h1 : nm x.f0 = true
    · rw [if_pos h1] at h ⊢
      by_cases h2 : nk x.f0 ∈ pre
      · rw [if_pos h2] at h; exact absurd h (show ¬ ((41 : Int) = 0) by decide)
      · rw [if_neg h2] at h ⊢
        by_cases h3 : fieldsE x.f1 = 0
        · rw [if_pos h3] at h ⊢
          obtain ⟨h4, h5⟩ := cE_ok r _ _ h
          refine ⟨h4, fun y hy => ?_⟩
          rcases List.mem_cons.1 hy with rfl | hy
          · exact h3
          · exact h5 y hy
        · rw [if_neg h3] at h; exact absurd h h3
    · rw [if_neg h1] at h; exact absurd h (show ¬ ((20 : Int) = 0) by decide)
theorem newE_ok {l : List S34} (h : (newE l).2 = 0) : newE l = (0, 0) ∧ l.length ≤ 16 ∧ ∀ x ∈ l, x.f1.length ≤ 15 := by
  unfold newE at h ⊢
  by_cases h1 : 16 < l.length
  · rw [if_pos h1] at h; exact absurd h (by decide)
  · rw [if_neg h1] at h ⊢
    obtain ⟨h2, h3⟩ := cE_ok l 0 [] h
    exact ⟨h2, by omega, fun x hx => fieldsE_len (h3 x hx)⟩
theorem rd34_mem (l : List S34) (i : Nat) (h : i < l.length) : rd_T34 l (i : Nat) ∈ l := by
  unfold rd_T34
  rw [Int.toNat_natCast, List.getD_eq_getElem?_getD, List.getElem?_eq_getElem h]
  exact List.getElem_mem h
theorem new_no {A : Option Addr} {cp : Nat} {l : List S34} {w : World} (hr : Kd.C k34 w A l.length l) (hc : l.length ≤ cp) (h : (newE l).2 ≠ 0) :
    Calls Try.prog 11 #[.slice A l.length cp] w fun e w' => e = .returned (.tuple #[.pointer none, .int .i64 (newE l).1, .int .i64 (newE l).2]) ∧ Below w.heap.size w w' := by
  refine (new_call A cp l w hr hc).mono ?_
  rintro e w' ⟨hb, ⟨_, rfl⟩ | ⟨h1, _⟩⟩
  · exact ⟨rfl, hb⟩
  · exact absurd h1 h
theorem new_yes {A : Option Addr} {cp : Nat} {l : List S34} {w : World} (hr : Kd.C k34 w A l.length l) (hc : l.length ≤ cp) (h : (newE l).2 = 0) :
    Calls Try.prog 11 #[.slice A l.length cp] w fun e w' => ∃ t A Am ca cm, e = .returned (.tuple #[.pointer (some ⟨t, 0, none⟩), .int .i64 0, .int .i64 0]) ∧ IsT w' t l (l.map fun x => fieldsM x.f1) A Am ca cm ∧ Below w.heap.size w w' := by
  refine (new_call A cp l w hr hc).mono ?_
  rintro e w' ⟨hb, ⟨h1, _⟩ | ⟨_, t, vl, vm, rfl, hT⟩⟩
  · exact absurd h h1
  · obtain ⟨A, Am, ca, cm, h⟩ := hT.reads (by simp) (newE_ok h).2.1
    exact ⟨t, A, Am, ca, cm, rfl, h, hb⟩

/-- A field's key. -/
def fkey (x : S41) : List UInt8 × Int := (nk x.f0, x.f1)
def scB (x y : S34) : Bool := decide (nk x.f0 = nk y.f0 ∧ x.f1.map fkey = y.f1.map fkey)
theorem sc_l0 (s0 s1 : ByteArray) (a b : List S41) (hl : a.length = b.length) (h15 : a.length ≤ 15) : ∀ (d i : Nat), i + d = a.length → Eo (fun k => windrowref10_SameClass.l0 k (i : Nat) s0 a s1 b) (decide ((a.drop i).map fkey = (b.drop i).map fkey))
  | 0, i, h => by
    rw [List.drop_eq_nil_of_le (by omega), List.drop_eq_nil_of_le (by omega)]
    refine (Eo.of (g := fun _ => some true) fun _ => rfl).round fun k => ?_
    rw [windrowref10_SameClass.l0, if_neg (by omega)]
  | d + 1, i, h => by
    have ih := sc_l0 s0 s1 a b hl h15 d (i + 1) (by omega)
    rw [drop_cons a i (by omega), drop_cons b i (by omega)]
    generalize hx : rd_T41 a (i : Nat) = x
    generalize hy : rd_T41 b (i : Nat) = y
    by_cases he : fkey x = fkey y
    · have hn : (!((nk x.f0) == (nk y.f0)) || (!(x.f1 == y.f1))) = false := by
        unfold fkey at he
        injection he with h1 h2
        simp [h1, h2]
      have e : decide ((x :: a.drop (i + 1)).map fkey = (y :: b.drop (i + 1)).map fkey) = decide ((a.drop (i + 1)).map fkey = (b.drop (i + 1)).map fkey) := by simp [he]
      rw [e]
      refine ih.round fun k => ?_
      rw [windrowref10_SameClass.l0, if_pos (by omega), if_pos (by omega), if_pos (by omega), hx, hy, toList_eq, toList_eq, if_neg (by rw [hn]; decide), w64 (by omega) (by omega)]
      rfl
    · have hn : (!((nk x.f0) == (nk y.f0)) || (!(x.f1 == y.f1))) = true := by
        unfold fkey at he
        by_cases h1 : nk x.f0 = nk y.f0
        · have : x.f1 ≠ y.f1 := fun z => he (by rw [h1, z])
          rw [show (x.f1 == y.f1) = false from beq_eq_false_iff_ne.2 this]
          simp
        · rw [show (nk x.f0 == nk y.f0) = false from beq_eq_false_iff_ne.2 h1]
          rfl
      rw [decide_eq_false (by simp [he])]
      refine (Eo.of (g := fun _ => some false) fun _ => rfl).round fun k => ?_
      rw [windrowref10_SameClass.l0, if_pos (by omega), if_pos (by omega), if_pos (by omega), hx, hy, toList_eq, toList_eq, if_pos hn]
theorem sc_eo (x y : S34) (h15 : x.f1.length ≤ 15) : Eo (fun k => windrowref10_SameClass.f k x.f0 x.f1 y.f0 y.f1) (scB x y) := by
  unfold windrowref10_SameClass.f scB
  rw [toList_eq, toList_eq]
  by_cases h : nk x.f0 = nk y.f0
  · refine Eo.ite_pos h ?_
    by_cases hl : x.f1.length = y.f1.length
    · refine Eo.round (g := fun k => windrowref10_SameClass.l0 k 0 x.f0 x.f1 y.f0 y.f1) ?_ (fun k => ?_)
      · have := sc_l0 x.f0 y.f0 x.f1 y.f1 hl h15 x.f1.length 0 (by omega)
        rw [List.drop_zero, List.drop_zero] at this
        simpa [h] using this
      · rw [windrowref10_SameClass.j0, if_neg (by simp [hl])]
    · rw [decide_eq_false (fun z => hl (by have := congrArg List.length z.2; simpa using this))]
      refine (Eo.of (g := fun _ => some false) fun _ => rfl).round fun k => ?_
      rw [windrowref10_SameClass.j0, if_pos (by simp; omega)]
  · refine Eo.ite_neg h ?_
    rw [decide_eq_false (fun z => h z.1)]
    refine (Eo.of (g := fun _ => some false) fun _ => rfl).round fun k => ?_
    rw [windrowref10_SameClass.j0, if_pos rfl]
theorem sc_call {w : World} {s0 s1 : ByteArray} {A0 A1 : Option Addr} {c0 c1 : Nat} {a b : List S41} (h15 : a.length ≤ 15) (ha : Kd.C k41 w A0 a.length a) (hca : a.length ≤ c0) (hb : Kd.C k41 w A1 b.length b) (hcb : b.length ≤ c1) :
    Calls Try.prog 15 #[.agg #[.string s0, .slice A0 a.length c0], .agg #[.string s1, .slice A1 b.length c1]] w fun e w' => e = .returned (.bool (scB ⟨s0, a⟩ ⟨s1, b⟩)) ∧ Below w.heap.size w w' := by
  obtain ⟨k, hk⟩ := (sc_eo ⟨s0, a⟩ ⟨s1, b⟩ h15).get
  exact windrowref10_SameClass.calls k s0 A0 c0 a s1 A1 c1 b _ w ha hca hb hcb hk
theorem scB_refl (x : S34) : scB x x = true := by simp [scB]
end Go.Proofs.Yteankgbcmfkfnaa.Cl
