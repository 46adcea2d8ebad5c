/- Check tells what New tells. -/
import Derived.Test.YteankgbcmfkfnaaNew
import Derived.Test.YteankgbcmfkfnaaPHx5
import Derived.Test.YteankgbcmfkfnaaPHx6
import Derived.Test.YteankgbcmfkfnaaEo
namespace Go.Proofs.Yteankgbcmfkfnaa.Cl
open Go Go.RowKit Go.Proofs.Yteankgbcmfkfnaa.Hp Go.Proofs.Yteankgbcmfkfnaa.PH Go.Proofs.Yteankgbcmfkfnaa.Eo
open Go.Proofs.YteankgbcmfkfnaaW.PrintWords (bt Kd Drawn0)
set_option linter.unusedVariables false
set_option linter.unusedSimpArgs false

theorem toList_loop (a : ByteArray) : ∀ (d i : Nat) (r : List UInt8), d = a.size - i → ByteArray.toList.loop a i r = r.reverse ++ a.data.toList.drop i
  | 0, i, r, h => by
    unfold ByteArray.toList.loop
    rw [if_neg (by omega), List.drop_eq_nil_of_le (by rw [Array.length_toList]; show a.size ≤ i; omega), List.append_nil]
  | d + 1, i, r, h => by
    have hi : i < a.data.toList.length := by rw [Array.length_toList]; show i < a.size; omega
    unfold ByteArray.toList.loop
    rw [if_pos (by omega), toList_loop a d (i + 1) _ (by omega), List.reverse_cons, List.append_assoc, List.drop_eq_getElem_cons hi]
    congr 1
    simp [ByteArray.get!, getElem!_def]
    rw [Array.getElem?_eq_getElem (by simpa using hi)]
theorem toList_eq (a : ByteArray) : a.toList = nk a := by
  have := toList_loop a a.size 0 [] rfl
  simpa [ByteArray.toList] using this
theorem name_eo (s : ByteArray) : Eo (fun k => windrowref10_Name.f k s) (nm s) := ⟨30, fun k hk => by
  have : ∀ j, windrowref10_Name.f (30 + j) s = some (nm s) := fun j => by
    induction j with
    | zero => exact name_eq s
    | succ j ih => exact windrowref10_Name.mono _ _ _ ih
  have := this (k - 30)
  rwa [show 30 + (k - 30) = k by omega] at this⟩

theorem mem_take41 (l : List S41) (s : List UInt8) (i : Nat) (hi : i ≤ l.length) : s ∈ ((l.take i).map fun x => nk x.f0) ↔ ∃ j, j < i ∧ nk (rd_T41 l (j : Nat)).f0 = s := by
  have hg : ∀ j (h : j < l.length), rd_T41 l (j : Nat) = l[j] := fun j h => by
    unfold rd_T41
    rw [Int.toNat_natCast, List.getD_eq_getElem?_getD, List.getElem?_eq_getElem h]
    rfl
  constructor
  · intro h
    obtain ⟨x, hx, rfl⟩ := List.mem_map.1 h
    obtain ⟨j, hj, rfl⟩ := List.mem_iff_getElem.1 hx
    rw [List.length_take] at hj
    exact ⟨j, by omega, by rw [hg j (by omega), List.getElem_take]⟩
  · rintro ⟨j, hj, rfl⟩
    rw [hg j (by omega)]
    refine List.mem_map.2 ⟨l[j], List.mem_iff_getElem.2 ⟨j, by rw [List.length_take]; omega, by rw [List.getElem_take]⟩, rfl⟩

theorem mem_take34 (l : List S34) (s : List UInt8) (i : Nat) (hi : i ≤ l.length) : s ∈ ((l.take i).map fun x => nk x.f0) ↔ ∃ j, j < i ∧ nk (rd_T34 l (j : Nat)).f0 = s := by
  have hg : ∀ j (h : j < l.length), rd_T34 l (j : Nat) = l[j] := fun j h => by
    unfold rd_T34
    rw [Int.toNat_natCast, List.getD_eq_getElem?_getD, List.getElem?_eq_getElem h]
    rfl
  constructor
  · intro h
    obtain ⟨x, hx, rfl⟩ := List.mem_map.1 h
    obtain ⟨j, hj, rfl⟩ := List.mem_iff_getElem.1 hx
    rw [List.length_take] at hj
    exact ⟨j, by omega, by rw [hg j (by omega), List.getElem_take]⟩
  · rintro ⟨j, hj, rfl⟩
    rw [hg j (by omega)]
    refine List.mem_map.2 ⟨l[j], List.mem_iff_getElem.2 ⟨j, by rw [List.length_take]; omega, by rw [List.getElem_take]⟩, rfl⟩

theorem fields_l1 (l : List S41) (i : Nat) (hi : i < l.length) (h15 : l.length ≤ 15) (R : Int)
    (hR : Eo (fun k => if (rd_T41 l (i : Nat)).f1 = 1 then windrowref10_fields.l0 k l (wrap64 ((i : Int) + 1)) else (if (rd_T41 l (i : Nat)).f1 = 2 then windrowref10_fields.l0 k l (wrap64 ((i : Int) + 1)) else some 32)) R) :
    ∀ (d j : Nat), j + d = i → (∀ j', j' < j → nk (rd_T41 l (j' : Nat)).f0 ≠ nk (rd_T41 l (i : Nat)).f0) →
      Eo (fun k => windrowref10_fields.l1 k l (i : Nat) (j : Nat)) (if nk (rd_T41 l (i : Nat)).f0 ∈ ((l.take i).map fun x => nk x.f0) then 41 else R)
  | 0, j, hj, hno => by
    obtain rfl : j = i := by omega
    rw [if_neg (fun z => by
      obtain ⟨j', h1, h2⟩ := (mem_take41 l _ j (by omega)).1 z
      exact hno j' h1 h2)]
    refine hR.round fun k => ?_
    rw [windrowref10_fields.l1, if_neg (by omega), if_pos (by omega), if_pos (by omega)]
  | d + 1, j, hj, hno => by
    by_cases he : nk (rd_T41 l (j : Nat)).f0 = nk (rd_T41 l (i : Nat)).f0
    · rw [if_pos ((mem_take41 l _ i (by omega)).2 ⟨j, by omega, he⟩)]
      refine (Eo.of (g := fun _ => some 41) fun _ => rfl).round fun k => ?_
      rw [windrowref10_fields.l1, if_pos (by omega), if_pos (by omega), if_pos (by omega), if_pos (by omega), if_pos (by omega), toList_eq, toList_eq, if_pos he]
    · refine (fields_l1 l i hi h15 R hR d (j + 1) (by omega) (fun j' h1 => ?_)).round fun k => ?_
      · by_cases hjj : j' = j
        · subst hjj; exact he
        · exact hno j' (by omega)
      · rw [windrowref10_fields.l1, if_pos (by omega), if_pos (by omega), if_pos (by omega), if_pos (by omega), if_pos (by omega), toList_eq, toList_eq, if_neg he, w64 (by omega) (by omega)]
        rfl
theorem fields_l0 (l : List S41) (h15 : l.length ≤ 15) : ∀ (d i : Nat), i + d = l.length → Eo (fun k => windrowref10_fields.l0 k l (i : Nat)) (fE ((l.take i).map fun x => nk x.f0) (l.drop i))
  | 0, i, h => by
    rw [List.drop_eq_nil_of_le (by omega)]
    refine (Eo.of (g := fun _ => some 0) fun _ => rfl).round fun k => ?_
    rw [windrowref10_fields.l0, if_neg (by omega)]
  | d + 1, i, h => by
    have ih := fields_l0 l h15 d (i + 1) (by omega)
    rw [take_succ' l i (by omega)] at ih
    rw [drop_cons l i (by omega)]
    generalize hx : rd_T41 l (i : Nat) = x at ih
    show Eo _ (if nm x.f0 = true then (if nk x.f0 ∈ ((l.take i).map fun x => nk x.f0) then 41 else if x.f1 = 1 ∨ x.f1 = 2 then fE (((l.take i).map fun x => nk x.f0) ++ [nk x.f0]) (l.drop (i + 1)) else 32) else 20)
    refine Eo.round (g := fun k => (windrowref10_Name.f k x.f0).bind fun t125 => (if t125 = true then (windrowref10_fields.l1 k l (i : Nat) 0) else (some 20))) (Eo.bind (f := fun t125 k => (if t125 = true then (windrowref10_fields.l1 k l (i : Nat) 0) else (some 20))) (name_eo x.f0) ?_) (fun k => ?_)
    · by_cases hn : nm x.f0 = true
      · rw [if_pos hn]
        refine Eo.ite_pos hn ?_
        have := fields_l1 l i (by omega) h15 (if x.f1 = 1 ∨ x.f1 = 2 then fE (((l.take i).map fun x => nk x.f0) ++ [nk x.f0]) (l.drop (i + 1)) else 32) ?_ i 0 (by omega) (fun _ h => by omega)
        · rw [hx] at this
          exact this
        · rw [hx]
          by_cases h1 : x.f1 = 1
          · rw [if_pos (.inl h1)]
            refine Eo.ite_pos h1 ?_
            rw [w64 (by omega) (by omega)]
            exact ih
          · refine Eo.ite_neg h1 ?_
            by_cases h2 : x.f1 = 2
            · rw [if_pos (.inr h2)]
              refine Eo.ite_pos h2 ?_
              rw [w64 (by omega) (by omega)]
              exact ih
            · rw [if_neg (by omega)]
              exact Eo.ite_neg h2 (Eo.of fun _ => rfl)
      · rw [if_neg hn]
        exact Eo.ite_neg hn (Eo.of fun _ => rfl)
    · rw [windrowref10_fields.l0, if_pos (by omega), if_pos (by omega), hx]
theorem fields_eo (l : List S41) : Eo (fun k => windrowref10_fields.f k l) (fieldsE l) := by
  unfold windrowref10_fields.f fieldsE
  by_cases h : 15 < l.length
  · rw [if_pos h]
    exact Eo.ite_pos (by omega) (Eo.of fun _ => rfl)
  · rw [if_neg h]
    exact Eo.ite_neg (by omega) (fields_l0 l (by omega) l.length 0 (by omega))

theorem check_l1 (l : List S34) (i : Nat) (hi : i < l.length) (h16 : l.length ≤ 16) (R : Int × Int)
    (hR : Eo (fun k => (windrowref10_fields.f k ((rd_T34 l (i : Nat)).f1)).bind fun t135 => (if t135 = 0 then (windrowref10_Check.l0 k l (wrap64 ((i : Int) + 1))) else (some ((i : Int), t135)))) R) :
    ∀ (d j : Nat), j + d = i → (∀ j', j' < j → nk (rd_T34 l (j' : Nat)).f0 ≠ nk (rd_T34 l (i : Nat)).f0) →
      Eo (fun k => windrowref10_Check.l1 k l (i : Nat) (j : Nat)) (if nk (rd_T34 l (i : Nat)).f0 ∈ ((l.take i).map fun x => nk x.f0) then ((i : Int), 41) else R)
  | 0, j, hj, hno => by
    obtain rfl : j = i := by omega
    rw [if_neg (fun z => by
      obtain ⟨j', h1, h2⟩ := (mem_take34 l _ j (by omega)).1 z
      exact hno j' h1 h2)]
    refine hR.round fun k => ?_
    rw [windrowref10_Check.l1, if_neg (by omega), if_pos (by omega), if_pos (by omega)]
  | d + 1, j, hj, hno => by
    by_cases he : nk (rd_T34 l (j : Nat)).f0 = nk (rd_T34 l (i : Nat)).f0
    · rw [if_pos ((mem_take34 l _ i (by omega)).2 ⟨j, by omega, he⟩)]
      refine (Eo.of (g := fun _ => some ((i : Int), 41)) fun _ => rfl).round fun k => ?_
      rw [windrowref10_Check.l1, if_pos (by omega), if_pos (by omega), if_pos (by omega), if_pos (by omega), if_pos (by omega), toList_eq, toList_eq, if_pos he]
    · refine (check_l1 l i hi h16 R hR d (j + 1) (by omega) (fun j' h1 => ?_)).round fun k => ?_
      · by_cases hjj : j' = j
        · subst hjj; exact he
        · exact hno j' (by omega)
      · rw [windrowref10_Check.l1, if_pos (by omega), if_pos (by omega), if_pos (by omega), if_pos (by omega), if_pos (by omega), toList_eq, toList_eq, if_neg he, w64 (by omega) (by omega)]
        rfl
theorem take_succ34' (l : List S34) (k : Nat) (h : k < l.length) : (l.take (k + 1)).map (fun x => nk x.f0) = (l.take k).map (fun x => nk x.f0) ++ [nk (rd_T34 l k).f0] := by
  rw [take_succ34 l k h, List.map_append]
  rfl
theorem check_l0 (l : List S34) (h16 : l.length ≤ 16) : ∀ (d i : Nat), i + d = l.length → Eo (fun k => windrowref10_Check.l0 k l (i : Nat)) (cE i ((l.take i).map fun x => nk x.f0) (l.drop i))
  | 0, i, h => by
    rw [List.drop_eq_nil_of_le (by omega)]
    refine (Eo.of (g := fun _ => some (0, 0)) fun _ => rfl).round fun k => ?_
    rw [windrowref10_Check.l0, if_neg (by omega)]
  | d + 1, i, h => by
    have ih := check_l0 l h16 d (i + 1) (by omega)
    rw [take_succ34' l i (by omega)] at ih
    rw [drop_cons34 l i (by omega)]
    generalize hx : rd_T34 l (i : Nat) = x at ih
    show Eo _ (if nm x.f0 = true then (if nk x.f0 ∈ ((l.take i).map fun x => nk x.f0) then ((i : Int), 41) else if fieldsE x.f1 = 0 then cE (i + 1) (((l.take i).map fun x => nk x.f0) ++ [nk x.f0]) (l.drop (i + 1)) else ((i : Int), fieldsE x.f1)) else ((i : Int), 20))
    refine Eo.round (g := fun k => (windrowref10_Name.f k x.f0).bind fun t125 => (if t125 = true then (windrowref10_Check.l1 k l (i : Nat) 0) else (some ((i : Int), 20)))) (Eo.bind (f := fun t125 k => (if t125 = true then (windrowref10_Check.l1 k l (i : Nat) 0) else (some ((i : Int), 20)))) (name_eo x.f0) ?_) (fun k => ?_)
    · by_cases hn : nm x.f0 = true
      · rw [if_pos hn]
        refine Eo.ite_pos hn ?_
        have := check_l1 l i (by omega) h16 (if fieldsE x.f1 = 0 then cE (i + 1) (((l.take i).map fun x => nk x.f0) ++ [nk x.f0]) (l.drop (i + 1)) else ((i : Int), fieldsE x.f1)) ?_ i 0 (by omega) (fun _ h => by omega)
        · rw [hx] at this
          exact this
        · rw [hx]
          refine Eo.bind (f := fun t135 k => (if t135 = 0 then (windrowref10_Check.l0 k l (wrap64 ((i : Int) + 1))) else (some ((i : Int), t135)))) (fields_eo x.f1) ?_
          by_cases h1 : fieldsE x.f1 = 0
          · rw [if_pos h1]
            refine Eo.ite_pos h1 ?_
            rw [w64 (by omega) (by omega)]
            exact ih
          · rw [if_neg h1]
            exact Eo.ite_neg h1 (Eo.of fun _ => rfl)
      · rw [if_neg hn]
        exact Eo.ite_neg hn (Eo.of fun _ => rfl)
    · rw [windrowref10_Check.l0, if_pos (by omega), if_pos (by omega), hx]
theorem check_eo (l : List S34) : Eo (fun k => windrowref10_Check.f k l) (newE l) := by
  unfold windrowref10_Check.f newE
  by_cases h : 16 < l.length
  · rw [if_pos h]
    exact Eo.ite_pos (by omega) (Eo.of fun _ => rfl)
  · rw [if_neg h]
    exact Eo.ite_neg (by omega) (check_l0 l (by omega) l.length 0 (by omega))
theorem below_drawn {w w' : World} (hw : Drawn0 w w') : Below w.heap.size w w' := by obtain ⟨nd, h2⟩ := hw; exact below_drewN ⟨nd, h2⟩
theorem check_call (A : Option Addr) (cp : Nat) (l : List S34) (w : World) (hr : Kd.C k34 w A l.length l) (hc : l.length ≤ cp) : Calls Try.prog 12 #[.slice A l.length cp] w fun e w' => e = .returned (.tuple #[.int .i64 (newE l).1, .int .i64 (newE l).2]) ∧ Below w.heap.size w w' := by
  obtain ⟨k, hk⟩ := (check_eo l).get
  exact (windrowref10_Check.calls k A cp l (newE l).1 (newE l).2 w hr hc hk).mono fun e w' h => ⟨h.1, below_drawn h.2⟩
end Go.Proofs.Yteankgbcmfkfnaa.Cl
