/- A class's fields, looked over. -/
import Derived.Test.YteankgbcmfkfnaaCn
import Derived.Test.YteankgbcmfkfnaaRg
import Derived.Deep.Cut
import Derived.Maps.Own
import Derived.Maps.OwnOps
import Derived.Maps.Views
namespace Go.Proofs.Yteankgbcmfkfnaa.Cl
open Go Go.RowKit Go.Proofs.Yteankgbcmfkfnaa.Hp Go.Proofs.Yteankgbcmfkfnaa.PH Go.Maps Go.WideMaps
open Go.Proofs.YteankgbcmfkfnaaW.PrintWords (bt Kd)
set_option linter.unusedVariables false
set_option linter.unusedSimpArgs false

abbrev nk (s : ByteArray) : List UInt8 := s.data.toList
theorem nm_len {s : ByteArray} (h : nm s = true) : s.size ≤ 16 := by
  unfold nm at h
  simp at h
  exact h.1.2
def Pw (i : Nat) : Int := IntKind.u64.wrap (2 ^ i)
/-- What fields tells, from some names on. -/
def fE : List (List UInt8) → List S41 → Int
  | _, [] => 0
  | pre, x :: r => if nm x.f0 = true then (if nk x.f0 ∈ pre then 41 else if x.f1 = 1 ∨ x.f1 = 2 then fE (pre ++ [nk x.f0]) r else 32) else 20
def fM : Int → Nat → List S41 → Int
  | v, _, [] => v
  | v, i, x :: r => fM (if x.f1 = 2 then Go.bits .or .u64 v (Pw i) else v) (i + 1) r
def fieldsE (l : List S41) : Int := if 15 < l.length then 3 else fE [] l
def fieldsM (l : List S41) : Int := if fieldsE l = 0 then fM 0 0 l else 0

theorem law : Keyed Try.prog 9 := string_keyed Try.underlying9
theorem zeroE (w : World) : (zeroValue 3).run Try.prog w = .ok (.int .i64 0) w := by kernel_rfl
/-- A map of names: those that were seen have a number above 0. -/
def NM (w : World) (b : Nat) (ns : List (List UInt8)) : Prop :=
  ∃ D : DataW Unit, w.ownsMap Try.prog 9 (plainElem Try.prog 3) b ns.length D ∧ IsMap D ∧ ∀ (kl : List UInt8) (c : Int), D.atKey (.string kl) (.lit (.int .i64 0)) = .lit (.int .i64 c) → (0 < c ↔ kl ∈ ns)
theorem NM.made (w : World) : NM (w.alloc (.map #[] 0)) w.heap.size [] := by
  refine ⟨.map [], World.ownsMap_made _ _ _ _, isMap_empty, fun kl c h => ?_⟩
  have h1 : (DataW.lit (.int .i64 0) : DataW Unit) = .lit (.int .i64 c) := h
  injection h1 with h1
  injection h1 with _ h1
  subst h1
  simp
theorem NM.kept {w w' : World} {b : Nat} {ns : List (List UInt8)} {row : Option Nat} (h : NM w b ns) (hg : w.grownBy w' row) (hne : some b ≠ row) : NM w' b ns := by
  obtain ⟨D, h1, h2⟩ := h
  exact ⟨D, h1.kept hg hne, h2⟩
theorem NM.lt {w : World} {b : Nat} {ns : List (List UInt8)} (h : NM w b ns) : b < w.heap.size := by
  obtain ⟨D, h1, h2⟩ := h
  exact h1.lt
theorem grown_below {w w' : World} (hb : Below w.heap.size w w') : w.grownBy w' none := ⟨hb.os, hb.tape, hb.output, hb.size, fun k hk _ => hb.block k hk⟩
theorem NM.below {w w' : World} {b : Nat} {ns : List (List UInt8)} (h : NM w b ns) (hb : Below w.heap.size w w') : NM w' b ns := h.kept (grown_below hb) (by simp)
theorem NM.put {w' : World} {b : Nat} {ns : List (List UInt8)} {D : DataW Unit} (hm : IsMap D) (hD : ∀ (kl : List UInt8) (c : Int), D.atKey (.string kl) (.lit (.int .i64 0)) = .lit (.int .i64 c) → (0 < c ↔ kl ∈ ns)) (x : List UInt8) (v : Int) (hv : 0 < v)
    (h : w'.ownsMap Try.prog 9 (plainElem Try.prog 3) b (ns.length + 1) (D.put (.string x) (.lit (.int .i64 v)))) : NM w' b (ns ++ [x]) := by
  refine ⟨_, by simpa using h, hm.put _ _, fun kl c hc => ?_⟩
  by_cases e : kl = x
  · subst e
    rw [atKey_put_same hm (show WideAt.IsKeyLit (.string kl) from trivial)] at hc
    injection hc with hc
    injection hc with _ hc
    subst hc
    simp [hv]
  · rw [atKey_put_other (fun z => e (by injection z))] at hc
    rw [hD kl c hc]
    simp [e]
theorem below_drewN {w w' : World} (h : ∃ n, w' = w.drewN n) : Below w.heap.size w w' := by
  obtain ⟨n, rfl⟩ := h
  exact ⟨rfl, rfl, rfl, Nat.le_refl _, fun _ _ => rfl⟩
theorem isName_call (s : ByteArray) (w : World) : Calls Try.prog 9 #[.string s] w fun e w' => e = .returned (.bool (nm s)) ∧ Below w.heap.size w w' :=
  (classes_IsName.calls 30 s (nm s) w (isName_eq s)).mono fun e w' hw => ⟨hw.1, by obtain ⟨nd, h2⟩ := hw.2; exact below_drewN ⟨nd, h2⟩⟩
theorem drop_cons (l : List S41) (k : Nat) (h : k < l.length) : l.drop k = rd_T41 l k :: l.drop (k + 1) := by
  rw [List.drop_eq_getElem_cons h]
  congr 1
  unfold rd_T41
  rw [Int.toNat_natCast, List.getD_eq_getElem?_getD, List.getElem?_eq_getElem h]
  rfl
theorem take_succ' (l : List S41) (k : Nat) (h : k < l.length) : (l.take (k + 1)).map (fun x => nk x.f0) = (l.take k).map (fun x => nk x.f0) ++ [nk (rd_T41 l k).f0] := by
  rw [List.take_add_one, List.map_append, List.getElem?_eq_getElem h]
  congr 1
  unfold rd_T41
  rw [Int.toNat_natCast, List.getD_eq_getElem?_getD, List.getElem?_eq_getElem h]
  rfl

set_option maxHeartbeats 4000000 in
set_option maxRecDepth 100000 in
theorem fields_call (nc : ByteArray) (A : Option Addr) (cp : Nat) (l : List S41) (w : World) (hr : Kd.C k41 w A l.length l) (hc : l.length ≤ cp) :
    Calls Try.prog 28 #[.agg #[.string nc, .slice A l.length cp]] w fun e w' => e = .returned (.tuple #[.int .u64 (fieldsM l), .int .i64 (fieldsE l)]) ∧ Below w.heap.size w w' := by
  have KB := Lib.hid (Hp.blk_new w (.cells #[.string nc, .slice A l.length cp] 34))
  have HB := Lib.hid ((Below.refl w.heap.size w).alloc (Nat.le_refl _) (.cells #[.string nc, .slice A l.length cp] 34))
  have HR := Lib.hid hr
  have hmm := @run_makeMap Try.prog
  obtain ⟨b0, -⟩ := Hp.blk_cell KB.out 0 rfl
  obtain ⟨b1, -⟩ := Hp.blk_cell KB.out 1 rfl
  clear hr
  by_cases h15 : 15 < l.length
  · have e1 : fieldsE l = 3 := by unfold fieldsE; rw [if_pos h15]
    have e2 : fieldsM l = 0 := by unfold fieldsM; rw [e1]; rfl
    rw [e1, e2]
    clear e1 e2
    go_enter Try.func28, Try.ntmps28
    go_wp2_with (fail)
    go_ret2
    exact ⟨rfl, HB.out⟩
  · have HE : Hid (fieldsE l = fE [] l) := Lib.hid (by unfold fieldsE; rw [if_neg h15])
    go_enter Try.func28, Try.ntmps28
    go_wp2_with (fail)
    obtain ⟨mb, hmb⟩ : ∃ mb, mb = w.heap.size + 1 := ⟨_, rfl⟩
    have HNM : Hid (NM ((w.alloc (.cells #[.string nc, .slice A l.length cp] 34)).alloc (.map #[] 0)) mb []) := Lib.hid (by
      have := NM.made (w.alloc (.cells #[.string nc, .slice A l.length cp] 34))
      rw [hmb]; simpa using this)
    have hml : w.heap.size ≤ mb := by omega
    replace HB := Lib.hid (HB.out.alloc HB.out.size (.map #[] 0))
    generalize ((w.alloc (.cells #[.string nc, .slice A l.length cp] 34)).alloc (.map #[] 0)) = w0 at HNM HB ⊢
    simp only [← hmb]
    clear hmb b0 b1 KB
    go_loopw [4, 16] (fun v4 v16 wr => ∃ (k : Nat) (v : Int), k ≤ l.length ∧ v16 = .int .i64 k ∧ v4 = .int .u64 v ∧ Hid (NM wr mb ((l.take k).map fun x => nk x.f0)) ∧ Hid (Below w.heap.size w wr) ∧ Hid (fE [] l = fE ((l.take k).map fun x => nk x.f0) (l.drop k)) ∧ Hid (fM 0 0 l = fM v k (l.drop k))) (fun _ v16 _ => l.length - (intOf v16).toNat)
    case atStart => exact ⟨0, 0, Nat.zero_le _, rfl, rfl, HNM, HB, Lib.hid rfl, Lib.hid rfl⟩
    case round =>
      obtain ⟨k, v, hk, rfl, rfl, HN, HBr, HE2, HM⟩ := hrel
      clear HNM HB
      by_cases hkl : k < l.length
      · have HCr := Kd.C_below HR.out HBr.out
        obtain ⟨ad, hA, r0, r1⟩ := at_T41 HCr (k : Int) (by omega) (by omega)
        clear HCr
        subst hA
        rw [Int.toNat_natCast] at r0 r1
        obtain ⟨x, hx⟩ : ∃ x, x = rd_T41 l (k : Int) := ⟨_, rfl⟩
        have hd := drop_cons l k hkl
        have ht := take_succ' l k hkl
        rw [← hx] at r0 r1 hd ht
        have HD := Lib.hid hd
        have HT := Lib.hid ht
        clear hx hd ht
        obtain ⟨f0, f1⟩ := x
        simp only at r0 r1
        have HBA := Lib.hid (HBr.out.alloc HBr.out.size (.cells #[.string f0, .int .i64 f1] 41))
        have HOA := Lib.hid (Hp.blk_new wr (.cells #[.string f0, .int .i64 f1] 41))
        have HNA := Lib.hid (HN.out.below ((Below.refl _ wr).alloc (Nat.le_refl _) (.cells #[.string f0, .int .i64 f1] 41)))
        clear HBr HN
        go_upto_if 24 with (first
          | (go_at_call 9; ((with_reducible refine (isName_call f0 _).mono ?_); rintro e w2 ⟨rfl, hb⟩; replace HOA := Lib.hid ((hb.block _ (blk_lt HOA.out)).trans HOA.out); replace HNA := Lib.hid (HNA.out.below hb); replace HBA := Lib.hid (HBA.out.trans (hb.mono HBA.out.size)); clear hb)))
        have hh : fE [] l = (if nm f0 = true then (if nk f0 ∈ ((l.take k).map fun x => nk x.f0) then 41 else if f1 = 1 ∨ f1 = 2 then fE (((l.take k).map fun x => nk x.f0) ++ [nk f0]) (l.drop (k + 1)) else 32) else 20) := by
          rw [HE2.out, HD.out]; rfl
        have HH := Lib.hid hh
        clear hh
        rcases Bool.eq_false_or_eq_true (nm f0) with hn | hn
        case inr =>
          have he : fieldsE l = 20 := by rw [HE.out, HH.out, if_neg (by rw [hn]; decide)]
          have hm : fieldsM l = 0 := by unfold fieldsM; rw [he]; rfl
          simp only [hn, Bool.not_false]
          go_wp2_with (fail)
          go_ret2
          exact ⟨by simp [he, hm], HBA.out⟩
        simp only [hn, Bool.not_true]
        obtain ⟨D, hown, hmD, hD⟩ := HNA.out
        have hkey : keyOf Try.prog 9 (.string f0) = some (.string (nk f0)) := keyOf_string_mk Try.underlying9 (by have := nm_len hn; unfold maxLen; omega)
        obtain ⟨q0, -⟩ := Hp.blk_cell HOA.out 0 rfl
        obtain ⟨q1, -⟩ := Hp.blk_cell HOA.out 1 rfl
        have HDD := Lib.hid hD
        have HOW := Lib.hid hown
        have HMD := Lib.hid hmD
        have HKEY := Lib.hid hkey
        clear hD hown hmD hkey HNA
        go_upto_if 29 with (at_lookup; (refine wpList_lookup_own_int _ rfl _ _ 65 rfl 9 3 .i64 law Try.underlying65 Try.underlying3 (zeroE _) mb _ D rfl HOW.out _ _ rfl HKEY.out ?_; intro c hat hwc))
        have hiff := HDD.out _ c hat
        by_cases hc0 : 0 < c
        · have he : fieldsE l = 41 := by rw [HE.out, HH.out, if_pos hn, if_pos (hiff.1 hc0)]
          have hm : fieldsM l = 0 := by unfold fieldsM; rw [he]; rfl
          simp only [decide_eq_true hc0]
          go_wp2_with (fail)
          go_ret2
          exact ⟨by simp [he, hm], HBA.out⟩
        · have hni : ¬ nk f0 ∈ ((l.take k).map fun x => nk x.f0) := fun z => hc0 (hiff.2 z)
          have HH2 : Hid (fE [] l = (if f1 = 1 ∨ f1 = 2 then fE (((l.take k).map fun x => nk x.f0) ++ [nk f0]) (l.drop (k + 1)) else 32)) := Lib.hid (by rw [HH.out, if_pos hn, if_neg hni])
          have hn15 : l.length ≤ 15 := by omega
          have hlen : ((l.take k).map fun x => nk x.f0).length = k := by rw [List.length_map, List.length_take]; omega
          have HLEN := Lib.hid hlen
          clear hlen hiff hat hni HH
          simp only [decide_eq_false hc0]
          have ew : wrap64 ((k : Int) + 1) = (k : Int) + 1 := by unfold wrap64; omega
          clear hc0 hwc
          go_upto_region 13 with (at_mapUpdate; (refine wpList_mapUpdate_own _ rfl _ _ _ 65 rfl 9 3 law Try.underlying65 _ mb _ D rfl HOW.out (by rw [HLEN.out]; unfold maxLen; omega) _ _ _ rfl rfl HKEY.out _ [] (plainElem_int Try.underlying3 (a := (k : Int) + 1) (WalkArith.wf_i64 (by omega))) ?_; intro w3 hown3 hgrow3))
          have hn4 := NM.put HMD.out HDD.out (nk f0) ((k : Int) + 1) (by omega) hown3
          rw [← show ((l.take (k + 1)).map fun x => nk x.f0) = ((l.take k).map fun x => nk x.f0) ++ [nk f0] from HT.out] at hn4
          have HN4 := Lib.hid hn4
          have HB4 := Lib.hid (HBA.out.grown hgrow3 HBA.out.size (fun j hj => by cases hj; exact hml))
          have HO4 := Lib.hid ((hgrow3.block _ (blk_lt HOA.out) (fun z => by
            injection z with z
            obtain ⟨es, clock, hb2, _⟩ := HOW.out
            rw [← z, HOA.out] at hb2
            injection hb2 with hb2
            cases hb2)).trans HOA.out)
          have HM2 : Hid (fM 0 0 l = fM (if f1 = 2 then Go.bits .or .u64 v (Pw k) else v) (k + 1) (l.drop (k + 1))) := Lib.hid (by rw [HM.out, HD.out]; rfl)
          have HH3 : Hid (fE [] l = (if f1 = 1 ∨ f1 = 2 then fE ((l.take (k + 1)).map fun x => nk x.f0) (l.drop (k + 1)) else 32)) := Lib.hid (by rw [HH2.out, show ((l.take (k + 1)).map fun x => nk x.f0) = ((l.take k).map fun x => nk x.f0) ++ [nk f0] from HT.out])
          clear hn4 hown3 hgrow3 HMD HDD HOW HBA HOA HM HH2 HD HT HKEY HLEN q0 q1 r0 r1
          obtain ⟨q1, -⟩ := Hp.blk_cell HO4.out 1 rfl
          by_cases h1 : f1 = 1
          · subst h1
            go_wp2_with (fail)
            go_roundw
            case rel => exact ⟨k + 1, v, by omega, by go_num, rfl, HN4, HB4, Lib.hid (by rw [HH3.out, if_pos (.inl rfl)]), Lib.hid (by rw [HM2.out, if_neg (by decide)])⟩
            case measure => simp [intOf]; omega
          · by_cases h2 : f1 = 2
            · subst h2
              go_wp2_with (fail)
              go_roundw
              case rel => exact ⟨k + 1, Go.bits .or .u64 v (Pw k), by omega, by go_num, by unfold Pw; rfl, HN4, HB4, Lib.hid (by rw [HH3.out, if_pos (.inr rfl)]), Lib.hid (by rw [HM2.out, if_pos rfl])⟩
              case measure => simp [intOf]; omega
            · have n1 : (f1 == 1) = false := by simp [h1]
              have n2 : (f1 == 2) = false := by simp [h2]
              have he : fieldsE l = 32 := by rw [HE.out, HH3.out, if_neg (by omega)]
              have hm : fieldsM l = 0 := by unfold fieldsM; rw [he]; rfl
              go_wp2_with (fail)
              go_ret2
              exact ⟨by simp [he, hm], HB4.out⟩
      · obtain rfl : k = l.length := by omega
        have he : fieldsE l = 0 := by rw [HE.out, HE2.out, List.drop_length]; rfl
        have hm : fieldsM l = v := by unfold fieldsM; rw [if_pos he, HM.out, List.drop_length]; rfl
        go_wp2_with (fail)
        go_ret2
        exact ⟨by simp [he, hm], HBr.out⟩
end Go.Proofs.Yteankgbcmfkfnaa.Cl
