/- Words packed and unpacked, in plain numbers. -/
import Derived.Test.YtahmhhbpdgopjaaDoorWpB
namespace Go.Proofs.YtahmhhbpdgopjaaDoor.Wp
open Go.RowKit Go.Proofs.YtahmhhbpdgopjaaDoor.PAll Go.Proofs.YtahmhhbpdgopjaaDoorW.PrintWords Go.Proofs.YtahmhhbpdgopjaaDoorW.PrintLast Go.Proofs.YtahmhhbpdgopjaaDoorW.PrintMore
open Go.Proofs.YtahmhhbpdgopjaaDoor.Wp Go.Proofs.YtahmhhbpdgopjaaDoor.Eo Go.Proofs.YtahmhhbpdgopjaaDoor.Wd Go.Proofs.YtahmhhbpdgopjaaDoor.Bt
set_option linter.unusedVariables false

theorem rd_mem {L : List Int} {j : Nat} (h : j < L.length) : rd L (j : Int) ∈ L := by
  unfold rd
  rw [Int.toNat_natCast, List.getD_eq_getElem?_getD, List.getElem?_eq_getElem h]
  exact List.getElem_mem h

theorem pack_eo {vs ws : List Int} (hv : ∀ x ∈ vs, W x) (hn : vs.length ≤ 200) (hl : vs.length = ws.length) : ∀ d j : Nat, j + d = vs.length → ∀ w at_ : Int, W w →
    ∃ r, Eo (fun k => word_Pack.l0 k ws w at_ vs (vs.length : Int) (j : Int)) r ∧ Eo (fun k => windrowref01_Pack.l0 k vs ws w at_ (j : Int)) r := by
  intro d
  induction d with
  | zero =>
    intro j hj w at_ hw
    refine ⟨(w, 0), ⟨1, fun k hk => ?_⟩, ⟨1, fun k hk => ?_⟩⟩
    · obtain ⟨q, rfl⟩ : ∃ q, k = q + 1 := ⟨k - 1, by omega⟩
      show word_Pack.l0 (q + 1) ws w at_ vs (vs.length : Int) j = _
      rw [word_Pack.l0]; exact itn (by omega) rfl
    · obtain ⟨q, rfl⟩ : ∃ q, k = q + 1 := ⟨k - 1, by omega⟩
      show windrowref01_Pack.l0 (q + 1) vs ws w at_ j = _
      rw [windrowref01_Pack.l0]; exact itn (by omega) rfl
  | succ d ih =>
    intro j hj w at_ hw
    have hvj := hv _ (rd_mem (L := vs) (j := j) (by omega))
    obtain ⟨x, e, p, hx⟩ := put_some hw hvj at_ (rd ws (j : Int))
    obtain ⟨K1, h1⟩ := rput_eo hw hvj p
    by_cases he : e = 0
    · obtain ⟨r, ⟨K2, h2⟩, ⟨K3, h3⟩⟩ := ih (j + 1) (by omega) x (wrap64 (at_ + rd ws (j : Int))) hx
      refine ⟨r, ⟨K2 + 1, fun k hk => ?_⟩, ⟨K1 + K3 + 1, fun k hk => ?_⟩⟩
      · obtain ⟨q, rfl⟩ : ∃ q, k = q + 1 := ⟨k - 1, by omega⟩
        show word_Pack.l0 (q + 1) ws w at_ vs (vs.length : Int) j = _
        rw [word_Pack.l0, w64 (x := (j : Int) + 1) (by omega) (by omega)]
        exact itp (by omega) (itp (by omega) (itp (by omega) (itp (by omega) (bnd p (itp he (h2 q (by omega)))))))
      · obtain ⟨q, rfl⟩ : ∃ q, k = q + 1 := ⟨k - 1, by omega⟩
        show windrowref01_Pack.l0 (q + 1) vs ws w at_ j = _
        rw [windrowref01_Pack.l0, w64 (x := (j : Int) + 1) (by omega) (by omega)]
        exact itp (by omega) (itp (by omega) (itp (by omega) (bnd (h1 q (by omega)) (itp he (h3 q (by omega))))))
    · refine ⟨(0, e), ⟨1, fun k hk => ?_⟩, ⟨K1 + 1, fun k hk => ?_⟩⟩
      · obtain ⟨q, rfl⟩ : ∃ q, k = q + 1 := ⟨k - 1, by omega⟩
        show word_Pack.l0 (q + 1) ws w at_ vs (vs.length : Int) j = _
        rw [word_Pack.l0]
        exact itp (by omega) (itp (by omega) (itp (by omega) (itp (by omega) (bnd p (itn he rfl)))))
      · obtain ⟨q, rfl⟩ : ∃ q, k = q + 1 := ⟨k - 1, by omega⟩
        show windrowref01_Pack.l0 (q + 1) vs ws w at_ j = _
        rw [windrowref01_Pack.l0]
        exact itp (by omega) (itp (by omega) (itp (by omega) (bnd (h1 q (by omega)) (itn he rfl))))

theorem packs_eo {vs ws : List Int} (hv : ∀ x ∈ vs, W x) (hn : vs.length ≤ 200) : ∃ r, Eo (fun k => word_Pack.f k vs ws) r ∧ Eo (fun k => windrowref01_Pack.f k vs ws) r := by
  by_cases hl : vs.length = ws.length
  · obtain ⟨r, h1, h2⟩ := pack_eo hv hn hl vs.length 0 (by omega) 0 0 W_zero
    exact ⟨r, h1.congr fun k => by unfold word_Pack.f; exact itp (by omega) rfl, h2.congr fun k => by unfold windrowref01_Pack.f; exact itp (by omega) rfl⟩
  · exact ⟨(0, 1), Eo.of fun k => by unfold word_Pack.f; exact itn (by omega) rfl, Eo.of fun k => by unfold windrowref01_Pack.f; exact itn (by omega) rfl⟩

theorem unpack_eo {ws : List Int} {w : Int} (hw : W w) (hn : ws.length ≤ 200) : ∀ d j : Nat, j + d = ws.length → ∀ (L : List Int) (at_ : Int), L.length = j →
    ∃ r, Eo (fun k => word_Unpack.l0 k w at_ L ws (ws.length : Int) (j : Int)) r ∧ Eo (fun k => windrowref01_Unpack.l0 k w ws L at_ (j : Int)) r ∧ r.1.length ≤ 200 := by
  intro d
  induction d with
  | zero =>
    intro j hj L at_ hL
    refine ⟨(L, 0), ⟨1, fun k hk => ?_⟩, ⟨1, fun k hk => ?_⟩, (show L.length ≤ 200 by omega)⟩
    · obtain ⟨q, rfl⟩ : ∃ q, k = q + 1 := ⟨k - 1, by omega⟩
      show word_Unpack.l0 (q + 1) w at_ L ws (ws.length : Int) j = _
      rw [word_Unpack.l0]; exact itn (by omega) rfl
    · obtain ⟨q, rfl⟩ : ∃ q, k = q + 1 := ⟨k - 1, by omega⟩
      show windrowref01_Unpack.l0 (q + 1) w ws L at_ j = _
      rw [windrowref01_Unpack.l0]; exact itn (by omega) rfl
  | succ d ih =>
    intro j hj L at_ hL
    obtain ⟨x, e, p, hx⟩ := get_some hw at_ (rd ws (j : Int))
    obtain ⟨K1, h1⟩ := rget_eo hw p
    by_cases he : e = 0
    · obtain ⟨r, ⟨K2, h2⟩, ⟨K3, h3⟩, hr⟩ := ih (j + 1) (by omega) (L ++ [x]) (wrap64 (at_ + rd ws (j : Int))) (by rw [List.length_append, hL]; rfl)
      refine ⟨r, ⟨K2 + 1, fun k hk => ?_⟩, ⟨K1 + K3 + 1, fun k hk => ?_⟩, hr⟩
      · obtain ⟨q, rfl⟩ : ∃ q, k = q + 1 := ⟨k - 1, by omega⟩
        show word_Unpack.l0 (q + 1) w at_ L ws (ws.length : Int) j = _
        rw [word_Unpack.l0, w64 (x := (j : Int) + 1) (by omega) (by omega)]
        exact itp (by omega) (itp (by omega) (itp (by omega) (bnd p (itp he (itp (by omega) (h2 q (by omega)))))))
      · obtain ⟨q, rfl⟩ : ∃ q, k = q + 1 := ⟨k - 1, by omega⟩
        show windrowref01_Unpack.l0 (q + 1) w ws L at_ j = _
        rw [windrowref01_Unpack.l0, w64 (x := (j : Int) + 1) (by omega) (by omega)]
        exact itp (by omega) (itp (by omega) (bnd (h1 q (by omega)) (itp he (itp (by omega) (h3 q (by omega))))))
    · refine ⟨([], e), ⟨1, fun k hk => ?_⟩, ⟨K1 + 1, fun k hk => ?_⟩, Nat.zero_le _⟩
      · obtain ⟨q, rfl⟩ : ∃ q, k = q + 1 := ⟨k - 1, by omega⟩
        show word_Unpack.l0 (q + 1) w at_ L ws (ws.length : Int) j = _
        rw [word_Unpack.l0]
        exact itp (by omega) (itp (by omega) (itp (by omega) (bnd p (itn he rfl))))
      · obtain ⟨q, rfl⟩ : ∃ q, k = q + 1 := ⟨k - 1, by omega⟩
        show windrowref01_Unpack.l0 (q + 1) w ws L at_ j = _
        rw [windrowref01_Unpack.l0]
        exact itp (by omega) (itp (by omega) (bnd (h1 q (by omega)) (itn he rfl)))

theorem unpacks_eo {ws : List Int} {w : Int} (hw : W w) (hn : ws.length ≤ 200) : ∃ r, Eo (fun k => word_Unpack.f k w ws) r ∧ Eo (fun k => windrowref01_Unpack.f k w ws) r ∧ r.1.length ≤ 200 := by
  obtain ⟨r, h1, h2, hr⟩ := unpack_eo hw hn ws.length 0 (by omega) [] 0 rfl
  exact ⟨r, h1.congr fun k => by unfold word_Unpack.f; rfl, h2.congr fun k => by unfold windrowref01_Unpack.f; rfl, hr⟩

theorem words_go (L : List Int) (hn : L.length < 9223372036854775807) : ∀ d j : Nat, j + d = L.length → Eo (fun k => windrowref01_Words.l0 k L L (j : Int)) true := by
  intro d
  induction d with
  | zero =>
    intro j hj
    refine ⟨1, fun k hk => ?_⟩
    obtain ⟨q, rfl⟩ : ∃ q, k = q + 1 := ⟨k - 1, by omega⟩
    show windrowref01_Words.l0 (q + 1) L L j = _
    rw [windrowref01_Words.l0]; exact itn (by omega) rfl
  | succ d ih =>
    intro j hj
    refine (ih (j + 1) (by omega)).step fun k hk => ?_
    rw [windrowref01_Words.l0, w64 (x := (j : Int) + 1) (by omega) (by omega)]
    exact itp (by omega) (itp (by omega) (itp (by omega) (itp rfl hk)))

theorem words_eo (L : List Int) (hn : L.length < 9223372036854775807) : Eo (fun k => windrowref01_Words.f k L L) true :=
  (words_go L hn L.length 0 (by omega)).congr fun k => by unfold windrowref01_Words.f; exact itp rfl rfl

/-- What is packed comes back. -/
theorem back_eo {vs ws : List Int} (hv : ∀ x ∈ vs, W x) (hn : vs.length ≤ 200) (hl : vs.length = ws.length) : ∀ d j : Nat, j + d = vs.length → ∀ (w : Int) (a : Nat), W w → a ≤ 64 →
    ∃ r e, Eo (fun k => word_Pack.l0 k ws w (a : Int) vs (vs.length : Int) (j : Int)) (r, e) ∧ W r ∧ (e ≠ 0 → r = 0) ∧
      (e = 0 → (∀ i, i < a → tb r i = tb w i) ∧ Eo (fun k => word_Unpack.l0 k r (a : Int) (vs.take j) ws (ws.length : Int) (j : Int)) (vs, 0)) := by
  intro d
  induction d with
  | zero =>
    intro j hj w a hw ha
    refine ⟨w, 0, ⟨1, fun k hk => ?_⟩, hw, fun z => absurd rfl z, fun _ => ⟨fun i _ => rfl, ⟨1, fun k hk => ?_⟩⟩⟩
    · obtain ⟨q, rfl⟩ : ∃ q, k = q + 1 := ⟨k - 1, by omega⟩
      show word_Pack.l0 (q + 1) ws w a vs (vs.length : Int) j = _
      rw [word_Pack.l0]; exact itn (by omega) rfl
    · obtain ⟨q, rfl⟩ : ∃ q, k = q + 1 := ⟨k - 1, by omega⟩
      show word_Unpack.l0 (q + 1) w a (vs.take j) ws (ws.length : Int) j = _
      rw [word_Unpack.l0, List.take_of_length_le (by omega)]; exact itn (by omega) rfl
  | succ d ih =>
    intro j hj w a hw ha
    have hvj := hv _ (rd_mem (L := vs) (j := j) (by omega))
    have bad : ∀ e, e ≠ 0 → (∃ x, word_Put.f w (a : Int) (rd ws (j : Int)) (rd vs (j : Int)) = some (x, e)) → ∃ r e, Eo (fun k => word_Pack.l0 k ws w (a : Int) vs (vs.length : Int) (j : Int)) (r, e) ∧ W r ∧ (e ≠ 0 → r = 0) ∧
        (e = 0 → (∀ i, i < a → tb r i = tb w i) ∧ Eo (fun k => word_Unpack.l0 k r (a : Int) (vs.take j) ws (ws.length : Int) (j : Int)) (vs, 0)) := by
      rintro e he ⟨x, p⟩
      refine ⟨0, e, ⟨1, fun k hk => ?_⟩, W_zero, fun _ => rfl, fun z => absurd z he⟩
      obtain ⟨q, rfl⟩ : ∃ q, k = q + 1 := ⟨k - 1, by omega⟩
      show word_Pack.l0 (q + 1) ws w a vs (vs.length : Int) j = _
      rw [word_Pack.l0]
      exact itp (by omega) (itp (by omega) (itp (by omega) (itp (by omega) (bnd p (itn he rfl)))))
    by_cases hf : 0 ≤ (a : Int) ∧ (a : Int) < 64 ∧ 1 ≤ rd ws (j : Int) ∧ rd ws (j : Int) ≤ 64 - (a : Int)
    · obtain ⟨n, hnn⟩ := Int.eq_ofNat_of_zero_le (show 0 ≤ rd ws (j : Int) by omega)
      rw [hnn] at hf
      have pe := put_eq hw hvj (a := a) (n := n) (by omega) (by omega)
      by_cases hvn : rd vs (j : Int) < 2 ^ n
      · rw [if_pos hvn] at pe
        have hx := putW_W hw hvj (a : Int) (n : Int)
        have tx := fun i hi => putW_tb hw hvj (a := a) (n := n) (by omega) hvn (i := i) hi
        have hz := (lt_iff hvj (n := n) (by omega)).mp hvn
        generalize putW w (a : Int) (n : Int) (rd vs (j : Int)) = x at pe hx tx
        obtain ⟨r, e, ⟨K1, h1⟩, hr, h0, hback⟩ := ih (j + 1) (by omega) x (a + n) hx (by omega)
        refine ⟨r, e, ⟨K1 + 1, fun k hk => ?_⟩, hr, h0, fun he => ?_⟩
        · obtain ⟨q, rfl⟩ : ∃ q, k = q + 1 := ⟨k - 1, by omega⟩
          show word_Pack.l0 (q + 1) ws w a vs (vs.length : Int) j = _
          have g := h1 q (by omega)
          rw [show ((a + n : Nat) : Int) = (a : Int) + (n : Int) by omega] at g
          rw [word_Pack.l0, hnn, w64 (x := (j : Int) + 1) (by omega) (by omega), w64 (x := (a : Int) + n) (by omega) (by omega)]
          exact itp (by omega) (itp (by omega) (itp (by omega) (itp (by omega) (bnd pe (itp rfl g)))))
        · obtain ⟨same, K2, h2⟩ := hback he
          refine ⟨fun i hi => by rw [same i (by omega), tx i (by omega), if_neg (by omega)], K2 + 1, fun k hk => ?_⟩
          obtain ⟨q, rfl⟩ : ∃ q, k = q + 1 := ⟨k - 1, by omega⟩
          show word_Unpack.l0 (q + 1) r a (vs.take j) ws (ws.length : Int) j = _
          have g := h2 q (by omega)
          have et : vs.take (j + 1) = vs.take j ++ [rd vs (j : Int)] := by
            rw [List.take_add_one]
            congr 1
            unfold rd
            rw [Int.toNat_natCast, List.getD_eq_getElem?_getD, List.getElem?_eq_getElem (show j < vs.length by omega)]; rfl
          rw [show ((a + n : Nat) : Int) = (a : Int) + (n : Int) by omega, et] at g
          have h0 : 0 ≤ r / 2 ^ a := Int.ediv_nonneg hr.1 (Int.le_of_lt (Int.pow_pos (by omega)))
          have eg : r / 2 ^ a % 2 ^ n = rd vs (j : Int) := by
            refine ext ⟨Int.emod_nonneg _ (Int.ne_of_gt (Int.pow_pos (by omega))), ?_⟩ hvj fun i hi => ?_
            · have h1 : r / 2 ^ a ≤ r := Int.ediv_le_self _ hr.1
              have h2 : r / 2 ^ a % 2 ^ n ≤ r / 2 ^ a := emod_le h0 (Int.pow_pos (by omega))
              have := hr.2; omega
            · rw [tb_mod h0, tb_div hr.1]
              by_cases h : i < n
              · rw [decide_eq_true h, same _ (by omega), tx _ (by omega), if_pos (by omega), show a + i - a = i by omega]; rfl
              · rw [decide_eq_false h, hz i (by omega) hi]; rfl
          have ge := get_eq hr (a := a) (n := n) (by omega) (by omega)
          rw [eg] at ge
          rw [word_Unpack.l0, hnn, w64 (x := (j : Int) + 1) (by omega) (by omega), w64 (x := (a : Int) + n) (by omega) (by omega)]
          have htl : (vs.take j).length ≤ 200 := by rw [List.length_take]; omega
          exact itp (by omega) (itp (by omega) (itp (by omega) (bnd ge (itp rfl (itp (by omega) g)))))
      · rw [if_neg hvn] at pe
        exact bad 3 (by omega) ⟨0, by rw [hnn]; exact pe⟩
    · exact bad 1 (by omega) ⟨0, put_no w _ hf⟩
end Go.Proofs.YtahmhhbpdgopjaaDoor.Wp
