/- The law of kept fields, in plain numbers. -/
import Derived.Test.YtahmhhbpdgopjaaDoorWpB
namespace Go.Proofs.YtahmhhbpdgopjaaDoor.Pure
open Go.RowKit Go.Proofs.YtahmhhbpdgopjaaDoor.PAll Go.Proofs.YtahmhhbpdgopjaaDoor.Wp Go.Proofs.YtahmhhbpdgopjaaDoor.Eo Go.Proofs.YtahmhhbpdgopjaaDoor.Wd Go.Proofs.YtahmhhbpdgopjaaDoor.Bt
set_option linter.unusedVariables false

theorem j1_t (k : Nat) {w x b : Int} : windrowlaw01_WordKept.j1 (k + 1) w b x true = some true := by
  rw [windrowlaw01_WordKept.j1]; exact itp rfl rfl

theorem j1_f (k : Nat) {w x : Int} (hw : W w) (hx : W x) {b : Nat} (hb : b < 64) (h : tb x b = tb w b) : windrowlaw01_WordKept.j1 (k + 1) w b x false = some true := by
  rw [windrowlaw01_WordKept.j1]
  refine itn (by simp) (bnd (get_eq hw (a := b) (n := 1) (by omega) (by omega)) (bnd (get_eq hx (a := b) (n := 1) (by omega) (by omega)) (itp rfl (itp rfl ?_))))
  have e : w / 2 ^ b % 2 ^ 1 = x / 2 ^ b % 2 ^ 1 := by
    show bi w b = bi x b
    rw [bi_tb hw.1, bi_tb hx.1, h]
  show some (w / 2 ^ b % 2 ^ 1 == x / 2 ^ b % 2 ^ 1) = some true
  rw [e, beq_self_eq_true]

theorem WordKept : windrowlaw01_WordKept.Pure := by
  intro w a n v b hw ha hn hv hb
  replace hw := wfW hw
  replace hv := wfW hv
  replace hb := wf64 hb
  refine ⟨4, ?_⟩
  unfold windrowlaw01_WordKept.f
  refine bnd (worded_eq 2) (itp rfl ?_)
  by_cases hf : 0 ≤ a ∧ a < 64 ∧ 1 ≤ n ∧ n ≤ 64 - a
  · obtain ⟨a', rfl⟩ := Int.eq_ofNat_of_zero_le hf.1
    obtain ⟨n', rfl⟩ := Int.eq_ofNat_of_zero_le (show 0 ≤ n by omega)
    refine bnd (put_eq hw hv (a := a') (n := n') (by omega) (by omega)) ?_
    by_cases hvn : v < 2 ^ n'
    · rw [if_pos hvn]
      refine itp rfl ?_
      have hx := putW_W hw hv (a' : Int) (n' : Int)
      have tx := fun i hi => putW_tb hw hv (a := a') (n := n') (by omega) hvn (i := i) hi
      show ((word_Get.f (putW w a' n' v) a' n').bind fun bt120 => (if bt120.2 = 0 then (windrowlaw01_WordKept.j0 4 w a' n' b (putW w a' n' v) (bt120.1 != v)) else (windrowlaw01_WordKept.j0 4 w a' n' b (putW w a' n' v) true))) = some true
      generalize putW w a' n' v = x at hx tx ⊢
      refine bnd (get_eq hx (a := a') (n := n') (by omega) (by omega)) (itp rfl ?_)
      have hz := (lt_iff hv (n := n') (by omega)).mp hvn
      have h0 : 0 ≤ x / 2 ^ a' := Int.ediv_nonneg hx.1 (Int.le_of_lt (Int.pow_pos (by omega)))
      have e : x / 2 ^ a' % 2 ^ n' = v := by
        refine ext ⟨Int.emod_nonneg _ (Int.ne_of_gt (Int.pow_pos (by omega))), ?_⟩ hv fun i hi => ?_
        · have h1 : x / 2 ^ a' ≤ x := Int.ediv_le_self _ hx.1
          have h2 : x / 2 ^ a' % 2 ^ n' ≤ x / 2 ^ a' := emod_le h0 (Int.pow_pos (by omega))
          have := hx.2; omega
        · rw [tb_mod h0, tb_div hx.1]
          by_cases h : i < n'
          · rw [decide_eq_true h, tx _ (by omega), if_pos (by omega), show a' + i - a' = i by omega]; rfl
          · rw [decide_eq_false h, hz i (by omega) hi]; rfl
      show windrowlaw01_WordKept.j0 4 w a' n' b x (x / 2 ^ a' % 2 ^ n' != v) = some true
      rw [e, show (v != v) = false by simp, windrowlaw01_WordKept.j0]
      refine itn (by simp) ?_
      by_cases hb0 : b < 0
      · exact itp hb0 (j1_t 2)
      · refine itn hb0 ?_
        by_cases hb1 : b > 63
        · exact itp hb1 (j1_t 2)
        · refine itn hb1 ?_
          obtain ⟨b', rfl⟩ := Int.eq_ofNat_of_zero_le (show 0 ≤ b by omega)
          by_cases hba : (b' : Int) ≥ a'
          · refine itp hba ?_
            rw [w64 (by omega) (by omega)]
            by_cases hin : (b' : Int) - a' < n'
            · rw [decide_eq_true hin]; exact j1_t 2
            · rw [decide_eq_false hin]; exact j1_f 2 hw hx (by omega) (by rw [tx b' (by omega), if_neg (by omega)])
          · exact itn hba (j1_f 2 hw hx (by omega) (by rw [tx b' (by omega), if_neg (by omega)]))
    · rw [if_neg hvn]
      exact itn (show ¬ ((3 : Int) = 0) by omega) rfl
  · exact bnd (put_no w v hf) (itn (show ¬ ((1 : Int) = 0) by omega) rfl)
end Go.Proofs.YtahmhhbpdgopjaaDoor.Pure
