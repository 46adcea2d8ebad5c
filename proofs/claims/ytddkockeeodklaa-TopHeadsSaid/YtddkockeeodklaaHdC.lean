/- Entries' words; decoding; in plain numbers. -/
import Derived.Test.YtddkockeeodklaaHdB
import Derived.Test.YtddkockeeodklaaPAllx
namespace Go.Proofs.Ytddkockeeodklaa.Hd
open Go.RowKit Go.Proofs.Ytddkockeeodklaa.PAll Go.Proofs.YtddkockeeodklaaW.PrintWords Go.Proofs.YtddkockeeodklaaW.PrintLast Go.Proofs.YtddkockeeodklaaW.PrintMore
open Go.Proofs.Ytddkockeeodklaa.Eo Go.Proofs.Ytddkockeeodklaa.Wd
set_option linter.unusedVariables false
set_option linter.unusedSimpArgs false
set_option linter.unusedSectionVars false

abbrev ws : List Int := [2, 4, 2, 4, 4, 32]

theorem put_lit {w v : Int} {a n p q : Int} (a' n' : Nat) (ha : a = a') (hn : n = n') (hp : (2 : Int) ^ a' = p) (hq : (2 : Int) ^ n' = q) (hw : 0 ≤ w ∧ w < p) (hv : 0 ≤ v) (hvq : v < q) (h1 : 1 ≤ n') (han : a' + n' ≤ 64) (hq64 : q ≤ 18446744073709551616) : word_Put.f w a n v = some (w + v * p, 0) := by
  subst ha hn hp hq
  rw [put_eq hw ⟨hv, by omega⟩ h1 han, if_pos hvq]

theorem pack_step {vs : List Int} (hl : vs.length = 6) (m : Nat) {w w' a a' i i' v n : Int} (h1 : i < 6) (h2 : 0 ≤ i) (hn : rd ws i = n) (hv : rd vs i = v) (hp : word_Put.f w a n v = some (w', 0)) (ha : wrap64 (a + n) = a') (hi : wrap64 (i + 1) = i') :
    word_Pack.l0 (m + 1) ws w a vs 6 i = word_Pack.l0 m ws w' a' vs 6 i' := by
  rw [word_Pack.l0, hn, hv]
  refine itp h1 (itp h2 (itp (by rw [hl]; exact h1) (itp h1 (bnd hp (itp rfl ?_)))))
  rw [ha, hi]

theorem w64k {a n b : Int} (h : a + n = b) (h0 : 0 ≤ b) (h1 : b ≤ 1000) : wrap64 (a + n) = b := by
  rw [h, w64 (by omega) (by omega)]

theorem pack6 (m : Nat) {v0 v1 v2 v3 v4 v5 : Int} (h0 : 0 ≤ v0 ∧ v0 < 4) (h1 : 0 ≤ v1 ∧ v1 < 16) (h2 : 0 ≤ v2 ∧ v2 < 4) (h3 : 0 ≤ v3 ∧ v3 < 16) (h4 : 0 ≤ v4 ∧ v4 < 16) (h5 : 0 ≤ v5 ∧ v5 < 4294967296) :
    word_Pack.f (m + 7) [v0, v1, v2, v3, v4, v5] ws = some (v0 + v1 * 4 + v2 * 64 + v3 * 256 + v4 * 4096 + v5 * 65536, 0) := by
  have s0 : word_Pack.l0 (m + 7) ws 0 0 [v0, v1, v2, v3, v4, v5] 6 0 = word_Pack.l0 (m + 6) ws (0 + v0 * 1) 2 [v0, v1, v2, v3, v4, v5] 6 1 :=
    pack_step (n := 2) (v := v0) rfl (m + 6) (by decide) (by decide) rfl rfl (put_lit 0 2 rfl rfl rfl rfl (by omega) (by omega) (by omega) (by omega) (by omega) (by omega)) (w64k rfl (by decide) (by decide)) (w64k rfl (by decide) (by decide))
  have s1 : word_Pack.l0 (m + 6) ws (0 + v0 * 1) 2 [v0, v1, v2, v3, v4, v5] 6 1 = word_Pack.l0 (m + 5) ws (0 + v0 * 1 + v1 * 4) 6 [v0, v1, v2, v3, v4, v5] 6 2 :=
    pack_step (n := 4) (v := v1) rfl (m + 5) (by decide) (by decide) rfl rfl (put_lit 2 4 rfl rfl rfl rfl (by omega) (by omega) (by omega) (by omega) (by omega) (by omega)) (w64k rfl (by decide) (by decide)) (w64k rfl (by decide) (by decide))
  have s2 : word_Pack.l0 (m + 5) ws (0 + v0 * 1 + v1 * 4) 6 [v0, v1, v2, v3, v4, v5] 6 2 = word_Pack.l0 (m + 4) ws (0 + v0 * 1 + v1 * 4 + v2 * 64) 8 [v0, v1, v2, v3, v4, v5] 6 3 :=
    pack_step (n := 2) (v := v2) rfl (m + 4) (by decide) (by decide) rfl rfl (put_lit 6 2 rfl rfl rfl rfl (by omega) (by omega) (by omega) (by omega) (by omega) (by omega)) (w64k rfl (by decide) (by decide)) (w64k rfl (by decide) (by decide))
  have s3 : word_Pack.l0 (m + 4) ws (0 + v0 * 1 + v1 * 4 + v2 * 64) 8 [v0, v1, v2, v3, v4, v5] 6 3 = word_Pack.l0 (m + 3) ws (0 + v0 * 1 + v1 * 4 + v2 * 64 + v3 * 256) 12 [v0, v1, v2, v3, v4, v5] 6 4 :=
    pack_step (n := 4) (v := v3) rfl (m + 3) (by decide) (by decide) rfl rfl (put_lit 8 4 rfl rfl rfl rfl (by omega) (by omega) (by omega) (by omega) (by omega) (by omega)) (w64k rfl (by decide) (by decide)) (w64k rfl (by decide) (by decide))
  have s4 : word_Pack.l0 (m + 3) ws (0 + v0 * 1 + v1 * 4 + v2 * 64 + v3 * 256) 12 [v0, v1, v2, v3, v4, v5] 6 4 = word_Pack.l0 (m + 2) ws (0 + v0 * 1 + v1 * 4 + v2 * 64 + v3 * 256 + v4 * 4096) 16 [v0, v1, v2, v3, v4, v5] 6 5 :=
    pack_step (n := 4) (v := v4) rfl (m + 2) (by decide) (by decide) rfl rfl (put_lit 12 4 rfl rfl rfl rfl (by omega) (by omega) (by omega) (by omega) (by omega) (by omega)) (w64k rfl (by decide) (by decide)) (w64k rfl (by decide) (by decide))
  have s5 : word_Pack.l0 (m + 2) ws (0 + v0 * 1 + v1 * 4 + v2 * 64 + v3 * 256 + v4 * 4096) 16 [v0, v1, v2, v3, v4, v5] 6 5 = word_Pack.l0 (m + 1) ws (0 + v0 * 1 + v1 * 4 + v2 * 64 + v3 * 256 + v4 * 4096 + v5 * 65536) 48 [v0, v1, v2, v3, v4, v5] 6 6 :=
    pack_step (n := 32) (v := v5) rfl (m + 1) (by decide) (by decide) rfl rfl (put_lit 16 32 rfl rfl rfl rfl (by omega) (by omega) (by omega) (by omega) (by omega) (by omega)) (w64k rfl (by decide) (by decide)) (w64k rfl (by decide) (by decide))
  have e : word_Pack.l0 (m + 1) ws (0 + v0 * 1 + v1 * 4 + v2 * 64 + v3 * 256 + v4 * 4096 + v5 * 65536) 48 [v0, v1, v2, v3, v4, v5] 6 6 = some (0 + v0 * 1 + v1 * 4 + v2 * 64 + v3 * 256 + v4 * 4096 + v5 * 65536, 0) := by
    rw [word_Pack.l0]; exact itn (by decide) rfl
  have e6 : 0 + v0 * 1 + v1 * 4 + v2 * 64 + v3 * 256 + v4 * 4096 + v5 * 65536 = v0 + v1 * 4 + v2 * 64 + v3 * 256 + v4 * 4096 + v5 * 65536 := by rw [Int.zero_add, Int.mul_one]
  rw [e6] at e s5
  unfold word_Pack.f
  exact itp rfl (s0.trans (s1.trans (s2.trans (s3.trans (s4.trans (s5.trans e))))))

theorem get_lit {w : Int} (hw : W w) {a n p q : Int} (a' n' : Nat) (ha : a = a') (hn : n = n') (hp : (2 : Int) ^ a' = p) (hq : (2 : Int) ^ n' = q) (h1 : 1 ≤ n') (han : a' + n' ≤ 64) : word_Get.f w a n = some (w / p % q, 0) := by
  subst ha hn hp hq
  exact get_eq hw h1 han

theorem unpack_step {w : Int} (m : Nat) {a a' i i' n v : Int} {l : List Int} (h1 : i < 6) (h2 : 0 ≤ i) (hn : rd ws i = n) (hp : word_Get.f w a n = some (v, 0)) (hl : l.length < 10) (ha : wrap64 (a + n) = a') (hi : wrap64 (i + 1) = i') :
    word_Unpack.l0 (m + 1) w a l ws 6 i = word_Unpack.l0 m w a' (l ++ [v]) ws 6 i' := by
  rw [word_Unpack.l0, hn]
  refine itp h1 (itp h2 (itp h1 (bnd hp (itp rfl (itp (by omega) ?_)))))
  rw [ha, hi]

theorem unpack6 (m : Nat) {w : Int} (hw : W w) : word_Unpack.f (m + 7) w ws = some ([w / 1 % 4, w / 4 % 16, w / 64 % 4, w / 256 % 16, w / 4096 % 16, w / 65536 % 4294967296], 0) := by
  have g0 : word_Get.f w 0 2 = some (w / 1 % 4, 0) := get_lit hw 0 2 rfl rfl rfl rfl (by omega) (by omega)
  have g1 : word_Get.f w 2 4 = some (w / 4 % 16, 0) := get_lit hw 2 4 rfl rfl rfl rfl (by omega) (by omega)
  have g2 : word_Get.f w 6 2 = some (w / 64 % 4, 0) := get_lit hw 6 2 rfl rfl rfl rfl (by omega) (by omega)
  have g3 : word_Get.f w 8 4 = some (w / 256 % 16, 0) := get_lit hw 8 4 rfl rfl rfl rfl (by omega) (by omega)
  have g4 : word_Get.f w 12 4 = some (w / 4096 % 16, 0) := get_lit hw 12 4 rfl rfl rfl rfl (by omega) (by omega)
  have g5 : word_Get.f w 16 32 = some (w / 65536 % 4294967296, 0) := get_lit hw 16 32 rfl rfl rfl rfl (by omega) (by omega)
  have s0 : word_Unpack.l0 (m + 7) w 0 [] ws 6 0 = word_Unpack.l0 (m + 6) w 2 [w / 1 % 4] ws 6 1 :=
    unpack_step (n := 2) (m + 6) (by decide) (by decide) rfl g0 (by simp) (w64k rfl (by decide) (by decide)) (w64k rfl (by decide) (by decide))
  have s1 : word_Unpack.l0 (m + 6) w 2 [w / 1 % 4] ws 6 1 = word_Unpack.l0 (m + 5) w 6 [w / 1 % 4, w / 4 % 16] ws 6 2 :=
    unpack_step (n := 4) (m + 5) (by decide) (by decide) rfl g1 (by simp) (w64k rfl (by decide) (by decide)) (w64k rfl (by decide) (by decide))
  have s2 : word_Unpack.l0 (m + 5) w 6 [w / 1 % 4, w / 4 % 16] ws 6 2 = word_Unpack.l0 (m + 4) w 8 [w / 1 % 4, w / 4 % 16, w / 64 % 4] ws 6 3 :=
    unpack_step (n := 2) (m + 4) (by decide) (by decide) rfl g2 (by simp) (w64k rfl (by decide) (by decide)) (w64k rfl (by decide) (by decide))
  have s3 : word_Unpack.l0 (m + 4) w 8 [w / 1 % 4, w / 4 % 16, w / 64 % 4] ws 6 3 = word_Unpack.l0 (m + 3) w 12 [w / 1 % 4, w / 4 % 16, w / 64 % 4, w / 256 % 16] ws 6 4 :=
    unpack_step (n := 4) (m + 3) (by decide) (by decide) rfl g3 (by simp) (w64k rfl (by decide) (by decide)) (w64k rfl (by decide) (by decide))
  have s4 : word_Unpack.l0 (m + 3) w 12 [w / 1 % 4, w / 4 % 16, w / 64 % 4, w / 256 % 16] ws 6 4 = word_Unpack.l0 (m + 2) w 16 [w / 1 % 4, w / 4 % 16, w / 64 % 4, w / 256 % 16, w / 4096 % 16] ws 6 5 :=
    unpack_step (n := 4) (m + 2) (by decide) (by decide) rfl g4 (by simp) (w64k rfl (by decide) (by decide)) (w64k rfl (by decide) (by decide))
  have s5 : word_Unpack.l0 (m + 2) w 16 [w / 1 % 4, w / 4 % 16, w / 64 % 4, w / 256 % 16, w / 4096 % 16] ws 6 5 = word_Unpack.l0 (m + 1) w 48 [w / 1 % 4, w / 4 % 16, w / 64 % 4, w / 256 % 16, w / 4096 % 16, w / 65536 % 4294967296] ws 6 6 :=
    unpack_step (n := 32) (m + 1) (by decide) (by decide) rfl g5 (by simp) (w64k rfl (by decide) (by decide)) (w64k rfl (by decide) (by decide))
  have e : word_Unpack.l0 (m + 1) w 48 [w / 1 % 4, w / 4 % 16, w / 64 % 4, w / 256 % 16, w / 4096 % 16, w / 65536 % 4294967296] ws 6 6 = some ([w / 1 % 4, w / 4 % 16, w / 64 % 4, w / 256 % 16, w / 4096 % 16, w / 65536 % 4294967296], 0) := by
    rw [word_Unpack.l0]; exact itn (by decide) rfl
  unfold word_Unpack.f
  exact s0.trans (s1.trans (s2.trans (s3.trans (s4.trans (s5.trans e)))))

def entryW (k c s o y : Int) : Int := k + c * 4 + s * 64 + o * 256 + y * 65536

theorem encEntry_eq (n : Nat) (k c s o y : Int) : header_EncodeEntry.f (n + 7) k c s o y = some (if entryP k c s o y then (entryW k c s o y, 0) else (0, 4)) := by
  unfold header_EncodeEntry.f
  rw [eright_eq]
  simp only [Option.bind_some, decide_eq_true_eq]
  by_cases h : entryP k c s o y
  · rw [if_pos h, if_pos h]
    have hb : 0 ≤ k ∧ k < 4 ∧ 0 ≤ c ∧ c < 16 ∧ 0 ≤ s ∧ s < 4 ∧ 0 ≤ o ∧ o < 16 ∧ 0 ≤ y ∧ y < 4294967296 := by unfold entryP at h; omega
    clear h
    rw [u64i (x := k) (by omega) (by omega), u64i (x := c) (by omega) (by omega), u64i (x := s) (by omega) (by omega), u64i (x := o) (by omega) (by omega), u64i (x := y) (by omega) (by omega)]
    refine bnd (pack6 n (by omega) (by omega) (by omega) (by omega) (by omega) (by omega)) ?_
    congr 2
    show _ = entryW k c s o y
    unfold entryW
    omega
  · rw [if_neg h, if_neg h]

/-- What a word would be. -/
theorem decHead_eq (n : Nat) {w : Int} (hw : W w) : header_DecodeHead.f (n + 1) w = some (if headP (w / 256 % 256) (w % 256) (w / 65536 % 256) ∧ headW (w / 256 % 256) (w % 256) (w / 65536 % 256) = w then (w / 256 % 256, w % 256, w / 65536 % 256, 0) else (0, 0, 0, 4)) := by
  have h1 : word_Get.f w 0 8 = some (w / 1 % 256, 0) := get_lit hw 0 8 rfl rfl rfl rfl (by omega) (by omega)
  have h2 : word_Get.f w 8 8 = some (w / 256 % 256, 0) := get_lit hw 8 8 rfl rfl rfl rfl (by omega) (by omega)
  have h3 : word_Get.f w 16 8 = some (w / 65536 % 256, 0) := get_lit hw 16 8 rfl rfl rfl rfl (by omega) (by omega)
  rw [Int.ediv_one] at h1
  unfold header_DecodeHead.f
  refine bnd h1 (bnd h2 (bnd h3 ?_))
  show ((header_EncodeHead.f (n + 1) (wrap64 (w / 256 % 256)) (wrap64 (w % 256)) (wrap64 (w / 65536 % 256))).bind fun bt158 => (if bt158.2 = 0 then (if bt158.1 = w then (some (wrap64 (w / 256 % 256), wrap64 (w % 256), wrap64 (w / 65536 % 256), 0)) else (some (0, 0, 0, 4))) else (some (0, 0, 0, 4)))) = _
  rw [w64 (x := w / 256 % 256) (by omega) (by omega), w64 (x := w % 256) (by omega) (by omega), w64 (x := w / 65536 % 256) (by omega) (by omega), encHead_eq]
  clear h1 h2 h3
  by_cases h : headP (w / 256 % 256) (w % 256) (w / 65536 % 256)
  · rw [if_pos h]
    by_cases e : headW (w / 256 % 256) (w % 256) (w / 65536 % 256) = w
    · rw [if_pos ⟨h, e⟩]; exact bnd rfl (itp rfl (itp e rfl))
    · rw [if_neg (fun z => e z.2)]; exact bnd rfl (itp rfl (itn e rfl))
  · rw [if_neg h, if_neg (fun z => h z.1)]; exact bnd rfl (itn (show ¬ ((4 : Int) = 0) by omega) rfl)

end Go.Proofs.Ytddkockeeodklaa.Hd
