/- A step of a push, or pop, and of its tape: the same (windrowlaw07.pushes, .pops), whatever the machine is that is stepped. -/
import Derived.Test.YtdcikbhfoplkmaaTro
namespace Go.Proofs.Ytdcikbhfoplkmaa.Dd
open Go Go.RowKit Go.Proofs.Ytdcikbhfoplkmaa.Hp Go.Proofs.Ytdcikbhfoplkmaa.PH Go.Proofs.Ytdcikbhfoplkmaa.Ar Go.Proofs.Ytdcikbhfoplkmaa.Eo
set_option linter.unusedVariables false
set_option linter.unusedSimpArgs false

/-- A machine's blocks: of kinds that neither the arenas nor the tapes have. -/
def McD (Dm : Nat → Prop) (w : World) : Prop := ∀ k, Dm k → ∃ cs t, w.heap[k]? = some (.cells cs t (0, 0)) ∧ (t = 97 ∨ t = 105)
section
variable {Dm : Nat → Prop} {w : World} {B a c am cc : Nat} {s t2 : AS} {ps qs : List (Nat × Int × Bool)} {g : Nat} {A : Option Addr} {cp : Nat} {H : List Int} {pos : Int} {n : Nx} {stop : Bool}
theorem td_back {c cc k : Nat} {S : Nat → Prop} {w w' : World} (hF : Fr S w w') (hk : k < w.heap.size) (ht : TouchD c cc w' k) (hS : ∀ k, TouchD c cc w k → S k) : S k := by
  by_cases h : S k
  · exact h
  · have e := hF.block k hk h
    rcases ht with rfl | rfl | ⟨cs, t, f, h1, h2⟩
    · exact hS _ (.inl rfl)
    · exact hS _ (.inr (.inl rfl))
    · rw [e] at h1
      exact hS _ (.inr (.inr ⟨cs, t, f, h1, h2⟩))
theorem tp_not {k : Nat} {cs : Array Value} {t : TypeId} (h : IsTp B w c cc g A cp H pos n stop) (hb : w.heap[k]? = some (.cells cs t (0, 0))) (ht : t ≠ 85 ∧ t ≠ 24) : ¬ TpOwn g A cp H.length k := by
  rintro (rfl | hk)
  · exact blk_ne hb h.blk ht.1 rfl
  · obtain ⟨⟨cs2, h1⟩, _⟩ := own_touch2 h.row k hk
    exact blk_ne hb h1 ht.2 rfl
theorem mc_tp (hm : McD Dm w) (h : IsTp B w c cc g A cp H pos n stop) : ∀ k, Dm k → ¬ TpOwn g A cp H.length k := fun k hk => by
  obtain ⟨cs, t, hb, ht⟩ := hm k hk
  refine tp_not h hb ?_
  rcases ht with rfl | rfl <;> decide
theorem mc_td (hm : McD Dm w) (h : Duo B w a c s ps am cc t2 qs) : ∀ k, Dm k → ¬ TouchD c cc w k := fun k hk => by
  obtain ⟨cs, t, hb, ht⟩ := hm k hk
  refine duo_nt h hb ?_
  rcases ht with rfl | rfl <;> decide
theorem mc_not {j : Nat} {cs : Array Value} {t : TypeId} (hm : McD Dm w) (hb : w.heap[j]? = some (.cells cs t (0, 0))) (ht : t ≠ 97 ∧ t ≠ 105) : ¬ Dm j := fun hk => by
  obtain ⟨cs2, t2, hb2, ht2⟩ := hm j hk
  refine blk_ne hb hb2 (fun e => ?_) rfl
  subst e
  rcases ht2 with e | e
  · exact ht.1 e
  · exact ht.2 e
end

set_option maxHeartbeats 8000000 in
set_option maxRecDepth 100000 in
theorem pushes_still (bare : Bool) {w0 w : World} {a c am cc p sb o m gt : Nat} {s : AS} {arr : Array Value} {A : Option Addr} {cp : Nat} {H : List Int} {pos : Int} {n : Nx} {stop : Bool} {P T R B0 T0 C0 t v : Int} {ov : Bool} {fl : Bool}
    (hB : Below w0.heap.size w0 w) (hT : IsTp w0.heap.size w c cc gt A cp H pos n stop)
    (hS : w.heap[sb]? = some (.cells arr 81 (0, 0))) (e0 : arr[o]? = some (.pointer (some ⟨m, 0, none⟩))) (e2 : arr[o + 2]? = some (.pointer (some ⟨gt, 0, none⟩))) (e4 : arr[o + 4]? = some (.int .u64 v))
    {pos2 : Int} {n2 : Nx} {stop2 : Bool} (hs1 : windrowref07_Push.f H 0 n.who n.kind n.at_ n.want n.put n.seen n.left false P T R B0 T0 C0 t v = some (ov, fl, pos2, n2.who, n2.kind, n2.at_, n2.want, n2.put, n2.seen, n2.left, stop2)) (hob : (ov || bare) = true)
    (hask : ∀ w1, Fr (fun k => TpOwn gt A cp H.length k) w w1 → (Calls Try.prog 24 #[.pointer (some ⟨m, 0, none⟩), .pointer (some ⟨p, 0, none⟩)] w1 fun e w2 => e = .returned (.bool ov) ∧ w2 = w1) ∧ (Calls Try.prog 25 #[.pointer (some ⟨m, 0, none⟩)] w1 fun e w2 => e = .returned (.bool ov) ∧ w2 = w1) ∧ (Calls Try.prog 17 #[.pointer (some ⟨m, 0, none⟩)] w1 fun e w2 => e = .returned (.bool fl) ∧ w2 = w1)) :
    Calls Try.prog 36 #[.pointer (some ⟨sb, o, none⟩), .pointer (some ⟨p, 0, none⟩), .pointer (some ⟨am, 0, none⟩), .agg #[.int .i64 P, .int .i64 T, .int .i64 R, .int .i64 B0, .int .i64 T0, .int .i64 C0], .int .i64 t, .bool bare] w fun e w' => e = .returned (.bool true) ∧ IsTp w0.heap.size w' c cc gt A cp H pos2 n2 stop2 ∧ Below w0.heap.size w0 w' ∧ Fr (fun k => TpOwn gt A cp H.length k) w w' := by
  have HT := Lib.hid hT
  have HG := Lib.hid hT.base
  have KS := Lib.hid hS
  have E0 := Lib.hid e0
  have E2 := Lib.hid e2
  have E4 := Lib.hid e4
  have HB := Lib.hid hB
  have HS1 := Lib.hid hs1
  have HF := Lib.hid (Fr.refl (fun k => TpOwn gt A cp H.length k) w)
  have HAS := Lib.hid hask
  clear hT hS e0 e2 e4 hB hs1 hask
  have KD := Lib.hid (Hp.blk_new w (.cells #[.int .i64 P, .int .i64 T, .int .i64 R, .int .i64 B0, .int .i64 T0, .int .i64 C0] 43))
  replace KS := Lib.hid (Hp.blk_alloc KS.out (.cells #[.int .i64 P, .int .i64 T, .int .i64 R, .int .i64 B0, .int .i64 T0, .int .i64 C0] 43))
  replace HT := Lib.hid (HT.out.below ((Below.refl w.heap.size w).alloc (Nat.le_refl _) (.cells #[.int .i64 P, .int .i64 T, .int .i64 R, .int .i64 B0, .int .i64 T0, .int .i64 C0] 43)))
  replace HB := Lib.hid (HB.out.alloc HB.out.size (.cells #[.int .i64 P, .int .i64 T, .int .i64 R, .int .i64 B0, .int .i64 T0, .int .i64 C0] 43))
  replace HF := Lib.hid (HF.out.alloc (.cells #[.int .i64 P, .int .i64 T, .int .i64 R, .int .i64 B0, .int .i64 T0, .int .i64 C0] 43))
  go_enter Try.func36, Try.ntmps36
  go_upto_region 1 with (fail)
  generalize hw1 : w.alloc (.cells #[.int .i64 P, .int .i64 T, .int .i64 R, .int .i64 B0, .int .i64 T0, .int .i64 C0] 43) = w1 at KD KS HT HB HF ⊢
  obtain ⟨db, hdb⟩ : ∃ db, db = w.heap.size := ⟨_, rfl⟩
  rw [← hdb] at KD ⊢
  clear hw1 hdb
  obtain ⟨b2, -⟩ := Hp.blk_cell KS.out (o + 2) E2.out
  go_upto_region 2 with (first
    | (go_at_call 55; go_loud ((with_reducible refine (windrowref03_Tape_Again.calls gt H _ n.who n.kind n.at_ n.want n.put n.seen n.left _ _ _ _ _ _ _ _ _ _ _ _ w0 _ (HT.out.to77 HG.out) HB.out rfl).mono ?_); rintro e w2 ⟨rfl, h7, hb, hkp⟩; (have hfr := keep_fr HB.out hb hkp); (have hT2 := HT.out.of77 h7 hfr); replace KS := Lib.hid (hfr.blk KS.out (fun e => blk_ne KS.out HT.out.blk (by decide) e)); replace KD := Lib.hid (hfr.blk KD.out (fun e => blk_ne KD.out HT.out.blk (by decide) e)); replace HF := Lib.hid (HF.out.then hfr (fun k _ e => .inl e)); replace HB := Lib.hid hb; clear HT; (have HT := Lib.hid hT2); clear h7 hb hkp hfr hT2)))
  clear b2
  replace HT := Lib.hid (HT.out.below ((Below.refl _ _).drew))
  replace HB := Lib.hid HB.out.drew
  replace HF := Lib.hid HF.out.drew
  have KS1 : Hid (w2.drew.heap[sb]? = some (.cells arr 81 (0, 0))) := Lib.hid KS.out
  have KD1 : Hid (w2.drew.heap[db]? = some (.cells #[.int .i64 P, .int .i64 T, .int .i64 R, .int .i64 B0, .int .i64 T0, .int .i64 C0] 43 (0, 0))) := Lib.hid KD.out
  clear KS KD
  refine Rg.Upto.start (fun w' => w'.heap[sb]? = some (.cells arr 81 (0, 0)) ∧ w'.heap[db]? = some (.cells #[.int .i64 P, .int .i64 T, .int .i64 R, .int .i64 B0, .int .i64 T0, .int .i64 C0] 43 (0, 0))) 1000 (by kernel_rfl) ⟨KS1.out, KD1.out⟩ (fun HS0 => ?_)
  have HSC := HS0
  clear HS0
  (have KS := KS1)
  (have KD := KD1)
  clear KS1 KD1
  refine Rg.Upto.takeA (i := 0) (v := ?_) rfl (by kernel_rfl) (by kernel_rfl) (by kernel_rfl) (of_decide_eq_true (by kernel_rfl)) (fun _ _ _ h => h) (by rfl) (fun w5 hS5 => ?_) HSC ?_
  rotate_left
  · obtain ⟨h1, h2⟩ := hS5
    clear h1 h2
    go_simp
    try rfl
  try simp only [Act.put, List.setIfInBounds_toArray, List.set_cons_zero, List.set_cons_succ]
  refine Rg.Upto.takeA (i := 1) (v := ?_) rfl (by kernel_rfl) (by kernel_rfl) (by kernel_rfl) (of_decide_eq_true (by kernel_rfl)) (fun _ _ _ h => h) (by rfl) (fun w5 hS5 => ?_) HSC ?_
  rotate_left
  · obtain ⟨h1, h2⟩ := hS5
    clear h1 h2
    go_simp
    try rfl
  try simp only [Act.put, List.setIfInBounds_toArray, List.set_cons_zero, List.set_cons_succ]
  refine Rg.Upto.takeA (i := 2) (v := ?_) rfl (by kernel_rfl) (by kernel_rfl) (by kernel_rfl) (of_decide_eq_true (by kernel_rfl)) (fun _ _ _ h => h) (by rfl) (fun w5 hS5 => ?_) HSC ?_
  rotate_left
  · obtain ⟨h1, h2⟩ := hS5
    clear h1 h2
    go_simp
    try rfl
  try simp only [Act.put, List.setIfInBounds_toArray, List.set_cons_zero, List.set_cons_succ]
  refine Rg.Upto.takeA (i := 3) (v := ?_) rfl (by kernel_rfl) (by kernel_rfl) (by kernel_rfl) (of_decide_eq_true (by kernel_rfl)) (fun _ _ _ h => h) (by rfl) (fun w5 hS5 => ?_) HSC ?_
  rotate_left
  · obtain ⟨h1, h2⟩ := hS5
    have b2 := (Hp.blk_cell h1 (o + 2) E2.out).1
    clear h1 h2
    go_simp
    try rfl
  try simp only [Act.put, List.setIfInBounds_toArray, List.set_cons_zero, List.set_cons_succ]
  refine Rg.Upto.takeA (i := 4) (v := ?_) rfl (by kernel_rfl) (by kernel_rfl) (by kernel_rfl) (of_decide_eq_true (by kernel_rfl)) (fun _ _ _ h => h) (by rfl) (fun w5 hS5 => ?_) HSC ?_
  rotate_left
  · obtain ⟨h1, h2⟩ := hS5
    have d0 := (Hp.blk_cell h2 0 rfl).1
    have d1 := (Hp.blk_cell h2 1 rfl).1
    have d2 := (Hp.blk_cell h2 2 rfl).1
    have d3 := (Hp.blk_cell h2 3 rfl).1
    have d4 := (Hp.blk_cell h2 4 rfl).1
    have d5 := (Hp.blk_cell h2 5 rfl).1
    clear h1 h2
    go_simp
    try rfl
  try simp only [Act.put, List.setIfInBounds_toArray, List.set_cons_zero, List.set_cons_succ]
  refine Rg.Upto.takeA (i := 5) (v := ?_) rfl (by kernel_rfl) (by kernel_rfl) (by kernel_rfl) (of_decide_eq_true (by kernel_rfl)) (fun _ _ _ h => h) (by rfl) (fun w5 hS5 => ?_) HSC ?_
  rotate_left
  · obtain ⟨h1, h2⟩ := hS5
    clear h1 h2
    go_simp
    try rfl
  try simp only [Act.put, List.setIfInBounds_toArray, List.set_cons_zero, List.set_cons_succ]
  refine Rg.Upto.takeA (i := 6) (v := ?_) rfl (by kernel_rfl) (by kernel_rfl) (by kernel_rfl) (of_decide_eq_true (by kernel_rfl)) (fun _ _ _ h => h) (by rfl) (fun w5 hS5 => ?_) HSC ?_
  rotate_left
  · obtain ⟨h1, h2⟩ := hS5
    clear h1 h2
    go_simp
    try rfl
  try simp only [Act.put, List.setIfInBounds_toArray, List.set_cons_zero, List.set_cons_succ]
  refine Rg.Upto.takeA (i := 7) (v := ?_) rfl (by kernel_rfl) (by kernel_rfl) (by kernel_rfl) (of_decide_eq_true (by kernel_rfl)) (fun _ _ _ h => h) (by rfl) (fun w5 hS5 => ?_) HSC ?_
  rotate_left
  · obtain ⟨h1, h2⟩ := hS5
    clear h1 h2
    go_simp
    try rfl
  try simp only [Act.put, List.setIfInBounds_toArray, List.set_cons_zero, List.set_cons_succ]
  refine Rg.Upto.takeA (i := 8) (v := ?_) rfl (by kernel_rfl) (by kernel_rfl) (by kernel_rfl) (of_decide_eq_true (by kernel_rfl)) (fun _ _ _ h => h) (by rfl) (fun w5 hS5 => ?_) HSC ?_
  rotate_left
  · obtain ⟨h1, h2⟩ := hS5
    clear h1 h2
    go_simp
    try rfl
  try simp only [Act.put, List.setIfInBounds_toArray, List.set_cons_zero, List.set_cons_succ]
  refine Rg.Upto.takeA (i := 9) (v := ?_) rfl (by kernel_rfl) (by kernel_rfl) (by kernel_rfl) (of_decide_eq_true (by kernel_rfl)) (fun _ _ _ h => h) (by rfl) (fun w5 hS5 => ?_) HSC ?_
  rotate_left
  · obtain ⟨h1, h2⟩ := hS5
    have b4 := (Hp.blk_cell h1 (o + 4) E4.out).1
    clear h1 h2
    go_simp
    try rfl
  try simp only [Act.put, List.setIfInBounds_toArray, List.set_cons_zero, List.set_cons_succ]
  refine Rg.Upto.one (i := 10) rfl (by kernel_rfl) (by rfl) (fun KK hK => ?_)
  go_simp
  (with_reducible refine (windrowref07_Push.calls (hI := HT.out.to77 HG.out) (hB := HB.out) (h := HS1.out)).mono ?_)
  rintro e w3 ⟨rfl, h7, hb, hkp⟩
  (have hfr := keep_fr HB.out hb hkp)
  (have hT2 := HT.out.of77 h7 hfr)
  replace KS := Lib.hid (hfr.blk KS.out (fun e => blk_ne KS.out HT.out.blk (by decide) e))
  replace KD := Lib.hid (hfr.blk KD.out (fun e => blk_ne KD.out HT.out.blk (by decide) e))
  replace HF := Lib.hid (HF.out.then hfr (fun k _ e => .inl e))
  replace HB := Lib.hid hb
  clear HT
  (have HT := Lib.hid hT2)
  clear h7 hb hkp hfr hT2
  refine hK.out _ _ ⟨KS.out, KD.out⟩ ?_
  clear hK KK HSC
  try simp only [Act.put, List.setIfInBounds_toArray, List.set_cons_zero, List.set_cons_succ]
  have HSC : w3.heap[sb]? = some (.cells arr 81 (0, 0)) ∧ w3.heap[db]? = some (.cells #[.int .i64 P, .int .i64 T, .int .i64 R, .int .i64 B0, .int .i64 T0, .int .i64 C0] 43 (0, 0)) := ⟨KS.out, KD.out⟩
  refine Rg.Upto.takeA (i := 11) (v := ?_) rfl (by kernel_rfl) (by kernel_rfl) (by kernel_rfl) (of_decide_eq_true (by kernel_rfl)) (fun _ _ _ h => h) (by rfl) (fun w5 hS5 => ?_) HSC ?_
  rotate_left
  · obtain ⟨h1, h2⟩ := hS5
    clear h1 h2
    go_simp
    try rfl
  try simp only [Act.put, List.setIfInBounds_toArray, List.set_cons_zero, List.set_cons_succ]
  refine Rg.Upto.takeA (i := 12) (v := ?_) rfl (by kernel_rfl) (by kernel_rfl) (by kernel_rfl) (of_decide_eq_true (by kernel_rfl)) (fun _ _ _ h => h) (by rfl) (fun w5 hS5 => ?_) HSC ?_
  rotate_left
  · obtain ⟨h1, h2⟩ := hS5
    clear h1 h2
    go_simp
    try rfl
  try simp only [Act.put, List.setIfInBounds_toArray, List.set_cons_zero, List.set_cons_succ]
  refine Rg.Upto.takeA (i := 13) (v := ?_) rfl (by kernel_rfl) (by kernel_rfl) (by kernel_rfl) (of_decide_eq_true (by kernel_rfl)) (fun _ _ _ h => h) (by rfl) (fun w5 hS5 => ?_) HSC ?_
  rotate_left
  · obtain ⟨h1, h2⟩ := hS5
    clear h1 h2
    go_simp
    try rfl
  try simp only [Act.put, List.setIfInBounds_toArray, List.set_cons_zero, List.set_cons_succ]
  refine Rg.Upto.takeA (i := 14) (v := ?_) rfl (by kernel_rfl) (by kernel_rfl) (by kernel_rfl) (of_decide_eq_true (by kernel_rfl)) (fun _ _ _ h => h) (by rfl) (fun w5 hS5 => ?_) HSC ?_
  rotate_left
  · obtain ⟨h1, h2⟩ := hS5
    clear h1 h2
    go_simp
    try rfl
  try simp only [Act.put, List.setIfInBounds_toArray, List.set_cons_zero, List.set_cons_succ]
  refine Rg.Upto.takeA (i := 15) (v := ?_) rfl (by kernel_rfl) (by kernel_rfl) (by kernel_rfl) (of_decide_eq_true (by kernel_rfl)) (fun _ _ _ h => h) (by rfl) (fun w5 hS5 => ?_) HSC ?_
  rotate_left
  · obtain ⟨h1, h2⟩ := hS5
    clear h1 h2
    go_simp
    try rfl
  try simp only [Act.put, List.setIfInBounds_toArray, List.set_cons_zero, List.set_cons_succ]
  clear HSC
  refine Rg.Upto.done (by kernel_rfl) ?_
  cases ov <;> cases bare <;> cases fl
  all_goals (try (exact absurd hob (by decide)))
  all_goals clear hob
  all_goals
    go_upto_region 8 with (fail)
    try simp only [List.append_eq, List.append, List.cons_append, List.nil_append]
    (obtain ⟨b0, -⟩ := Hp.blk_cell KS.out (o) E0.out)
    go_wp2_with (first
      | (go_at_call 24; go_loud ((have hm := (HAS.out _ HF.out).1); (with_reducible refine hm.mono ?_); clear hm; rintro e w9 ⟨rfl, hw⟩; obtain rfl := hw.symm))
      | (go_at_call 25; go_loud ((have hm := (HAS.out _ HF.out).2.1); (with_reducible refine hm.mono ?_); clear hm; rintro e w9 ⟨rfl, hw⟩; obtain rfl := hw.symm))
      | (go_at_call 17; go_loud ((have hm := (HAS.out _ HF.out).2.2); (with_reducible refine hm.mono ?_); clear hm; rintro e w9 ⟨rfl, hw⟩; obtain rfl := hw.symm)))
    go_ret
    exact ⟨rfl, HT.out, HB.out, HF.out⟩

set_option maxHeartbeats 8000000 in
set_option maxRecDepth 100000 in
theorem pushes_go {w0 w : World} {a c am cc p sb o m gt : Nat} {s : AS} {arr : Array Value} {A : Option Addr} {cp : Nat} {H : List Int} {pos : Int} {n : Nx} {stop : Bool} {P T R B0 T0 C0 t v : Int} {ov : Bool} {fl : Bool}
    (hB : Below w0.heap.size w0 w) (hT : IsTp w0.heap.size w c cc gt A cp H pos n stop)
    (hS : w.heap[sb]? = some (.cells arr 81 (0, 0))) (e0 : arr[o]? = some (.pointer (some ⟨m, 0, none⟩))) (e2 : arr[o + 2]? = some (.pointer (some ⟨gt, 0, none⟩))) (e4 : arr[o + 4]? = some (.int .u64 v))
    (hd : Duo w0.heap.size w a c s [(p, 9, false)] am cc s []) (X X1 : World → Prop) (Dm : Nat → Prop) (hX : X w) (hXf : ∀ w1 w2 (S : Nat → Prop), X w1 → Fr S w1 w2 → (∀ k, S k → ¬ Dm k) → X w2) (hXd : ∀ w1, X w1 → McD Dm w1)
    {pos2 : Int} {n2 : Nx} {stop2 : Bool} {fl0 : Bool} (hs1 : windrowref07_Push.f H 0 n.who n.kind n.at_ n.want n.put n.seen n.left false P T R B0 T0 C0 t v = some (false, fl0, pos2, n2.who, n2.kind, n2.at_, n2.want, n2.put, n2.seen, n2.left, stop2)) (hk : 1 ≤ n2.kind ∧ n2.kind ≤ 6) (sa : AS × Int) (hac : s.acc true 9 n2.kind n2.at_ n2.want n2.put = sa) {pos3 : Int} {n3 : Nx} {stop3 : Bool} (hs2 : windrowref07_Push.f (H ++ [sa.2]) 0 n2.who n2.kind n2.at_ n2.want n2.put n2.seen n2.left false P T R B0 T0 C0 t v = some (ov, fl, pos3, n3.who, n3.kind, n3.at_, n3.want, n3.put, n3.seen, n3.left, stop3)) (hl : s.log.length ≤ 1000000) (hH : H.length ≤ 100)
    (hstep : ∀ w1, Duo w0.heap.size w1 a c s [(p, 9, true)] am cc sa.1 [] → X w1 → Calls Try.prog 24 #[.pointer (some ⟨m, 0, none⟩), .pointer (some ⟨p, 0, none⟩)] w1 fun e w2 => e = .returned (.bool ov) ∧ X1 w2 ∧ Duo w0.heap.size w2 a c sa.1 [(p, 9, false)] am cc sa.1 [] ∧ Below w0.heap.size w1 w2 ∧ Fr (fun k => Dm k ∨ TouchD c cc w1 k) w1 w2)
    (hask : ∀ w1, X1 w1 → (Calls Try.prog 25 #[.pointer (some ⟨m, 0, none⟩)] w1 fun e w2 => e = .returned (.bool ov) ∧ w2 = w1) ∧ (Calls Try.prog 17 #[.pointer (some ⟨m, 0, none⟩)] w1 fun e w2 => e = .returned (.bool fl) ∧ w2 = w1)) :
    Calls Try.prog 36 #[.pointer (some ⟨sb, o, none⟩), .pointer (some ⟨p, 0, none⟩), .pointer (some ⟨am, 0, none⟩), .agg #[.int .i64 P, .int .i64 T, .int .i64 R, .int .i64 B0, .int .i64 T0, .int .i64 C0], .int .i64 t, .bool false] w fun e w' => e = .returned (.bool true) ∧ Duo w0.heap.size w' a c sa.1 [(p, 9, false)] am cc sa.1 [] ∧ X1 w' ∧ Below w0.heap.size w0 w' ∧ Fr (fun k => Dm k ∨ TpOwn gt A cp H.length k ∨ TouchD c cc w k) w w' ∧ ∃ A' cp', IsTp w0.heap.size w' c cc gt A' cp' (H ++ [sa.2]) pos3 n3 stop3 ∧ (∀ k, TpOwn gt A' cp' (H ++ [sa.2]).length k → TpOwn gt A cp H.length k ∨ w.heap.size ≤ k) := by
  have HT := Lib.hid hT
  have HG := Lib.hid hT.base
  have KS := Lib.hid hS
  have E0 := Lib.hid e0
  have E2 := Lib.hid e2
  have E4 := Lib.hid e4
  have HB := Lib.hid hB
  have HS1 := Lib.hid hs1
  have HF := Lib.hid (Fr.refl (fun k => Dm k ∨ TpOwn gt A cp H.length k ∨ TouchD c cc w k) w)
  have HD := Lib.hid hd
  have HX := Lib.hid hX
  have HXF := Lib.hid hXf
  have HXD := Lib.hid hXd
  have HSP := Lib.hid hstep
  have HAS := Lib.hid hask
  have HS2 := Lib.hid hs2
  have HK := Lib.hid hk
  have HAC := Lib.hid hac
  have HL := Lib.hid hl
  have HHL := Lib.hid hH
  clear hT hS e0 e2 e4 hB hs1 hask hd hX hXf hXd hstep hs2 hk hac hl hH
  have KD := Lib.hid (Hp.blk_new w (.cells #[.int .i64 P, .int .i64 T, .int .i64 R, .int .i64 B0, .int .i64 T0, .int .i64 C0] 43))
  replace KS := Lib.hid (Hp.blk_alloc KS.out (.cells #[.int .i64 P, .int .i64 T, .int .i64 R, .int .i64 B0, .int .i64 T0, .int .i64 C0] 43))
  replace HD := Lib.hid (HD.out.alloc (.cells #[.int .i64 P, .int .i64 T, .int .i64 R, .int .i64 B0, .int .i64 T0, .int .i64 C0] 43))
  replace HX := Lib.hid (HXF.out _ _ _ HX.out ((Fr.refl (fun _ => False) w).alloc (.cells #[.int .i64 P, .int .i64 T, .int .i64 R, .int .i64 B0, .int .i64 T0, .int .i64 C0] 43)) (fun _ e => e.elim))
  replace HT := Lib.hid (HT.out.below ((Below.refl w.heap.size w).alloc (Nat.le_refl _) (.cells #[.int .i64 P, .int .i64 T, .int .i64 R, .int .i64 B0, .int .i64 T0, .int .i64 C0] 43)))
  replace HB := Lib.hid (HB.out.alloc HB.out.size (.cells #[.int .i64 P, .int .i64 T, .int .i64 R, .int .i64 B0, .int .i64 T0, .int .i64 C0] 43))
  replace HF := Lib.hid (HF.out.alloc (.cells #[.int .i64 P, .int .i64 T, .int .i64 R, .int .i64 B0, .int .i64 T0, .int .i64 C0] 43))
  go_enter Try.func36, Try.ntmps36
  go_upto_region 1 with (fail)
  generalize hw1 : w.alloc (.cells #[.int .i64 P, .int .i64 T, .int .i64 R, .int .i64 B0, .int .i64 T0, .int .i64 C0] 43) = w1 at KD KS HT HB HF HD HX ⊢
  obtain ⟨db, hdb⟩ : ∃ db, db = w.heap.size := ⟨_, rfl⟩
  rw [← hdb] at KD ⊢
  clear hw1 hdb
  obtain ⟨b2, -⟩ := Hp.blk_cell KS.out (o + 2) E2.out
  go_upto_region 2 with (first
    | (go_at_call 55; go_loud ((with_reducible refine (windrowref03_Tape_Again.calls gt H _ n.who n.kind n.at_ n.want n.put n.seen n.left _ _ _ _ _ _ _ _ _ _ _ _ w0 _ (HT.out.to77 HG.out) HB.out rfl).mono ?_); rintro e w2 ⟨rfl, h7, hb, hkp⟩; (have hfr := keep_fr HB.out hb hkp); (have hT2 := HT.out.of77 h7 hfr); (have hD2 := HD.out.fr hfr (fun k _ e => by subst e; exact HT.out.free HD.out k (.inl rfl))); (have hX2 := HXF.out _ _ _ HX.out hfr (fun k e z => by subst e; exact mc_tp (HXD.out _ HX.out) HT.out k z (.inl rfl))); replace KS := Lib.hid (hfr.blk KS.out (fun e => blk_ne KS.out HT.out.blk (by decide) e)); replace KD := Lib.hid (hfr.blk KD.out (fun e => blk_ne KD.out HT.out.blk (by decide) e)); replace HF := Lib.hid (HF.out.then hfr (fun k _ e => .inr (.inl (.inl e)))); replace HB := Lib.hid hb; clear HT HD HX; (have HT := Lib.hid hT2); (have HD := Lib.hid hD2); (have HX := Lib.hid hX2); clear hD2 hX2; clear h7 hb hkp hfr hT2)))
  clear b2
  replace HD := Lib.hid (HD.out.drew)
  replace HX := Lib.hid (HXF.out _ _ _ HX.out ((Fr.refl (fun _ => False) _).drew) (fun _ e => e.elim))
  replace HT := Lib.hid (HT.out.below ((Below.refl _ _).drew))
  replace HB := Lib.hid HB.out.drew
  replace HF := Lib.hid HF.out.drew
  have KS1 : Hid (w2.drew.heap[sb]? = some (.cells arr 81 (0, 0))) := Lib.hid KS.out
  have KD1 : Hid (w2.drew.heap[db]? = some (.cells #[.int .i64 P, .int .i64 T, .int .i64 R, .int .i64 B0, .int .i64 T0, .int .i64 C0] 43 (0, 0))) := Lib.hid KD.out
  clear KS KD
  refine Rg.Upto.start (fun w' => w'.heap[sb]? = some (.cells arr 81 (0, 0)) ∧ w'.heap[db]? = some (.cells #[.int .i64 P, .int .i64 T, .int .i64 R, .int .i64 B0, .int .i64 T0, .int .i64 C0] 43 (0, 0))) 1000 (by kernel_rfl) ⟨KS1.out, KD1.out⟩ (fun HS0 => ?_)
  have HSC := HS0
  clear HS0
  (have KS := KS1)
  (have KD := KD1)
  clear KS1 KD1
  refine Rg.Upto.takeA (i := 0) (v := ?_) rfl (by kernel_rfl) (by kernel_rfl) (by kernel_rfl) (of_decide_eq_true (by kernel_rfl)) (fun _ _ _ h => h) (by rfl) (fun w5 hS5 => ?_) HSC ?_
  rotate_left
  · obtain ⟨h1, h2⟩ := hS5
    clear h1 h2
    go_simp
    try rfl
  try simp only [Act.put, List.setIfInBounds_toArray, List.set_cons_zero, List.set_cons_succ]
  refine Rg.Upto.takeA (i := 1) (v := ?_) rfl (by kernel_rfl) (by kernel_rfl) (by kernel_rfl) (of_decide_eq_true (by kernel_rfl)) (fun _ _ _ h => h) (by rfl) (fun w5 hS5 => ?_) HSC ?_
  rotate_left
  · obtain ⟨h1, h2⟩ := hS5
    clear h1 h2
    go_simp
    try rfl
  try simp only [Act.put, List.setIfInBounds_toArray, List.set_cons_zero, List.set_cons_succ]
  refine Rg.Upto.takeA (i := 2) (v := ?_) rfl (by kernel_rfl) (by kernel_rfl) (by kernel_rfl) (of_decide_eq_true (by kernel_rfl)) (fun _ _ _ h => h) (by rfl) (fun w5 hS5 => ?_) HSC ?_
  rotate_left
  · obtain ⟨h1, h2⟩ := hS5
    clear h1 h2
    go_simp
    try rfl
  try simp only [Act.put, List.setIfInBounds_toArray, List.set_cons_zero, List.set_cons_succ]
  refine Rg.Upto.takeA (i := 3) (v := ?_) rfl (by kernel_rfl) (by kernel_rfl) (by kernel_rfl) (of_decide_eq_true (by kernel_rfl)) (fun _ _ _ h => h) (by rfl) (fun w5 hS5 => ?_) HSC ?_
  rotate_left
  · obtain ⟨h1, h2⟩ := hS5
    have b2 := (Hp.blk_cell h1 (o + 2) E2.out).1
    clear h1 h2
    go_simp
    try rfl
  try simp only [Act.put, List.setIfInBounds_toArray, List.set_cons_zero, List.set_cons_succ]
  refine Rg.Upto.takeA (i := 4) (v := ?_) rfl (by kernel_rfl) (by kernel_rfl) (by kernel_rfl) (of_decide_eq_true (by kernel_rfl)) (fun _ _ _ h => h) (by rfl) (fun w5 hS5 => ?_) HSC ?_
  rotate_left
  · obtain ⟨h1, h2⟩ := hS5
    have d0 := (Hp.blk_cell h2 0 rfl).1
    have d1 := (Hp.blk_cell h2 1 rfl).1
    have d2 := (Hp.blk_cell h2 2 rfl).1
    have d3 := (Hp.blk_cell h2 3 rfl).1
    have d4 := (Hp.blk_cell h2 4 rfl).1
    have d5 := (Hp.blk_cell h2 5 rfl).1
    clear h1 h2
    go_simp
    try rfl
  try simp only [Act.put, List.setIfInBounds_toArray, List.set_cons_zero, List.set_cons_succ]
  refine Rg.Upto.takeA (i := 5) (v := ?_) rfl (by kernel_rfl) (by kernel_rfl) (by kernel_rfl) (of_decide_eq_true (by kernel_rfl)) (fun _ _ _ h => h) (by rfl) (fun w5 hS5 => ?_) HSC ?_
  rotate_left
  · obtain ⟨h1, h2⟩ := hS5
    clear h1 h2
    go_simp
    try rfl
  try simp only [Act.put, List.setIfInBounds_toArray, List.set_cons_zero, List.set_cons_succ]
  refine Rg.Upto.takeA (i := 6) (v := ?_) rfl (by kernel_rfl) (by kernel_rfl) (by kernel_rfl) (of_decide_eq_true (by kernel_rfl)) (fun _ _ _ h => h) (by rfl) (fun w5 hS5 => ?_) HSC ?_
  rotate_left
  · obtain ⟨h1, h2⟩ := hS5
    clear h1 h2
    go_simp
    try rfl
  try simp only [Act.put, List.setIfInBounds_toArray, List.set_cons_zero, List.set_cons_succ]
  refine Rg.Upto.takeA (i := 7) (v := ?_) rfl (by kernel_rfl) (by kernel_rfl) (by kernel_rfl) (of_decide_eq_true (by kernel_rfl)) (fun _ _ _ h => h) (by rfl) (fun w5 hS5 => ?_) HSC ?_
  rotate_left
  · obtain ⟨h1, h2⟩ := hS5
    clear h1 h2
    go_simp
    try rfl
  try simp only [Act.put, List.setIfInBounds_toArray, List.set_cons_zero, List.set_cons_succ]
  refine Rg.Upto.takeA (i := 8) (v := ?_) rfl (by kernel_rfl) (by kernel_rfl) (by kernel_rfl) (of_decide_eq_true (by kernel_rfl)) (fun _ _ _ h => h) (by rfl) (fun w5 hS5 => ?_) HSC ?_
  rotate_left
  · obtain ⟨h1, h2⟩ := hS5
    clear h1 h2
    go_simp
    try rfl
  try simp only [Act.put, List.setIfInBounds_toArray, List.set_cons_zero, List.set_cons_succ]
  refine Rg.Upto.takeA (i := 9) (v := ?_) rfl (by kernel_rfl) (by kernel_rfl) (by kernel_rfl) (of_decide_eq_true (by kernel_rfl)) (fun _ _ _ h => h) (by rfl) (fun w5 hS5 => ?_) HSC ?_
  rotate_left
  · obtain ⟨h1, h2⟩ := hS5
    have b4 := (Hp.blk_cell h1 (o + 4) E4.out).1
    clear h1 h2
    go_simp
    try rfl
  try simp only [Act.put, List.setIfInBounds_toArray, List.set_cons_zero, List.set_cons_succ]
  refine Rg.Upto.one (i := 10) rfl (by kernel_rfl) (by rfl) (fun KK hK => ?_)
  go_simp
  (with_reducible refine (windrowref07_Push.calls (hI := HT.out.to77 HG.out) (hB := HB.out) (h := HS1.out)).mono ?_)
  rintro e w3 ⟨rfl, h7, hb, hkp⟩
  (have hfr := keep_fr HB.out hb hkp)
  (have hT2 := HT.out.of77 h7 hfr)
  (have hD2 := HD.out.fr hfr (fun k _ e => by subst e; exact HT.out.free HD.out k (.inl rfl)))
  (have hX2 := HXF.out _ _ _ HX.out hfr (fun k e z => by subst e; exact mc_tp (HXD.out _ HX.out) HT.out k z (.inl rfl)))
  replace KS := Lib.hid (hfr.blk KS.out (fun e => blk_ne KS.out HT.out.blk (by decide) e))
  replace KD := Lib.hid (hfr.blk KD.out (fun e => blk_ne KD.out HT.out.blk (by decide) e))
  replace HF := Lib.hid (HF.out.then hfr (fun k _ e => .inr (.inl (.inl e))))
  replace HB := Lib.hid hb
  clear HT HD HX
  (have HT := Lib.hid hT2)
  (have HD := Lib.hid hD2)
  (have HX := Lib.hid hX2)
  clear hD2 hX2
  clear h7 hb hkp hfr hT2
  refine hK.out _ _ ⟨KS.out, KD.out⟩ ?_
  clear hK KK HSC
  try simp only [Act.put, List.setIfInBounds_toArray, List.set_cons_zero, List.set_cons_succ]
  have HSC : w3.heap[sb]? = some (.cells arr 81 (0, 0)) ∧ w3.heap[db]? = some (.cells #[.int .i64 P, .int .i64 T, .int .i64 R, .int .i64 B0, .int .i64 T0, .int .i64 C0] 43 (0, 0)) := ⟨KS.out, KD.out⟩
  refine Rg.Upto.takeA (i := 11) (v := ?_) rfl (by kernel_rfl) (by kernel_rfl) (by kernel_rfl) (of_decide_eq_true (by kernel_rfl)) (fun _ _ _ h => h) (by rfl) (fun w5 hS5 => ?_) HSC ?_
  rotate_left
  · obtain ⟨h1, h2⟩ := hS5
    clear h1 h2
    go_simp
    try rfl
  try simp only [Act.put, List.setIfInBounds_toArray, List.set_cons_zero, List.set_cons_succ]
  refine Rg.Upto.takeA (i := 12) (v := ?_) rfl (by kernel_rfl) (by kernel_rfl) (by kernel_rfl) (of_decide_eq_true (by kernel_rfl)) (fun _ _ _ h => h) (by rfl) (fun w5 hS5 => ?_) HSC ?_
  rotate_left
  · obtain ⟨h1, h2⟩ := hS5
    clear h1 h2
    go_simp
    try rfl
  try simp only [Act.put, List.setIfInBounds_toArray, List.set_cons_zero, List.set_cons_succ]
  refine Rg.Upto.takeA (i := 13) (v := ?_) rfl (by kernel_rfl) (by kernel_rfl) (by kernel_rfl) (of_decide_eq_true (by kernel_rfl)) (fun _ _ _ h => h) (by rfl) (fun w5 hS5 => ?_) HSC ?_
  rotate_left
  · obtain ⟨h1, h2⟩ := hS5
    clear h1 h2
    go_simp
    try rfl
  try simp only [Act.put, List.setIfInBounds_toArray, List.set_cons_zero, List.set_cons_succ]
  refine Rg.Upto.takeA (i := 14) (v := ?_) rfl (by kernel_rfl) (by kernel_rfl) (by kernel_rfl) (of_decide_eq_true (by kernel_rfl)) (fun _ _ _ h => h) (by rfl) (fun w5 hS5 => ?_) HSC ?_
  rotate_left
  · obtain ⟨h1, h2⟩ := hS5
    clear h1 h2
    go_simp
    try rfl
  try simp only [Act.put, List.setIfInBounds_toArray, List.set_cons_zero, List.set_cons_succ]
  refine Rg.Upto.takeA (i := 15) (v := ?_) rfl (by kernel_rfl) (by kernel_rfl) (by kernel_rfl) (of_decide_eq_true (by kernel_rfl)) (fun _ _ _ h => h) (by rfl) (fun w5 hS5 => ?_) HSC ?_
  rotate_left
  · obtain ⟨h1, h2⟩ := hS5
    clear h1 h2
    go_simp
    try rfl
  try simp only [Act.put, List.setIfInBounds_toArray, List.set_cons_zero, List.set_cons_succ]
  clear HSC
  refine Rg.Upto.done (by kernel_rfl) ?_
  go_upto_region 5 with (first
    | (go_at_call 43; go_loud ((with_reducible refine (HD.out.grant 0 rfl).mono ?_); rintro e w4 ⟨rfl, hG⟩; (have hfr := hG.fr); (have hT2 := HT.out.fr hfr (HT.out.free HD.out)); (have hX2 := HXF.out _ _ _ HX.out hfr (fun k e z => mc_td (HXD.out _ HX.out) HD.out k z e)); replace KS := Lib.hid (hfr.blk KS.out (duo_nt HD.out KS.out (by decide))); replace KD := Lib.hid (hfr.blk KD.out (duo_nt HD.out KD.out (by decide))); replace HF := Lib.hid (HF.out.then hfr (fun k hk ht => td_back HF.out hk ht (fun k z => .inr (.inr z)))); replace HB := Lib.hid (HB.out.trans hG.bel); clear HT HX; replace HD := Lib.hid hG.duo; (have HT := Lib.hid hT2); (have HX := Lib.hid hX2); clear hfr hT2 hX2 hG)))
  replace HD := Lib.hid (HD.out.drew)
  replace HX := Lib.hid (HXF.out _ _ _ HX.out ((Fr.refl (fun _ => False) _).drew) (fun _ e => e.elim))
  replace HT := Lib.hid (HT.out.below ((Below.refl _ _).drew))
  replace HB := Lib.hid HB.out.drew
  replace HF := Lib.hid HF.out.drew
  have KS1 : Hid (w4.drew.heap[sb]? = some (.cells arr 81 (0, 0))) := Lib.hid KS.out
  have KD1 : Hid (w4.drew.heap[db]? = some (.cells #[.int .i64 P, .int .i64 T, .int .i64 R, .int .i64 B0, .int .i64 T0, .int .i64 C0] 43 (0, 0))) := Lib.hid KD.out
  clear KS KD
  refine Rg.Upto.start (fun w' => w'.heap[sb]? = some (.cells arr 81 (0, 0)) ∧ w'.heap[db]? = some (.cells #[.int .i64 P, .int .i64 T, .int .i64 R, .int .i64 B0, .int .i64 T0, .int .i64 C0] 43 (0, 0))) 1000 (by kernel_rfl) ⟨KS1.out, KD1.out⟩ (fun HS0 => ?_)
  have HSC := HS0
  clear HS0
  (have KS := KS1)
  (have KD := KD1)
  clear KS1 KD1
  refine Rg.Upto.takeA (i := 0) (v := ?_) rfl (by kernel_rfl) (by kernel_rfl) (by kernel_rfl) (of_decide_eq_true (by kernel_rfl)) (fun _ _ _ h => h) (by rfl) (fun w5 hS5 => ?_) HSC ?_
  rotate_left
  · obtain ⟨h1, h2⟩ := hS5
    clear h1 h2
    go_simp
    try rfl
  try simp only [Act.put, List.setIfInBounds_toArray, List.set_cons_zero, List.set_cons_succ]
  refine Rg.Upto.takeA (i := 1) (v := ?_) rfl (by kernel_rfl) (by kernel_rfl) (by kernel_rfl) (of_decide_eq_true (by kernel_rfl)) (fun _ _ _ h => h) (by rfl) (fun w5 hS5 => ?_) HSC ?_
  rotate_left
  · obtain ⟨h1, h2⟩ := hS5
    clear h1 h2
    go_simp
    try rfl
  try simp only [Act.put, List.setIfInBounds_toArray, List.set_cons_zero, List.set_cons_succ]
  refine Rg.Upto.takeA (i := 2) (v := ?_) rfl (by kernel_rfl) (by kernel_rfl) (by kernel_rfl) (of_decide_eq_true (by kernel_rfl)) (fun _ _ _ h => h) (by rfl) (fun w5 hS5 => ?_) HSC ?_
  rotate_left
  · obtain ⟨h1, h2⟩ := hS5
    clear h1 h2
    go_simp
    try rfl
  try simp only [Act.put, List.setIfInBounds_toArray, List.set_cons_zero, List.set_cons_succ]
  refine Rg.Upto.takeA (i := 3) (v := ?_) rfl (by kernel_rfl) (by kernel_rfl) (by kernel_rfl) (of_decide_eq_true (by kernel_rfl)) (fun _ _ _ h => h) (by rfl) (fun w5 hS5 => ?_) HSC ?_
  rotate_left
  · obtain ⟨h1, h2⟩ := hS5
    clear h1 h2
    go_simp
    try rfl
  try simp only [Act.put, List.setIfInBounds_toArray, List.set_cons_zero, List.set_cons_succ]
  refine Rg.Upto.takeA (i := 4) (v := ?_) rfl (by kernel_rfl) (by kernel_rfl) (by kernel_rfl) (of_decide_eq_true (by kernel_rfl)) (fun _ _ _ h => h) (by rfl) (fun w5 hS5 => ?_) HSC ?_
  rotate_left
  · obtain ⟨h1, h2⟩ := hS5
    have b2 := (Hp.blk_cell h1 (o + 2) E2.out).1
    clear h1 h2
    go_simp
    try rfl
  try simp only [Act.put, List.setIfInBounds_toArray, List.set_cons_zero, List.set_cons_succ]
  refine Rg.Upto.takeA (i := 5) (v := ?_) rfl (by kernel_rfl) (by kernel_rfl) (by kernel_rfl) (of_decide_eq_true (by kernel_rfl)) (fun _ _ _ h => h) (by rfl) (fun w5 hS5 => ?_) HSC ?_
  rotate_left
  · obtain ⟨h1, h2⟩ := hS5
    clear h1 h2
    go_simp
    try rfl
  try simp only [Act.put, List.setIfInBounds_toArray, List.set_cons_zero, List.set_cons_succ]
  refine Rg.Upto.one (i := 6) rfl (by kernel_rfl) (by rfl) (fun KK hK => ?_)
  go_simp
  (with_reducible refine (HD.out.sys.who 0 rfl).mono ?_)
  rintro e w5 ⟨rfl, hw⟩
  obtain rfl := hw
  refine hK.out _ _ ⟨KS.out, KD.out⟩ ?_
  clear hK KK HSC
  try simp only [Act.put, List.setIfInBounds_toArray, List.set_cons_zero, List.set_cons_succ]
  have HSC : w4.drew.heap[sb]? = some (.cells arr 81 (0, 0)) ∧ w4.drew.heap[db]? = some (.cells #[.int .i64 P, .int .i64 T, .int .i64 R, .int .i64 B0, .int .i64 T0, .int .i64 C0] 43 (0, 0)) := ⟨KS.out, KD.out⟩
  refine Rg.Upto.one (i := 7) rfl (by kernel_rfl) (by rfl) (fun KK hK => ?_)
  go_simp
  (with_reducible refine (make 9 HD.out HT.out HK.out HL.out HHL.out).mono ?_)
  rintro e w6 ⟨rfl, A1, cp1, hD2, hT2, hown, hb, hfr⟩
  have hX2 := HXF.out _ _ _ HX.out hfr (fun k e z => e.elim (mc_tp (HXD.out _ HX.out) HT.out k z) (mc_td (HXD.out _ HX.out) HD.out k z))
  replace KS := Lib.hid (hfr.blk KS.out (fun z => z.elim (tp_not HT.out KS.out (by decide)) (duo_nt HD.out KS.out (by decide))))
  replace KD := Lib.hid (hfr.blk KD.out (fun z => z.elim (tp_not HT.out KD.out (by decide)) (duo_nt HD.out KD.out (by decide))))
  have HOW := Lib.hid (fun k (z : TpOwn gt A1 cp1 (H.length + 1) k) => (hown k z).imp id (fun y => Nat.le_trans HF.out.size y))
  replace HF := Lib.hid (HF.out.then hfr (fun k hk z => z.elim (fun y => .inr (.inl y)) (fun ht => td_back HF.out hk ht (fun k z => .inr (.inr z)))))
  replace HB := Lib.hid (HB.out.trans hb)
  clear HT HX HD
  (have HD := Lib.hid hD2)
  (have HT := Lib.hid hT2)
  (have HX := Lib.hid hX2)
  clear hown hb hfr hD2 hT2 hX2
  refine hK.out _ _ ⟨KS.out, KD.out⟩ ?_
  clear hK KK HSC
  try simp only [Act.put, List.setIfInBounds_toArray, List.set_cons_zero, List.set_cons_succ]

  refine Rg.Upto.done (by kernel_rfl) ?_
  obtain ⟨s1', an'⟩ := sa
  have HLN : Hid ((H ++ [an']).length = H.length + 1) := Lib.hid (by simp)
  rw [HAC.out] at HD HT
  obtain ⟨b2, -⟩ := Hp.blk_cell KS.out (o + 2) E2.out
  go_upto_region 7 with (first
    | (go_at_call 55; go_loud ((with_reducible refine (windrowref03_Tape_Again.calls gt (H ++ [an']) _ n2.who n2.kind n2.at_ n2.want n2.put n2.seen n2.left _ _ _ _ _ _ _ _ _ _ _ _ w0 _ (HT.out.to77 HG.out) HB.out rfl).mono ?_); rintro e w7 ⟨rfl, h7, hb, hkp⟩; (have hfr := keep_fr HB.out hb hkp); (have hT2 := HT.out.of77 h7 hfr); (have hD2 := HD.out.fr hfr (fun k _ e => by subst e; exact HT.out.free HD.out k (.inl rfl))); (have hX2 := HXF.out _ _ _ HX.out hfr (fun k e z => by subst e; exact mc_tp (HXD.out _ HX.out) HT.out k z (.inl rfl))); replace KS := Lib.hid (hfr.blk KS.out (fun e => blk_ne KS.out HT.out.blk (by decide) e)); replace KD := Lib.hid (hfr.blk KD.out (fun e => blk_ne KD.out HT.out.blk (by decide) e)); replace HF := Lib.hid (HF.out.then hfr (fun k _ e => .inr (.inl (.inl e)))); replace HB := Lib.hid hb; clear HT HD HX; (have HT := Lib.hid hT2); (have HD := Lib.hid hD2); (have HX := Lib.hid hX2); clear hD2 hX2; clear h7 hb hkp hfr hT2)))
  clear b2
  replace HD := Lib.hid (HD.out.drew)
  replace HX := Lib.hid (HXF.out _ _ _ HX.out ((Fr.refl (fun _ => False) _).drew) (fun _ e => e.elim))
  replace HT := Lib.hid (HT.out.below ((Below.refl _ _).drew))
  replace HB := Lib.hid HB.out.drew
  replace HF := Lib.hid HF.out.drew
  have KS1 : Hid (w7.drew.heap[sb]? = some (.cells arr 81 (0, 0))) := Lib.hid KS.out
  have KD1 : Hid (w7.drew.heap[db]? = some (.cells #[.int .i64 P, .int .i64 T, .int .i64 R, .int .i64 B0, .int .i64 T0, .int .i64 C0] 43 (0, 0))) := Lib.hid KD.out
  clear KS KD
  refine Rg.Upto.start (fun w' => w'.heap[sb]? = some (.cells arr 81 (0, 0)) ∧ w'.heap[db]? = some (.cells #[.int .i64 P, .int .i64 T, .int .i64 R, .int .i64 B0, .int .i64 T0, .int .i64 C0] 43 (0, 0))) 1000 (by kernel_rfl) ⟨KS1.out, KD1.out⟩ (fun HS0 => ?_)
  have HSC := HS0
  clear HS0
  (have KS := KS1)
  (have KD := KD1)
  clear KS1 KD1
  refine Rg.Upto.takeA (i := 0) (v := ?_) rfl (by kernel_rfl) (by kernel_rfl) (by kernel_rfl) (of_decide_eq_true (by kernel_rfl)) (fun _ _ _ h => h) (by rfl) (fun w5 hS5 => ?_) HSC ?_
  rotate_left
  · obtain ⟨h1, h2⟩ := hS5
    clear h1 h2
    go_simp
    try rfl
  try simp only [Act.put, List.setIfInBounds_toArray, List.set_cons_zero, List.set_cons_succ]
  refine Rg.Upto.takeA (i := 1) (v := ?_) rfl (by kernel_rfl) (by kernel_rfl) (by kernel_rfl) (of_decide_eq_true (by kernel_rfl)) (fun _ _ _ h => h) (by rfl) (fun w5 hS5 => ?_) HSC ?_
  rotate_left
  · obtain ⟨h1, h2⟩ := hS5
    clear h1 h2
    go_simp
    try rfl
  try simp only [Act.put, List.setIfInBounds_toArray, List.set_cons_zero, List.set_cons_succ]
  refine Rg.Upto.takeA (i := 2) (v := ?_) rfl (by kernel_rfl) (by kernel_rfl) (by kernel_rfl) (of_decide_eq_true (by kernel_rfl)) (fun _ _ _ h => h) (by rfl) (fun w5 hS5 => ?_) HSC ?_
  rotate_left
  · obtain ⟨h1, h2⟩ := hS5
    clear h1 h2
    go_simp
    try rfl
  try simp only [Act.put, List.setIfInBounds_toArray, List.set_cons_zero, List.set_cons_succ]
  refine Rg.Upto.takeA (i := 3) (v := ?_) rfl (by kernel_rfl) (by kernel_rfl) (by kernel_rfl) (of_decide_eq_true (by kernel_rfl)) (fun _ _ _ h => h) (by rfl) (fun w5 hS5 => ?_) HSC ?_
  rotate_left
  · obtain ⟨h1, h2⟩ := hS5
    have b2 := (Hp.blk_cell h1 (o + 2) E2.out).1
    clear h1 h2
    go_simp
    try rfl
  try simp only [Act.put, List.setIfInBounds_toArray, List.set_cons_zero, List.set_cons_succ]
  refine Rg.Upto.takeA (i := 4) (v := ?_) rfl (by kernel_rfl) (by kernel_rfl) (by kernel_rfl) (of_decide_eq_true (by kernel_rfl)) (fun _ _ _ h => h) (by rfl) (fun w5 hS5 => ?_) HSC ?_
  rotate_left
  · obtain ⟨h1, h2⟩ := hS5
    have d0 := (Hp.blk_cell h2 0 rfl).1
    have d1 := (Hp.blk_cell h2 1 rfl).1
    have d2 := (Hp.blk_cell h2 2 rfl).1
    have d3 := (Hp.blk_cell h2 3 rfl).1
    have d4 := (Hp.blk_cell h2 4 rfl).1
    have d5 := (Hp.blk_cell h2 5 rfl).1
    clear h1 h2
    go_simp
    try rfl
  try simp only [Act.put, List.setIfInBounds_toArray, List.set_cons_zero, List.set_cons_succ]
  refine Rg.Upto.takeA (i := 5) (v := ?_) rfl (by kernel_rfl) (by kernel_rfl) (by kernel_rfl) (of_decide_eq_true (by kernel_rfl)) (fun _ _ _ h => h) (by rfl) (fun w5 hS5 => ?_) HSC ?_
  rotate_left
  · obtain ⟨h1, h2⟩ := hS5
    clear h1 h2
    go_simp
    try rfl
  try simp only [Act.put, List.setIfInBounds_toArray, List.set_cons_zero, List.set_cons_succ]
  refine Rg.Upto.takeA (i := 6) (v := ?_) rfl (by kernel_rfl) (by kernel_rfl) (by kernel_rfl) (of_decide_eq_true (by kernel_rfl)) (fun _ _ _ h => h) (by rfl) (fun w5 hS5 => ?_) HSC ?_
  rotate_left
  · obtain ⟨h1, h2⟩ := hS5
    clear h1 h2
    go_simp
    try rfl
  try simp only [Act.put, List.setIfInBounds_toArray, List.set_cons_zero, List.set_cons_succ]
  refine Rg.Upto.takeA (i := 7) (v := ?_) rfl (by kernel_rfl) (by kernel_rfl) (by kernel_rfl) (of_decide_eq_true (by kernel_rfl)) (fun _ _ _ h => h) (by rfl) (fun w5 hS5 => ?_) HSC ?_
  rotate_left
  · obtain ⟨h1, h2⟩ := hS5
    clear h1 h2
    go_simp
    try rfl
  try simp only [Act.put, List.setIfInBounds_toArray, List.set_cons_zero, List.set_cons_succ]
  refine Rg.Upto.takeA (i := 8) (v := ?_) rfl (by kernel_rfl) (by kernel_rfl) (by kernel_rfl) (of_decide_eq_true (by kernel_rfl)) (fun _ _ _ h => h) (by rfl) (fun w5 hS5 => ?_) HSC ?_
  rotate_left
  · obtain ⟨h1, h2⟩ := hS5
    clear h1 h2
    go_simp
    try rfl
  try simp only [Act.put, List.setIfInBounds_toArray, List.set_cons_zero, List.set_cons_succ]
  refine Rg.Upto.takeA (i := 9) (v := ?_) rfl (by kernel_rfl) (by kernel_rfl) (by kernel_rfl) (of_decide_eq_true (by kernel_rfl)) (fun _ _ _ h => h) (by rfl) (fun w5 hS5 => ?_) HSC ?_
  rotate_left
  · obtain ⟨h1, h2⟩ := hS5
    have b4 := (Hp.blk_cell h1 (o + 4) E4.out).1
    clear h1 h2
    go_simp
    try rfl
  try simp only [Act.put, List.setIfInBounds_toArray, List.set_cons_zero, List.set_cons_succ]
  refine Rg.Upto.one (i := 10) rfl (by kernel_rfl) (by rfl) (fun KK hK => ?_)
  go_simp
  (with_reducible refine (windrowref07_Push.calls (hI := HT.out.to77 HG.out) (hB := HB.out) (h := HS2.out)).mono ?_)
  rintro e w8 ⟨rfl, h7, hb, hkp⟩
  (have hfr := keep_fr HB.out hb hkp)
  (have hT2 := HT.out.of77 h7 hfr)
  (have hD2 := HD.out.fr hfr (fun k _ e => by subst e; exact HT.out.free HD.out k (.inl rfl)))
  (have hX2 := HXF.out _ _ _ HX.out hfr (fun k e z => by subst e; exact mc_tp (HXD.out _ HX.out) HT.out k z (.inl rfl)))
  replace KS := Lib.hid (hfr.blk KS.out (fun e => blk_ne KS.out HT.out.blk (by decide) e))
  replace KD := Lib.hid (hfr.blk KD.out (fun e => blk_ne KD.out HT.out.blk (by decide) e))
  replace HF := Lib.hid (HF.out.then hfr (fun k _ e => .inr (.inl (.inl e))))
  replace HB := Lib.hid hb
  clear HT HD HX
  (have HT := Lib.hid hT2)
  (have HD := Lib.hid hD2)
  (have HX := Lib.hid hX2)
  clear hD2 hX2
  clear h7 hb hkp hfr hT2
  refine hK.out _ _ ⟨KS.out, KD.out⟩ ?_
  clear hK KK HSC
  try simp only [Act.put, List.setIfInBounds_toArray, List.set_cons_zero, List.set_cons_succ]
  have HSC : w8.heap[sb]? = some (.cells arr 81 (0, 0)) ∧ w8.heap[db]? = some (.cells #[.int .i64 P, .int .i64 T, .int .i64 R, .int .i64 B0, .int .i64 T0, .int .i64 C0] 43 (0, 0)) := ⟨KS.out, KD.out⟩
  refine Rg.Upto.takeA (i := 11) (v := ?_) rfl (by kernel_rfl) (by kernel_rfl) (by kernel_rfl) (of_decide_eq_true (by kernel_rfl)) (fun _ _ _ h => h) (by rfl) (fun w5 hS5 => ?_) HSC ?_
  rotate_left
  · obtain ⟨h1, h2⟩ := hS5
    clear h1 h2
    go_simp
    try rfl
  try simp only [Act.put, List.setIfInBounds_toArray, List.set_cons_zero, List.set_cons_succ]
  refine Rg.Upto.takeA (i := 12) (v := ?_) rfl (by kernel_rfl) (by kernel_rfl) (by kernel_rfl) (of_decide_eq_true (by kernel_rfl)) (fun _ _ _ h => h) (by rfl) (fun w5 hS5 => ?_) HSC ?_
  rotate_left
  · obtain ⟨h1, h2⟩ := hS5
    clear h1 h2
    go_simp
    try rfl
  try simp only [Act.put, List.setIfInBounds_toArray, List.set_cons_zero, List.set_cons_succ]
  refine Rg.Upto.takeA (i := 13) (v := ?_) rfl (by kernel_rfl) (by kernel_rfl) (by kernel_rfl) (of_decide_eq_true (by kernel_rfl)) (fun _ _ _ h => h) (by rfl) (fun w5 hS5 => ?_) HSC ?_
  rotate_left
  · obtain ⟨h1, h2⟩ := hS5
    clear h1 h2
    go_simp
    try rfl
  try simp only [Act.put, List.setIfInBounds_toArray, List.set_cons_zero, List.set_cons_succ]
  refine Rg.Upto.takeA (i := 14) (v := ?_) rfl (by kernel_rfl) (by kernel_rfl) (by kernel_rfl) (of_decide_eq_true (by kernel_rfl)) (fun _ _ _ h => h) (by rfl) (fun w5 hS5 => ?_) HSC ?_
  rotate_left
  · obtain ⟨h1, h2⟩ := hS5
    clear h1 h2
    go_simp
    try rfl
  try simp only [Act.put, List.setIfInBounds_toArray, List.set_cons_zero, List.set_cons_succ]
  refine Rg.Upto.takeA (i := 15) (v := ?_) rfl (by kernel_rfl) (by kernel_rfl) (by kernel_rfl) (of_decide_eq_true (by kernel_rfl)) (fun _ _ _ h => h) (by rfl) (fun w5 hS5 => ?_) HSC ?_
  rotate_left
  · obtain ⟨h1, h2⟩ := hS5
    clear h1 h2
    go_simp
    try rfl
  try simp only [Act.put, List.setIfInBounds_toArray, List.set_cons_zero, List.set_cons_succ]
  clear HSC
  refine Rg.Upto.done (by kernel_rfl) ?_
  cases ov <;> cases fl
  all_goals
    go_upto_region 8 with (fail)
    try simp only [List.append_eq, List.append, List.cons_append, List.nil_append]
    (obtain ⟨b0, -⟩ := Hp.blk_cell KS.out (o) E0.out)
    go_wp2_with (first
      | (go_at_call 24; go_loud ((have hm := HSP.out _ HD.out HX.out); (with_reducible refine hm.mono ?_); clear hm; rintro e w9 ⟨rfl, hX2, hD2, hb, hfr⟩; (have hT2 := HT.out.fr hfr (fun k hk z => z.elim (fun y => mc_tp (HXD.out _ HX.out) HT.out k y hk) (HT.out.free HD.out k hk))); (have KS9 := Lib.hid (hfr.blk KS.out (fun z => z.elim (mc_not (HXD.out _ HX.out) KS.out (by decide)) (duo_nt HD.out KS.out (by decide))))); replace HF := Lib.hid (HF.out.then hfr (fun k hk z => z.elim .inl (fun z => td_back HF.out hk z (fun k z => .inr (.inr z))))); replace HB := Lib.hid (HB.out.trans hb); clear HT HX HD KS b0; (have KS := KS9); (have HD := Lib.hid hD2); (have HT := Lib.hid hT2); (have HX := Lib.hid hX2); clear hb hfr hD2 hT2 hX2 KS9; (obtain ⟨b0, -⟩ := Hp.blk_cell KS.out (o) E0.out)))
      | (go_at_call 25; go_loud ((have hm := (HAS.out _ HX.out).1); (with_reducible refine hm.mono ?_); clear hm; rintro e w9 ⟨rfl, hw⟩; obtain rfl := hw.symm))
      | (go_at_call 17; go_loud ((have hm := (HAS.out _ HX.out).2); (with_reducible refine hm.mono ?_); clear hm; rintro e w9 ⟨rfl, hw⟩; obtain rfl := hw.symm)))
    go_ret
    exact ⟨rfl, HD.out, HX.out, HB.out, HF.out, A1, cp1, HT.out, fun k z => HOW.out k (HLN.out ▸ z)⟩

set_option maxHeartbeats 8000000 in
set_option maxRecDepth 100000 in
theorem pops_still (bare : Bool) {w0 w : World} {a c am cc p sb o m gt : Nat} {s : AS} {arr : Array Value} {A : Option Addr} {cp : Nat} {H : List Int} {pos : Int} {n : Nx} {stop : Bool} {P T R B0 T0 C0 t : Int} {ov : Bool} {em : Bool} {vl : Int}
    (hB : Below w0.heap.size w0 w) (hT : IsTp w0.heap.size w c cc gt A cp H pos n stop)
    (hS : w.heap[sb]? = some (.cells arr 81 (0, 0))) (e0 : arr[o + 1]? = some (.pointer (some ⟨m, 0, none⟩))) (e2 : arr[o + 3]? = some (.pointer (some ⟨gt, 0, none⟩)))
    {pos2 : Int} {n2 : Nx} {stop2 : Bool} (hs1 : windrowref07_Pop.f H 0 n.who n.kind n.at_ n.want n.put n.seen n.left false P T R B0 T0 C0 t = some (ov, em, vl, pos2, n2.who, n2.kind, n2.at_, n2.want, n2.put, n2.seen, n2.left, stop2)) (hob : (ov || bare) = true)
    (hask : ∀ w1, Fr (fun k => TpOwn gt A cp H.length k) w w1 → (Calls Try.prog 26 #[.pointer (some ⟨m, 0, none⟩), .pointer (some ⟨p, 0, none⟩)] w1 fun e w2 => e = .returned (.bool ov) ∧ w2 = w1) ∧ (Calls Try.prog 27 #[.pointer (some ⟨m, 0, none⟩)] w1 fun e w2 => e = .returned (.bool ov) ∧ w2 = w1) ∧ (Calls Try.prog 28 #[.pointer (some ⟨m, 0, none⟩)] w1 fun e w2 => e = .returned (.bool em) ∧ w2 = w1) ∧ (Calls Try.prog 29 #[.pointer (some ⟨m, 0, none⟩)] w1 fun e w2 => e = .returned (.int .u64 vl) ∧ w2 = w1)) :
    Calls Try.prog 37 #[.pointer (some ⟨sb, o, none⟩), .pointer (some ⟨p, 0, none⟩), .pointer (some ⟨am, 0, none⟩), .agg #[.int .i64 P, .int .i64 T, .int .i64 R, .int .i64 B0, .int .i64 T0, .int .i64 C0], .int .i64 t, .bool bare] w fun e w' => e = .returned (.bool true) ∧ IsTp w0.heap.size w' c cc gt A cp H pos2 n2 stop2 ∧ Below w0.heap.size w0 w' ∧ Fr (fun k => TpOwn gt A cp H.length k) w w' := by
  have HT := Lib.hid hT
  have HG := Lib.hid hT.base
  have KS := Lib.hid hS
  have E0 := Lib.hid e0
  have E2 := Lib.hid e2
  have HB := Lib.hid hB
  have HS1 := Lib.hid hs1
  have HF := Lib.hid (Fr.refl (fun k => TpOwn gt A cp H.length k) w)
  have HAS := Lib.hid hask
  clear hT hS e0 e2 hB hs1 hask
  have KD := Lib.hid (Hp.blk_new w (.cells #[.int .i64 P, .int .i64 T, .int .i64 R, .int .i64 B0, .int .i64 T0, .int .i64 C0] 43))
  replace KS := Lib.hid (Hp.blk_alloc KS.out (.cells #[.int .i64 P, .int .i64 T, .int .i64 R, .int .i64 B0, .int .i64 T0, .int .i64 C0] 43))
  replace HT := Lib.hid (HT.out.below ((Below.refl w.heap.size w).alloc (Nat.le_refl _) (.cells #[.int .i64 P, .int .i64 T, .int .i64 R, .int .i64 B0, .int .i64 T0, .int .i64 C0] 43)))
  replace HB := Lib.hid (HB.out.alloc HB.out.size (.cells #[.int .i64 P, .int .i64 T, .int .i64 R, .int .i64 B0, .int .i64 T0, .int .i64 C0] 43))
  replace HF := Lib.hid (HF.out.alloc (.cells #[.int .i64 P, .int .i64 T, .int .i64 R, .int .i64 B0, .int .i64 T0, .int .i64 C0] 43))
  go_enter Try.func37, Try.ntmps37
  go_upto_region 1 with (fail)
  generalize hw1 : w.alloc (.cells #[.int .i64 P, .int .i64 T, .int .i64 R, .int .i64 B0, .int .i64 T0, .int .i64 C0] 43) = w1 at KD KS HT HB HF ⊢
  obtain ⟨db, hdb⟩ : ∃ db, db = w.heap.size := ⟨_, rfl⟩
  rw [← hdb] at KD ⊢
  clear hw1 hdb
  obtain ⟨b2, -⟩ := Hp.blk_cell KS.out (o + 3) E2.out
  go_upto_region 2 with (first
    | (go_at_call 55; go_loud ((with_reducible refine (windrowref03_Tape_Again.calls gt H _ n.who n.kind n.at_ n.want n.put n.seen n.left _ _ _ _ _ _ _ _ _ _ _ _ w0 _ (HT.out.to77 HG.out) HB.out rfl).mono ?_); rintro e w2 ⟨rfl, h7, hb, hkp⟩; (have hfr := keep_fr HB.out hb hkp); (have hT2 := HT.out.of77 h7 hfr); replace KS := Lib.hid (hfr.blk KS.out (fun e => blk_ne KS.out HT.out.blk (by decide) e)); replace KD := Lib.hid (hfr.blk KD.out (fun e => blk_ne KD.out HT.out.blk (by decide) e)); replace HF := Lib.hid (HF.out.then hfr (fun k _ e => .inl e)); replace HB := Lib.hid hb; clear HT; (have HT := Lib.hid hT2); clear h7 hb hkp hfr hT2)))
  clear b2
  replace HT := Lib.hid (HT.out.below ((Below.refl _ _).drew))
  replace HB := Lib.hid HB.out.drew
  replace HF := Lib.hid HF.out.drew
  have KS1 : Hid (w2.drew.heap[sb]? = some (.cells arr 81 (0, 0))) := Lib.hid KS.out
  have KD1 : Hid (w2.drew.heap[db]? = some (.cells #[.int .i64 P, .int .i64 T, .int .i64 R, .int .i64 B0, .int .i64 T0, .int .i64 C0] 43 (0, 0))) := Lib.hid KD.out
  clear KS KD
  refine Rg.Upto.start (fun w' => w'.heap[sb]? = some (.cells arr 81 (0, 0)) ∧ w'.heap[db]? = some (.cells #[.int .i64 P, .int .i64 T, .int .i64 R, .int .i64 B0, .int .i64 T0, .int .i64 C0] 43 (0, 0))) 1000 (by kernel_rfl) ⟨KS1.out, KD1.out⟩ (fun HS0 => ?_)
  have HSC := HS0
  clear HS0
  (have KS := KS1)
  (have KD := KD1)
  clear KS1 KD1
  refine Rg.Upto.takeA (i := 0) (v := ?_) rfl (by kernel_rfl) (by kernel_rfl) (by kernel_rfl) (of_decide_eq_true (by kernel_rfl)) (fun _ _ _ h => h) (by rfl) (fun w5 hS5 => ?_) HSC ?_
  rotate_left
  · obtain ⟨h1, h2⟩ := hS5
    clear h1 h2
    go_simp
    try rfl
  try simp only [Act.put, List.setIfInBounds_toArray, List.set_cons_zero, List.set_cons_succ]
  refine Rg.Upto.takeA (i := 1) (v := ?_) rfl (by kernel_rfl) (by kernel_rfl) (by kernel_rfl) (of_decide_eq_true (by kernel_rfl)) (fun _ _ _ h => h) (by rfl) (fun w5 hS5 => ?_) HSC ?_
  rotate_left
  · obtain ⟨h1, h2⟩ := hS5
    clear h1 h2
    go_simp
    try rfl
  try simp only [Act.put, List.setIfInBounds_toArray, List.set_cons_zero, List.set_cons_succ]
  refine Rg.Upto.takeA (i := 2) (v := ?_) rfl (by kernel_rfl) (by kernel_rfl) (by kernel_rfl) (of_decide_eq_true (by kernel_rfl)) (fun _ _ _ h => h) (by rfl) (fun w5 hS5 => ?_) HSC ?_
  rotate_left
  · obtain ⟨h1, h2⟩ := hS5
    clear h1 h2
    go_simp
    try rfl
  try simp only [Act.put, List.setIfInBounds_toArray, List.set_cons_zero, List.set_cons_succ]
  refine Rg.Upto.takeA (i := 3) (v := ?_) rfl (by kernel_rfl) (by kernel_rfl) (by kernel_rfl) (of_decide_eq_true (by kernel_rfl)) (fun _ _ _ h => h) (by rfl) (fun w5 hS5 => ?_) HSC ?_
  rotate_left
  · obtain ⟨h1, h2⟩ := hS5
    have b2 := (Hp.blk_cell h1 (o + 3) E2.out).1
    clear h1 h2
    go_simp
    try rfl
  try simp only [Act.put, List.setIfInBounds_toArray, List.set_cons_zero, List.set_cons_succ]
  refine Rg.Upto.takeA (i := 4) (v := ?_) rfl (by kernel_rfl) (by kernel_rfl) (by kernel_rfl) (of_decide_eq_true (by kernel_rfl)) (fun _ _ _ h => h) (by rfl) (fun w5 hS5 => ?_) HSC ?_
  rotate_left
  · obtain ⟨h1, h2⟩ := hS5
    have d0 := (Hp.blk_cell h2 0 rfl).1
    have d1 := (Hp.blk_cell h2 1 rfl).1
    have d2 := (Hp.blk_cell h2 2 rfl).1
    have d3 := (Hp.blk_cell h2 3 rfl).1
    have d4 := (Hp.blk_cell h2 4 rfl).1
    have d5 := (Hp.blk_cell h2 5 rfl).1
    clear h1 h2
    go_simp
    try rfl
  try simp only [Act.put, List.setIfInBounds_toArray, List.set_cons_zero, List.set_cons_succ]
  refine Rg.Upto.takeA (i := 5) (v := ?_) rfl (by kernel_rfl) (by kernel_rfl) (by kernel_rfl) (of_decide_eq_true (by kernel_rfl)) (fun _ _ _ h => h) (by rfl) (fun w5 hS5 => ?_) HSC ?_
  rotate_left
  · obtain ⟨h1, h2⟩ := hS5
    clear h1 h2
    go_simp
    try rfl
  try simp only [Act.put, List.setIfInBounds_toArray, List.set_cons_zero, List.set_cons_succ]
  refine Rg.Upto.one (i := 6) rfl (by kernel_rfl) (by rfl) (fun KK hK => ?_)
  go_simp
  (with_reducible refine (windrowref07_Pop.calls (hI := HT.out.to77 HG.out) (hB := HB.out) (h := HS1.out)).mono ?_)
  rintro e w3 ⟨rfl, h7, hb, hkp⟩
  (have hfr := keep_fr HB.out hb hkp)
  (have hT2 := HT.out.of77 h7 hfr)
  replace KS := Lib.hid (hfr.blk KS.out (fun e => blk_ne KS.out HT.out.blk (by decide) e))
  replace KD := Lib.hid (hfr.blk KD.out (fun e => blk_ne KD.out HT.out.blk (by decide) e))
  replace HF := Lib.hid (HF.out.then hfr (fun k _ e => .inl e))
  replace HB := Lib.hid hb
  clear HT
  (have HT := Lib.hid hT2)
  clear h7 hb hkp hfr hT2
  refine hK.out _ _ ⟨KS.out, KD.out⟩ ?_
  clear hK KK HSC
  try simp only [Act.put, List.setIfInBounds_toArray, List.set_cons_zero, List.set_cons_succ]
  have HSC : w3.heap[sb]? = some (.cells arr 81 (0, 0)) ∧ w3.heap[db]? = some (.cells #[.int .i64 P, .int .i64 T, .int .i64 R, .int .i64 B0, .int .i64 T0, .int .i64 C0] 43 (0, 0)) := ⟨KS.out, KD.out⟩
  refine Rg.Upto.takeA (i := 7) (v := ?_) rfl (by kernel_rfl) (by kernel_rfl) (by kernel_rfl) (of_decide_eq_true (by kernel_rfl)) (fun _ _ _ h => h) (by rfl) (fun w5 hS5 => ?_) HSC ?_
  rotate_left
  · obtain ⟨h1, h2⟩ := hS5
    clear h1 h2
    go_simp
    try rfl
  try simp only [Act.put, List.setIfInBounds_toArray, List.set_cons_zero, List.set_cons_succ]
  refine Rg.Upto.takeA (i := 8) (v := ?_) rfl (by kernel_rfl) (by kernel_rfl) (by kernel_rfl) (of_decide_eq_true (by kernel_rfl)) (fun _ _ _ h => h) (by rfl) (fun w5 hS5 => ?_) HSC ?_
  rotate_left
  · obtain ⟨h1, h2⟩ := hS5
    clear h1 h2
    go_simp
    try rfl
  try simp only [Act.put, List.setIfInBounds_toArray, List.set_cons_zero, List.set_cons_succ]
  refine Rg.Upto.takeA (i := 9) (v := ?_) rfl (by kernel_rfl) (by kernel_rfl) (by kernel_rfl) (of_decide_eq_true (by kernel_rfl)) (fun _ _ _ h => h) (by rfl) (fun w5 hS5 => ?_) HSC ?_
  rotate_left
  · obtain ⟨h1, h2⟩ := hS5
    clear h1 h2
    go_simp
    try rfl
  try simp only [Act.put, List.setIfInBounds_toArray, List.set_cons_zero, List.set_cons_succ]
  refine Rg.Upto.takeA (i := 10) (v := ?_) rfl (by kernel_rfl) (by kernel_rfl) (by kernel_rfl) (of_decide_eq_true (by kernel_rfl)) (fun _ _ _ h => h) (by rfl) (fun w5 hS5 => ?_) HSC ?_
  rotate_left
  · obtain ⟨h1, h2⟩ := hS5
    clear h1 h2
    go_simp
    try rfl
  try simp only [Act.put, List.setIfInBounds_toArray, List.set_cons_zero, List.set_cons_succ]
  refine Rg.Upto.takeA (i := 11) (v := ?_) rfl (by kernel_rfl) (by kernel_rfl) (by kernel_rfl) (of_decide_eq_true (by kernel_rfl)) (fun _ _ _ h => h) (by rfl) (fun w5 hS5 => ?_) HSC ?_
  rotate_left
  · obtain ⟨h1, h2⟩ := hS5
    clear h1 h2
    go_simp
    try rfl
  try simp only [Act.put, List.setIfInBounds_toArray, List.set_cons_zero, List.set_cons_succ]
  refine Rg.Upto.takeA (i := 12) (v := ?_) rfl (by kernel_rfl) (by kernel_rfl) (by kernel_rfl) (of_decide_eq_true (by kernel_rfl)) (fun _ _ _ h => h) (by rfl) (fun w5 hS5 => ?_) HSC ?_
  rotate_left
  · obtain ⟨h1, h2⟩ := hS5
    clear h1 h2
    go_simp
    try rfl
  try simp only [Act.put, List.setIfInBounds_toArray, List.set_cons_zero, List.set_cons_succ]
  refine Rg.Upto.takeA (i := 13) (v := ?_) rfl (by kernel_rfl) (by kernel_rfl) (by kernel_rfl) (of_decide_eq_true (by kernel_rfl)) (fun _ _ _ h => h) (by rfl) (fun w5 hS5 => ?_) HSC ?_
  rotate_left
  · obtain ⟨h1, h2⟩ := hS5
    clear h1 h2
    go_simp
    try rfl
  try simp only [Act.put, List.setIfInBounds_toArray, List.set_cons_zero, List.set_cons_succ]
  clear HSC
  refine Rg.Upto.done (by kernel_rfl) ?_
  cases ov <;> cases bare <;> cases em
  all_goals (try (exact absurd hob (by decide)))
  all_goals clear hob
  all_goals
    go_upto_region 8 with (fail)
    try simp only [List.append_eq, List.append, List.cons_append, List.nil_append]
    (obtain ⟨b0, -⟩ := Hp.blk_cell KS.out (o + 1) E0.out)
    go_wp2_with (first
      | (go_at_call 26; go_loud ((have hm := (HAS.out _ HF.out).1); (with_reducible refine hm.mono ?_); clear hm; rintro e w9 ⟨rfl, hw⟩; obtain rfl := hw.symm))
      | (go_at_call 27; go_loud ((have hm := (HAS.out _ HF.out).2.1); (with_reducible refine hm.mono ?_); clear hm; rintro e w9 ⟨rfl, hw⟩; obtain rfl := hw.symm))
      | (go_at_call 28; go_loud ((have hm := (HAS.out _ HF.out).2.2.1); (with_reducible refine hm.mono ?_); clear hm; rintro e w9 ⟨rfl, hw⟩; obtain rfl := hw.symm))
      | (go_at_call 29; go_loud ((have hm := (HAS.out _ HF.out).2.2.2); (with_reducible refine hm.mono ?_); clear hm; rintro e w9 ⟨rfl, hw⟩; obtain rfl := hw.symm)))
    go_ret
    exact ⟨rfl, HT.out, HB.out, HF.out⟩

set_option maxHeartbeats 8000000 in
set_option maxRecDepth 100000 in
theorem pops_go {w0 w : World} {a c am cc p sb o m gt : Nat} {s : AS} {arr : Array Value} {A : Option Addr} {cp : Nat} {H : List Int} {pos : Int} {n : Nx} {stop : Bool} {P T R B0 T0 C0 t : Int} {ov : Bool} {em : Bool} {vl : Int}
    (hB : Below w0.heap.size w0 w) (hT : IsTp w0.heap.size w c cc gt A cp H pos n stop)
    (hS : w.heap[sb]? = some (.cells arr 81 (0, 0))) (e0 : arr[o + 1]? = some (.pointer (some ⟨m, 0, none⟩))) (e2 : arr[o + 3]? = some (.pointer (some ⟨gt, 0, none⟩)))
    (hd : Duo w0.heap.size w a c s [(p, 9, false)] am cc s []) (X X1 : World → Prop) (Dm : Nat → Prop) (hX : X w) (hXf : ∀ w1 w2 (S : Nat → Prop), X w1 → Fr S w1 w2 → (∀ k, S k → ¬ Dm k) → X w2) (hXd : ∀ w1, X w1 → McD Dm w1)
    {pos2 : Int} {n2 : Nx} {stop2 : Bool} {em0 : Bool} {vl0 : Int} (hs1 : windrowref07_Pop.f H 0 n.who n.kind n.at_ n.want n.put n.seen n.left false P T R B0 T0 C0 t = some (false, em0, vl0, pos2, n2.who, n2.kind, n2.at_, n2.want, n2.put, n2.seen, n2.left, stop2)) (hk : 1 ≤ n2.kind ∧ n2.kind ≤ 6) (sa : AS × Int) (hac : s.acc true 9 n2.kind n2.at_ n2.want n2.put = sa) {pos3 : Int} {n3 : Nx} {stop3 : Bool} (hs2 : windrowref07_Pop.f (H ++ [sa.2]) 0 n2.who n2.kind n2.at_ n2.want n2.put n2.seen n2.left false P T R B0 T0 C0 t = some (ov, em, vl, pos3, n3.who, n3.kind, n3.at_, n3.want, n3.put, n3.seen, n3.left, stop3)) (hl : s.log.length ≤ 1000000) (hH : H.length ≤ 100)
    (hstep : ∀ w1, Duo w0.heap.size w1 a c s [(p, 9, true)] am cc sa.1 [] → X w1 → Calls Try.prog 26 #[.pointer (some ⟨m, 0, none⟩), .pointer (some ⟨p, 0, none⟩)] w1 fun e w2 => e = .returned (.bool ov) ∧ X1 w2 ∧ Duo w0.heap.size w2 a c sa.1 [(p, 9, false)] am cc sa.1 [] ∧ Below w0.heap.size w1 w2 ∧ Fr (fun k => Dm k ∨ TouchD c cc w1 k) w1 w2)
    (hask : ∀ w1, X1 w1 → (Calls Try.prog 27 #[.pointer (some ⟨m, 0, none⟩)] w1 fun e w2 => e = .returned (.bool ov) ∧ w2 = w1) ∧ (Calls Try.prog 28 #[.pointer (some ⟨m, 0, none⟩)] w1 fun e w2 => e = .returned (.bool em) ∧ w2 = w1) ∧ (Calls Try.prog 29 #[.pointer (some ⟨m, 0, none⟩)] w1 fun e w2 => e = .returned (.int .u64 vl) ∧ w2 = w1)) :
    Calls Try.prog 37 #[.pointer (some ⟨sb, o, none⟩), .pointer (some ⟨p, 0, none⟩), .pointer (some ⟨am, 0, none⟩), .agg #[.int .i64 P, .int .i64 T, .int .i64 R, .int .i64 B0, .int .i64 T0, .int .i64 C0], .int .i64 t, .bool false] w fun e w' => e = .returned (.bool true) ∧ Duo w0.heap.size w' a c sa.1 [(p, 9, false)] am cc sa.1 [] ∧ X1 w' ∧ Below w0.heap.size w0 w' ∧ Fr (fun k => Dm k ∨ TpOwn gt A cp H.length k ∨ TouchD c cc w k) w w' ∧ ∃ A' cp', IsTp w0.heap.size w' c cc gt A' cp' (H ++ [sa.2]) pos3 n3 stop3 ∧ (∀ k, TpOwn gt A' cp' (H ++ [sa.2]).length k → TpOwn gt A cp H.length k ∨ w.heap.size ≤ k) := by
  have HT := Lib.hid hT
  have HG := Lib.hid hT.base
  have KS := Lib.hid hS
  have E0 := Lib.hid e0
  have E2 := Lib.hid e2
  have HB := Lib.hid hB
  have HS1 := Lib.hid hs1
  have HF := Lib.hid (Fr.refl (fun k => Dm k ∨ TpOwn gt A cp H.length k ∨ TouchD c cc w k) w)
  have HD := Lib.hid hd
  have HX := Lib.hid hX
  have HXF := Lib.hid hXf
  have HXD := Lib.hid hXd
  have HSP := Lib.hid hstep
  have HAS := Lib.hid hask
  have HS2 := Lib.hid hs2
  have HK := Lib.hid hk
  have HAC := Lib.hid hac
  have HL := Lib.hid hl
  have HHL := Lib.hid hH
  clear hT hS e0 e2 hB hs1 hask hd hX hXf hXd hstep hs2 hk hac hl hH
  have KD := Lib.hid (Hp.blk_new w (.cells #[.int .i64 P, .int .i64 T, .int .i64 R, .int .i64 B0, .int .i64 T0, .int .i64 C0] 43))
  replace KS := Lib.hid (Hp.blk_alloc KS.out (.cells #[.int .i64 P, .int .i64 T, .int .i64 R, .int .i64 B0, .int .i64 T0, .int .i64 C0] 43))
  replace HD := Lib.hid (HD.out.alloc (.cells #[.int .i64 P, .int .i64 T, .int .i64 R, .int .i64 B0, .int .i64 T0, .int .i64 C0] 43))
  replace HX := Lib.hid (HXF.out _ _ _ HX.out ((Fr.refl (fun _ => False) w).alloc (.cells #[.int .i64 P, .int .i64 T, .int .i64 R, .int .i64 B0, .int .i64 T0, .int .i64 C0] 43)) (fun _ e => e.elim))
  replace HT := Lib.hid (HT.out.below ((Below.refl w.heap.size w).alloc (Nat.le_refl _) (.cells #[.int .i64 P, .int .i64 T, .int .i64 R, .int .i64 B0, .int .i64 T0, .int .i64 C0] 43)))
  replace HB := Lib.hid (HB.out.alloc HB.out.size (.cells #[.int .i64 P, .int .i64 T, .int .i64 R, .int .i64 B0, .int .i64 T0, .int .i64 C0] 43))
  replace HF := Lib.hid (HF.out.alloc (.cells #[.int .i64 P, .int .i64 T, .int .i64 R, .int .i64 B0, .int .i64 T0, .int .i64 C0] 43))
  go_enter Try.func37, Try.ntmps37
  go_upto_region 1 with (fail)
  generalize hw1 : w.alloc (.cells #[.int .i64 P, .int .i64 T, .int .i64 R, .int .i64 B0, .int .i64 T0, .int .i64 C0] 43) = w1 at KD KS HT HB HF HD HX ⊢
  obtain ⟨db, hdb⟩ : ∃ db, db = w.heap.size := ⟨_, rfl⟩
  rw [← hdb] at KD ⊢
  clear hw1 hdb
  obtain ⟨b2, -⟩ := Hp.blk_cell KS.out (o + 3) E2.out
  go_upto_region 2 with (first
    | (go_at_call 55; go_loud ((with_reducible refine (windrowref03_Tape_Again.calls gt H _ n.who n.kind n.at_ n.want n.put n.seen n.left _ _ _ _ _ _ _ _ _ _ _ _ w0 _ (HT.out.to77 HG.out) HB.out rfl).mono ?_); rintro e w2 ⟨rfl, h7, hb, hkp⟩; (have hfr := keep_fr HB.out hb hkp); (have hT2 := HT.out.of77 h7 hfr); (have hD2 := HD.out.fr hfr (fun k _ e => by subst e; exact HT.out.free HD.out k (.inl rfl))); (have hX2 := HXF.out _ _ _ HX.out hfr (fun k e z => by subst e; exact mc_tp (HXD.out _ HX.out) HT.out k z (.inl rfl))); replace KS := Lib.hid (hfr.blk KS.out (fun e => blk_ne KS.out HT.out.blk (by decide) e)); replace KD := Lib.hid (hfr.blk KD.out (fun e => blk_ne KD.out HT.out.blk (by decide) e)); replace HF := Lib.hid (HF.out.then hfr (fun k _ e => .inr (.inl (.inl e)))); replace HB := Lib.hid hb; clear HT HD HX; (have HT := Lib.hid hT2); (have HD := Lib.hid hD2); (have HX := Lib.hid hX2); clear hD2 hX2; clear h7 hb hkp hfr hT2)))
  clear b2
  replace HD := Lib.hid (HD.out.drew)
  replace HX := Lib.hid (HXF.out _ _ _ HX.out ((Fr.refl (fun _ => False) _).drew) (fun _ e => e.elim))
  replace HT := Lib.hid (HT.out.below ((Below.refl _ _).drew))
  replace HB := Lib.hid HB.out.drew
  replace HF := Lib.hid HF.out.drew
  have KS1 : Hid (w2.drew.heap[sb]? = some (.cells arr 81 (0, 0))) := Lib.hid KS.out
  have KD1 : Hid (w2.drew.heap[db]? = some (.cells #[.int .i64 P, .int .i64 T, .int .i64 R, .int .i64 B0, .int .i64 T0, .int .i64 C0] 43 (0, 0))) := Lib.hid KD.out
  clear KS KD
  refine Rg.Upto.start (fun w' => w'.heap[sb]? = some (.cells arr 81 (0, 0)) ∧ w'.heap[db]? = some (.cells #[.int .i64 P, .int .i64 T, .int .i64 R, .int .i64 B0, .int .i64 T0, .int .i64 C0] 43 (0, 0))) 1000 (by kernel_rfl) ⟨KS1.out, KD1.out⟩ (fun HS0 => ?_)
  have HSC := HS0
  clear HS0
  (have KS := KS1)
  (have KD := KD1)
  clear KS1 KD1
  refine Rg.Upto.takeA (i := 0) (v := ?_) rfl (by kernel_rfl) (by kernel_rfl) (by kernel_rfl) (of_decide_eq_true (by kernel_rfl)) (fun _ _ _ h => h) (by rfl) (fun w5 hS5 => ?_) HSC ?_
  rotate_left
  · obtain ⟨h1, h2⟩ := hS5
    clear h1 h2
    go_simp
    try rfl
  try simp only [Act.put, List.setIfInBounds_toArray, List.set_cons_zero, List.set_cons_succ]
  refine Rg.Upto.takeA (i := 1) (v := ?_) rfl (by kernel_rfl) (by kernel_rfl) (by kernel_rfl) (of_decide_eq_true (by kernel_rfl)) (fun _ _ _ h => h) (by rfl) (fun w5 hS5 => ?_) HSC ?_
  rotate_left
  · obtain ⟨h1, h2⟩ := hS5
    clear h1 h2
    go_simp
    try rfl
  try simp only [Act.put, List.setIfInBounds_toArray, List.set_cons_zero, List.set_cons_succ]
  refine Rg.Upto.takeA (i := 2) (v := ?_) rfl (by kernel_rfl) (by kernel_rfl) (by kernel_rfl) (of_decide_eq_true (by kernel_rfl)) (fun _ _ _ h => h) (by rfl) (fun w5 hS5 => ?_) HSC ?_
  rotate_left
  · obtain ⟨h1, h2⟩ := hS5
    clear h1 h2
    go_simp
    try rfl
  try simp only [Act.put, List.setIfInBounds_toArray, List.set_cons_zero, List.set_cons_succ]
  refine Rg.Upto.takeA (i := 3) (v := ?_) rfl (by kernel_rfl) (by kernel_rfl) (by kernel_rfl) (of_decide_eq_true (by kernel_rfl)) (fun _ _ _ h => h) (by rfl) (fun w5 hS5 => ?_) HSC ?_
  rotate_left
  · obtain ⟨h1, h2⟩ := hS5
    have b2 := (Hp.blk_cell h1 (o + 3) E2.out).1
    clear h1 h2
    go_simp
    try rfl
  try simp only [Act.put, List.setIfInBounds_toArray, List.set_cons_zero, List.set_cons_succ]
  refine Rg.Upto.takeA (i := 4) (v := ?_) rfl (by kernel_rfl) (by kernel_rfl) (by kernel_rfl) (of_decide_eq_true (by kernel_rfl)) (fun _ _ _ h => h) (by rfl) (fun w5 hS5 => ?_) HSC ?_
  rotate_left
  · obtain ⟨h1, h2⟩ := hS5
    have d0 := (Hp.blk_cell h2 0 rfl).1
    have d1 := (Hp.blk_cell h2 1 rfl).1
    have d2 := (Hp.blk_cell h2 2 rfl).1
    have d3 := (Hp.blk_cell h2 3 rfl).1
    have d4 := (Hp.blk_cell h2 4 rfl).1
    have d5 := (Hp.blk_cell h2 5 rfl).1
    clear h1 h2
    go_simp
    try rfl
  try simp only [Act.put, List.setIfInBounds_toArray, List.set_cons_zero, List.set_cons_succ]
  refine Rg.Upto.takeA (i := 5) (v := ?_) rfl (by kernel_rfl) (by kernel_rfl) (by kernel_rfl) (of_decide_eq_true (by kernel_rfl)) (fun _ _ _ h => h) (by rfl) (fun w5 hS5 => ?_) HSC ?_
  rotate_left
  · obtain ⟨h1, h2⟩ := hS5
    clear h1 h2
    go_simp
    try rfl
  try simp only [Act.put, List.setIfInBounds_toArray, List.set_cons_zero, List.set_cons_succ]
  refine Rg.Upto.one (i := 6) rfl (by kernel_rfl) (by rfl) (fun KK hK => ?_)
  go_simp
  (with_reducible refine (windrowref07_Pop.calls (hI := HT.out.to77 HG.out) (hB := HB.out) (h := HS1.out)).mono ?_)
  rintro e w3 ⟨rfl, h7, hb, hkp⟩
  (have hfr := keep_fr HB.out hb hkp)
  (have hT2 := HT.out.of77 h7 hfr)
  (have hD2 := HD.out.fr hfr (fun k _ e => by subst e; exact HT.out.free HD.out k (.inl rfl)))
  (have hX2 := HXF.out _ _ _ HX.out hfr (fun k e z => by subst e; exact mc_tp (HXD.out _ HX.out) HT.out k z (.inl rfl)))
  replace KS := Lib.hid (hfr.blk KS.out (fun e => blk_ne KS.out HT.out.blk (by decide) e))
  replace KD := Lib.hid (hfr.blk KD.out (fun e => blk_ne KD.out HT.out.blk (by decide) e))
  replace HF := Lib.hid (HF.out.then hfr (fun k _ e => .inr (.inl (.inl e))))
  replace HB := Lib.hid hb
  clear HT HD HX
  (have HT := Lib.hid hT2)
  (have HD := Lib.hid hD2)
  (have HX := Lib.hid hX2)
  clear hD2 hX2
  clear h7 hb hkp hfr hT2
  refine hK.out _ _ ⟨KS.out, KD.out⟩ ?_
  clear hK KK HSC
  try simp only [Act.put, List.setIfInBounds_toArray, List.set_cons_zero, List.set_cons_succ]
  have HSC : w3.heap[sb]? = some (.cells arr 81 (0, 0)) ∧ w3.heap[db]? = some (.cells #[.int .i64 P, .int .i64 T, .int .i64 R, .int .i64 B0, .int .i64 T0, .int .i64 C0] 43 (0, 0)) := ⟨KS.out, KD.out⟩
  refine Rg.Upto.takeA (i := 7) (v := ?_) rfl (by kernel_rfl) (by kernel_rfl) (by kernel_rfl) (of_decide_eq_true (by kernel_rfl)) (fun _ _ _ h => h) (by rfl) (fun w5 hS5 => ?_) HSC ?_
  rotate_left
  · obtain ⟨h1, h2⟩ := hS5
    clear h1 h2
    go_simp
    try rfl
  try simp only [Act.put, List.setIfInBounds_toArray, List.set_cons_zero, List.set_cons_succ]
  refine Rg.Upto.takeA (i := 8) (v := ?_) rfl (by kernel_rfl) (by kernel_rfl) (by kernel_rfl) (of_decide_eq_true (by kernel_rfl)) (fun _ _ _ h => h) (by rfl) (fun w5 hS5 => ?_) HSC ?_
  rotate_left
  · obtain ⟨h1, h2⟩ := hS5
    clear h1 h2
    go_simp
    try rfl
  try simp only [Act.put, List.setIfInBounds_toArray, List.set_cons_zero, List.set_cons_succ]
  refine Rg.Upto.takeA (i := 9) (v := ?_) rfl (by kernel_rfl) (by kernel_rfl) (by kernel_rfl) (of_decide_eq_true (by kernel_rfl)) (fun _ _ _ h => h) (by rfl) (fun w5 hS5 => ?_) HSC ?_
  rotate_left
  · obtain ⟨h1, h2⟩ := hS5
    clear h1 h2
    go_simp
    try rfl
  try simp only [Act.put, List.setIfInBounds_toArray, List.set_cons_zero, List.set_cons_succ]
  refine Rg.Upto.takeA (i := 10) (v := ?_) rfl (by kernel_rfl) (by kernel_rfl) (by kernel_rfl) (of_decide_eq_true (by kernel_rfl)) (fun _ _ _ h => h) (by rfl) (fun w5 hS5 => ?_) HSC ?_
  rotate_left
  · obtain ⟨h1, h2⟩ := hS5
    clear h1 h2
    go_simp
    try rfl
  try simp only [Act.put, List.setIfInBounds_toArray, List.set_cons_zero, List.set_cons_succ]
  refine Rg.Upto.takeA (i := 11) (v := ?_) rfl (by kernel_rfl) (by kernel_rfl) (by kernel_rfl) (of_decide_eq_true (by kernel_rfl)) (fun _ _ _ h => h) (by rfl) (fun w5 hS5 => ?_) HSC ?_
  rotate_left
  · obtain ⟨h1, h2⟩ := hS5
    clear h1 h2
    go_simp
    try rfl
  try simp only [Act.put, List.setIfInBounds_toArray, List.set_cons_zero, List.set_cons_succ]
  refine Rg.Upto.takeA (i := 12) (v := ?_) rfl (by kernel_rfl) (by kernel_rfl) (by kernel_rfl) (of_decide_eq_true (by kernel_rfl)) (fun _ _ _ h => h) (by rfl) (fun w5 hS5 => ?_) HSC ?_
  rotate_left
  · obtain ⟨h1, h2⟩ := hS5
    clear h1 h2
    go_simp
    try rfl
  try simp only [Act.put, List.setIfInBounds_toArray, List.set_cons_zero, List.set_cons_succ]
  refine Rg.Upto.takeA (i := 13) (v := ?_) rfl (by kernel_rfl) (by kernel_rfl) (by kernel_rfl) (of_decide_eq_true (by kernel_rfl)) (fun _ _ _ h => h) (by rfl) (fun w5 hS5 => ?_) HSC ?_
  rotate_left
  · obtain ⟨h1, h2⟩ := hS5
    clear h1 h2
    go_simp
    try rfl
  try simp only [Act.put, List.setIfInBounds_toArray, List.set_cons_zero, List.set_cons_succ]
  clear HSC
  refine Rg.Upto.done (by kernel_rfl) ?_
  go_upto_region 5 with (first
    | (go_at_call 43; go_loud ((with_reducible refine (HD.out.grant 0 rfl).mono ?_); rintro e w4 ⟨rfl, hG⟩; (have hfr := hG.fr); (have hT2 := HT.out.fr hfr (HT.out.free HD.out)); (have hX2 := HXF.out _ _ _ HX.out hfr (fun k e z => mc_td (HXD.out _ HX.out) HD.out k z e)); replace KS := Lib.hid (hfr.blk KS.out (duo_nt HD.out KS.out (by decide))); replace KD := Lib.hid (hfr.blk KD.out (duo_nt HD.out KD.out (by decide))); replace HF := Lib.hid (HF.out.then hfr (fun k hk ht => td_back HF.out hk ht (fun k z => .inr (.inr z)))); replace HB := Lib.hid (HB.out.trans hG.bel); clear HT HX; replace HD := Lib.hid hG.duo; (have HT := Lib.hid hT2); (have HX := Lib.hid hX2); clear hfr hT2 hX2 hG)))
  replace HD := Lib.hid (HD.out.drew)
  replace HX := Lib.hid (HXF.out _ _ _ HX.out ((Fr.refl (fun _ => False) _).drew) (fun _ e => e.elim))
  replace HT := Lib.hid (HT.out.below ((Below.refl _ _).drew))
  replace HB := Lib.hid HB.out.drew
  replace HF := Lib.hid HF.out.drew
  have KS1 : Hid (w4.drew.heap[sb]? = some (.cells arr 81 (0, 0))) := Lib.hid KS.out
  have KD1 : Hid (w4.drew.heap[db]? = some (.cells #[.int .i64 P, .int .i64 T, .int .i64 R, .int .i64 B0, .int .i64 T0, .int .i64 C0] 43 (0, 0))) := Lib.hid KD.out
  clear KS KD
  refine Rg.Upto.start (fun w' => w'.heap[sb]? = some (.cells arr 81 (0, 0)) ∧ w'.heap[db]? = some (.cells #[.int .i64 P, .int .i64 T, .int .i64 R, .int .i64 B0, .int .i64 T0, .int .i64 C0] 43 (0, 0))) 1000 (by kernel_rfl) ⟨KS1.out, KD1.out⟩ (fun HS0 => ?_)
  have HSC := HS0
  clear HS0
  (have KS := KS1)
  (have KD := KD1)
  clear KS1 KD1
  refine Rg.Upto.takeA (i := 0) (v := ?_) rfl (by kernel_rfl) (by kernel_rfl) (by kernel_rfl) (of_decide_eq_true (by kernel_rfl)) (fun _ _ _ h => h) (by rfl) (fun w5 hS5 => ?_) HSC ?_
  rotate_left
  · obtain ⟨h1, h2⟩ := hS5
    clear h1 h2
    go_simp
    try rfl
  try simp only [Act.put, List.setIfInBounds_toArray, List.set_cons_zero, List.set_cons_succ]
  refine Rg.Upto.takeA (i := 1) (v := ?_) rfl (by kernel_rfl) (by kernel_rfl) (by kernel_rfl) (of_decide_eq_true (by kernel_rfl)) (fun _ _ _ h => h) (by rfl) (fun w5 hS5 => ?_) HSC ?_
  rotate_left
  · obtain ⟨h1, h2⟩ := hS5
    clear h1 h2
    go_simp
    try rfl
  try simp only [Act.put, List.setIfInBounds_toArray, List.set_cons_zero, List.set_cons_succ]
  refine Rg.Upto.takeA (i := 2) (v := ?_) rfl (by kernel_rfl) (by kernel_rfl) (by kernel_rfl) (of_decide_eq_true (by kernel_rfl)) (fun _ _ _ h => h) (by rfl) (fun w5 hS5 => ?_) HSC ?_
  rotate_left
  · obtain ⟨h1, h2⟩ := hS5
    clear h1 h2
    go_simp
    try rfl
  try simp only [Act.put, List.setIfInBounds_toArray, List.set_cons_zero, List.set_cons_succ]
  refine Rg.Upto.takeA (i := 3) (v := ?_) rfl (by kernel_rfl) (by kernel_rfl) (by kernel_rfl) (of_decide_eq_true (by kernel_rfl)) (fun _ _ _ h => h) (by rfl) (fun w5 hS5 => ?_) HSC ?_
  rotate_left
  · obtain ⟨h1, h2⟩ := hS5
    clear h1 h2
    go_simp
    try rfl
  try simp only [Act.put, List.setIfInBounds_toArray, List.set_cons_zero, List.set_cons_succ]
  refine Rg.Upto.takeA (i := 4) (v := ?_) rfl (by kernel_rfl) (by kernel_rfl) (by kernel_rfl) (of_decide_eq_true (by kernel_rfl)) (fun _ _ _ h => h) (by rfl) (fun w5 hS5 => ?_) HSC ?_
  rotate_left
  · obtain ⟨h1, h2⟩ := hS5
    have b2 := (Hp.blk_cell h1 (o + 3) E2.out).1
    clear h1 h2
    go_simp
    try rfl
  try simp only [Act.put, List.setIfInBounds_toArray, List.set_cons_zero, List.set_cons_succ]
  refine Rg.Upto.takeA (i := 5) (v := ?_) rfl (by kernel_rfl) (by kernel_rfl) (by kernel_rfl) (of_decide_eq_true (by kernel_rfl)) (fun _ _ _ h => h) (by rfl) (fun w5 hS5 => ?_) HSC ?_
  rotate_left
  · obtain ⟨h1, h2⟩ := hS5
    clear h1 h2
    go_simp
    try rfl
  try simp only [Act.put, List.setIfInBounds_toArray, List.set_cons_zero, List.set_cons_succ]
  refine Rg.Upto.one (i := 6) rfl (by kernel_rfl) (by rfl) (fun KK hK => ?_)
  go_simp
  (with_reducible refine (HD.out.sys.who 0 rfl).mono ?_)
  rintro e w5 ⟨rfl, hw⟩
  obtain rfl := hw
  refine hK.out _ _ ⟨KS.out, KD.out⟩ ?_
  clear hK KK HSC
  try simp only [Act.put, List.setIfInBounds_toArray, List.set_cons_zero, List.set_cons_succ]
  have HSC : w4.drew.heap[sb]? = some (.cells arr 81 (0, 0)) ∧ w4.drew.heap[db]? = some (.cells #[.int .i64 P, .int .i64 T, .int .i64 R, .int .i64 B0, .int .i64 T0, .int .i64 C0] 43 (0, 0)) := ⟨KS.out, KD.out⟩
  refine Rg.Upto.one (i := 7) rfl (by kernel_rfl) (by rfl) (fun KK hK => ?_)
  go_simp
  (with_reducible refine (make 9 HD.out HT.out HK.out HL.out HHL.out).mono ?_)
  rintro e w6 ⟨rfl, A1, cp1, hD2, hT2, hown, hb, hfr⟩
  have hX2 := HXF.out _ _ _ HX.out hfr (fun k e z => e.elim (mc_tp (HXD.out _ HX.out) HT.out k z) (mc_td (HXD.out _ HX.out) HD.out k z))
  replace KS := Lib.hid (hfr.blk KS.out (fun z => z.elim (tp_not HT.out KS.out (by decide)) (duo_nt HD.out KS.out (by decide))))
  replace KD := Lib.hid (hfr.blk KD.out (fun z => z.elim (tp_not HT.out KD.out (by decide)) (duo_nt HD.out KD.out (by decide))))
  have HOW := Lib.hid (fun k (z : TpOwn gt A1 cp1 (H.length + 1) k) => (hown k z).imp id (fun y => Nat.le_trans HF.out.size y))
  replace HF := Lib.hid (HF.out.then hfr (fun k hk z => z.elim (fun y => .inr (.inl y)) (fun ht => td_back HF.out hk ht (fun k z => .inr (.inr z)))))
  replace HB := Lib.hid (HB.out.trans hb)
  clear HT HX HD
  (have HD := Lib.hid hD2)
  (have HT := Lib.hid hT2)
  (have HX := Lib.hid hX2)
  clear hown hb hfr hD2 hT2 hX2
  refine hK.out _ _ ⟨KS.out, KD.out⟩ ?_
  clear hK KK HSC
  try simp only [Act.put, List.setIfInBounds_toArray, List.set_cons_zero, List.set_cons_succ]

  refine Rg.Upto.done (by kernel_rfl) ?_
  obtain ⟨s1', an'⟩ := sa
  have HLN : Hid ((H ++ [an']).length = H.length + 1) := Lib.hid (by simp)
  rw [HAC.out] at HD HT
  obtain ⟨b2, -⟩ := Hp.blk_cell KS.out (o + 3) E2.out
  go_upto_region 7 with (first
    | (go_at_call 55; go_loud ((with_reducible refine (windrowref03_Tape_Again.calls gt (H ++ [an']) _ n2.who n2.kind n2.at_ n2.want n2.put n2.seen n2.left _ _ _ _ _ _ _ _ _ _ _ _ w0 _ (HT.out.to77 HG.out) HB.out rfl).mono ?_); rintro e w7 ⟨rfl, h7, hb, hkp⟩; (have hfr := keep_fr HB.out hb hkp); (have hT2 := HT.out.of77 h7 hfr); (have hD2 := HD.out.fr hfr (fun k _ e => by subst e; exact HT.out.free HD.out k (.inl rfl))); (have hX2 := HXF.out _ _ _ HX.out hfr (fun k e z => by subst e; exact mc_tp (HXD.out _ HX.out) HT.out k z (.inl rfl))); replace KS := Lib.hid (hfr.blk KS.out (fun e => blk_ne KS.out HT.out.blk (by decide) e)); replace KD := Lib.hid (hfr.blk KD.out (fun e => blk_ne KD.out HT.out.blk (by decide) e)); replace HF := Lib.hid (HF.out.then hfr (fun k _ e => .inr (.inl (.inl e)))); replace HB := Lib.hid hb; clear HT HD HX; (have HT := Lib.hid hT2); (have HD := Lib.hid hD2); (have HX := Lib.hid hX2); clear hD2 hX2; clear h7 hb hkp hfr hT2)))
  clear b2
  replace HD := Lib.hid (HD.out.drew)
  replace HX := Lib.hid (HXF.out _ _ _ HX.out ((Fr.refl (fun _ => False) _).drew) (fun _ e => e.elim))
  replace HT := Lib.hid (HT.out.below ((Below.refl _ _).drew))
  replace HB := Lib.hid HB.out.drew
  replace HF := Lib.hid HF.out.drew
  have KS1 : Hid (w7.drew.heap[sb]? = some (.cells arr 81 (0, 0))) := Lib.hid KS.out
  have KD1 : Hid (w7.drew.heap[db]? = some (.cells #[.int .i64 P, .int .i64 T, .int .i64 R, .int .i64 B0, .int .i64 T0, .int .i64 C0] 43 (0, 0))) := Lib.hid KD.out
  clear KS KD
  refine Rg.Upto.start (fun w' => w'.heap[sb]? = some (.cells arr 81 (0, 0)) ∧ w'.heap[db]? = some (.cells #[.int .i64 P, .int .i64 T, .int .i64 R, .int .i64 B0, .int .i64 T0, .int .i64 C0] 43 (0, 0))) 1000 (by kernel_rfl) ⟨KS1.out, KD1.out⟩ (fun HS0 => ?_)
  have HSC := HS0
  clear HS0
  (have KS := KS1)
  (have KD := KD1)
  clear KS1 KD1
  refine Rg.Upto.takeA (i := 0) (v := ?_) rfl (by kernel_rfl) (by kernel_rfl) (by kernel_rfl) (of_decide_eq_true (by kernel_rfl)) (fun _ _ _ h => h) (by rfl) (fun w5 hS5 => ?_) HSC ?_
  rotate_left
  · obtain ⟨h1, h2⟩ := hS5
    clear h1 h2
    go_simp
    try rfl
  try simp only [Act.put, List.setIfInBounds_toArray, List.set_cons_zero, List.set_cons_succ]
  refine Rg.Upto.takeA (i := 1) (v := ?_) rfl (by kernel_rfl) (by kernel_rfl) (by kernel_rfl) (of_decide_eq_true (by kernel_rfl)) (fun _ _ _ h => h) (by rfl) (fun w5 hS5 => ?_) HSC ?_
  rotate_left
  · obtain ⟨h1, h2⟩ := hS5
    clear h1 h2
    go_simp
    try rfl
  try simp only [Act.put, List.setIfInBounds_toArray, List.set_cons_zero, List.set_cons_succ]
  refine Rg.Upto.takeA (i := 2) (v := ?_) rfl (by kernel_rfl) (by kernel_rfl) (by kernel_rfl) (of_decide_eq_true (by kernel_rfl)) (fun _ _ _ h => h) (by rfl) (fun w5 hS5 => ?_) HSC ?_
  rotate_left
  · obtain ⟨h1, h2⟩ := hS5
    clear h1 h2
    go_simp
    try rfl
  try simp only [Act.put, List.setIfInBounds_toArray, List.set_cons_zero, List.set_cons_succ]
  refine Rg.Upto.takeA (i := 3) (v := ?_) rfl (by kernel_rfl) (by kernel_rfl) (by kernel_rfl) (of_decide_eq_true (by kernel_rfl)) (fun _ _ _ h => h) (by rfl) (fun w5 hS5 => ?_) HSC ?_
  rotate_left
  · obtain ⟨h1, h2⟩ := hS5
    have b2 := (Hp.blk_cell h1 (o + 3) E2.out).1
    clear h1 h2
    go_simp
    try rfl
  try simp only [Act.put, List.setIfInBounds_toArray, List.set_cons_zero, List.set_cons_succ]
  refine Rg.Upto.takeA (i := 4) (v := ?_) rfl (by kernel_rfl) (by kernel_rfl) (by kernel_rfl) (of_decide_eq_true (by kernel_rfl)) (fun _ _ _ h => h) (by rfl) (fun w5 hS5 => ?_) HSC ?_
  rotate_left
  · obtain ⟨h1, h2⟩ := hS5
    have d0 := (Hp.blk_cell h2 0 rfl).1
    have d1 := (Hp.blk_cell h2 1 rfl).1
    have d2 := (Hp.blk_cell h2 2 rfl).1
    have d3 := (Hp.blk_cell h2 3 rfl).1
    have d4 := (Hp.blk_cell h2 4 rfl).1
    have d5 := (Hp.blk_cell h2 5 rfl).1
    clear h1 h2
    go_simp
    try rfl
  try simp only [Act.put, List.setIfInBounds_toArray, List.set_cons_zero, List.set_cons_succ]
  refine Rg.Upto.takeA (i := 5) (v := ?_) rfl (by kernel_rfl) (by kernel_rfl) (by kernel_rfl) (of_decide_eq_true (by kernel_rfl)) (fun _ _ _ h => h) (by rfl) (fun w5 hS5 => ?_) HSC ?_
  rotate_left
  · obtain ⟨h1, h2⟩ := hS5
    clear h1 h2
    go_simp
    try rfl
  try simp only [Act.put, List.setIfInBounds_toArray, List.set_cons_zero, List.set_cons_succ]
  refine Rg.Upto.one (i := 6) rfl (by kernel_rfl) (by rfl) (fun KK hK => ?_)
  go_simp
  (with_reducible refine (windrowref07_Pop.calls (hI := HT.out.to77 HG.out) (hB := HB.out) (h := HS2.out)).mono ?_)
  rintro e w8 ⟨rfl, h7, hb, hkp⟩
  (have hfr := keep_fr HB.out hb hkp)
  (have hT2 := HT.out.of77 h7 hfr)
  (have hD2 := HD.out.fr hfr (fun k _ e => by subst e; exact HT.out.free HD.out k (.inl rfl)))
  (have hX2 := HXF.out _ _ _ HX.out hfr (fun k e z => by subst e; exact mc_tp (HXD.out _ HX.out) HT.out k z (.inl rfl)))
  replace KS := Lib.hid (hfr.blk KS.out (fun e => blk_ne KS.out HT.out.blk (by decide) e))
  replace KD := Lib.hid (hfr.blk KD.out (fun e => blk_ne KD.out HT.out.blk (by decide) e))
  replace HF := Lib.hid (HF.out.then hfr (fun k _ e => .inr (.inl (.inl e))))
  replace HB := Lib.hid hb
  clear HT HD HX
  (have HT := Lib.hid hT2)
  (have HD := Lib.hid hD2)
  (have HX := Lib.hid hX2)
  clear hD2 hX2
  clear h7 hb hkp hfr hT2
  refine hK.out _ _ ⟨KS.out, KD.out⟩ ?_
  clear hK KK HSC
  try simp only [Act.put, List.setIfInBounds_toArray, List.set_cons_zero, List.set_cons_succ]
  have HSC : w8.heap[sb]? = some (.cells arr 81 (0, 0)) ∧ w8.heap[db]? = some (.cells #[.int .i64 P, .int .i64 T, .int .i64 R, .int .i64 B0, .int .i64 T0, .int .i64 C0] 43 (0, 0)) := ⟨KS.out, KD.out⟩
  refine Rg.Upto.takeA (i := 7) (v := ?_) rfl (by kernel_rfl) (by kernel_rfl) (by kernel_rfl) (of_decide_eq_true (by kernel_rfl)) (fun _ _ _ h => h) (by rfl) (fun w5 hS5 => ?_) HSC ?_
  rotate_left
  · obtain ⟨h1, h2⟩ := hS5
    clear h1 h2
    go_simp
    try rfl
  try simp only [Act.put, List.setIfInBounds_toArray, List.set_cons_zero, List.set_cons_succ]
  refine Rg.Upto.takeA (i := 8) (v := ?_) rfl (by kernel_rfl) (by kernel_rfl) (by kernel_rfl) (of_decide_eq_true (by kernel_rfl)) (fun _ _ _ h => h) (by rfl) (fun w5 hS5 => ?_) HSC ?_
  rotate_left
  · obtain ⟨h1, h2⟩ := hS5
    clear h1 h2
    go_simp
    try rfl
  try simp only [Act.put, List.setIfInBounds_toArray, List.set_cons_zero, List.set_cons_succ]
  refine Rg.Upto.takeA (i := 9) (v := ?_) rfl (by kernel_rfl) (by kernel_rfl) (by kernel_rfl) (of_decide_eq_true (by kernel_rfl)) (fun _ _ _ h => h) (by rfl) (fun w5 hS5 => ?_) HSC ?_
  rotate_left
  · obtain ⟨h1, h2⟩ := hS5
    clear h1 h2
    go_simp
    try rfl
  try simp only [Act.put, List.setIfInBounds_toArray, List.set_cons_zero, List.set_cons_succ]
  refine Rg.Upto.takeA (i := 10) (v := ?_) rfl (by kernel_rfl) (by kernel_rfl) (by kernel_rfl) (of_decide_eq_true (by kernel_rfl)) (fun _ _ _ h => h) (by rfl) (fun w5 hS5 => ?_) HSC ?_
  rotate_left
  · obtain ⟨h1, h2⟩ := hS5
    clear h1 h2
    go_simp
    try rfl
  try simp only [Act.put, List.setIfInBounds_toArray, List.set_cons_zero, List.set_cons_succ]
  refine Rg.Upto.takeA (i := 11) (v := ?_) rfl (by kernel_rfl) (by kernel_rfl) (by kernel_rfl) (of_decide_eq_true (by kernel_rfl)) (fun _ _ _ h => h) (by rfl) (fun w5 hS5 => ?_) HSC ?_
  rotate_left
  · obtain ⟨h1, h2⟩ := hS5
    clear h1 h2
    go_simp
    try rfl
  try simp only [Act.put, List.setIfInBounds_toArray, List.set_cons_zero, List.set_cons_succ]
  refine Rg.Upto.takeA (i := 12) (v := ?_) rfl (by kernel_rfl) (by kernel_rfl) (by kernel_rfl) (of_decide_eq_true (by kernel_rfl)) (fun _ _ _ h => h) (by rfl) (fun w5 hS5 => ?_) HSC ?_
  rotate_left
  · obtain ⟨h1, h2⟩ := hS5
    clear h1 h2
    go_simp
    try rfl
  try simp only [Act.put, List.setIfInBounds_toArray, List.set_cons_zero, List.set_cons_succ]
  refine Rg.Upto.takeA (i := 13) (v := ?_) rfl (by kernel_rfl) (by kernel_rfl) (by kernel_rfl) (of_decide_eq_true (by kernel_rfl)) (fun _ _ _ h => h) (by rfl) (fun w5 hS5 => ?_) HSC ?_
  rotate_left
  · obtain ⟨h1, h2⟩ := hS5
    clear h1 h2
    go_simp
    try rfl
  try simp only [Act.put, List.setIfInBounds_toArray, List.set_cons_zero, List.set_cons_succ]
  clear HSC
  refine Rg.Upto.done (by kernel_rfl) ?_
  cases ov <;> cases em
  all_goals
    go_upto_region 8 with (fail)
    try simp only [List.append_eq, List.append, List.cons_append, List.nil_append]
    (obtain ⟨b0, -⟩ := Hp.blk_cell KS.out (o + 1) E0.out)
    go_wp2_with (first
      | (go_at_call 26; go_loud ((have hm := HSP.out _ HD.out HX.out); (with_reducible refine hm.mono ?_); clear hm; rintro e w9 ⟨rfl, hX2, hD2, hb, hfr⟩; (have hT2 := HT.out.fr hfr (fun k hk z => z.elim (fun y => mc_tp (HXD.out _ HX.out) HT.out k y hk) (HT.out.free HD.out k hk))); (have KS9 := Lib.hid (hfr.blk KS.out (fun z => z.elim (mc_not (HXD.out _ HX.out) KS.out (by decide)) (duo_nt HD.out KS.out (by decide))))); replace HF := Lib.hid (HF.out.then hfr (fun k hk z => z.elim .inl (fun z => td_back HF.out hk z (fun k z => .inr (.inr z))))); replace HB := Lib.hid (HB.out.trans hb); clear HT HX HD KS b0; (have KS := KS9); (have HD := Lib.hid hD2); (have HT := Lib.hid hT2); (have HX := Lib.hid hX2); clear hb hfr hD2 hT2 hX2 KS9; (obtain ⟨b0, -⟩ := Hp.blk_cell KS.out (o + 1) E0.out)))
      | (go_at_call 27; go_loud ((have hm := (HAS.out _ HX.out).1); (with_reducible refine hm.mono ?_); clear hm; rintro e w9 ⟨rfl, hw⟩; obtain rfl := hw.symm))
      | (go_at_call 28; go_loud ((have hm := (HAS.out _ HX.out).2.1); (with_reducible refine hm.mono ?_); clear hm; rintro e w9 ⟨rfl, hw⟩; obtain rfl := hw.symm))
      | (go_at_call 29; go_loud ((have hm := (HAS.out _ HX.out).2.2); (with_reducible refine hm.mono ?_); clear hm; rintro e w9 ⟨rfl, hw⟩; obtain rfl := hw.symm)))
    go_ret
    exact ⟨rfl, HD.out, HX.out, HB.out, HF.out, A1, cp1, HT.out, fun k z => HOW.out k (HLN.out ▸ z)⟩
end Go.Proofs.Ytdcikbhfoplkmaa.Dd
