/- New, walked. -/
import Derived.Test.YteankgbcmfkfnaaFd
import Derived.Test.YteankgbcmfkfnaaRz
namespace Go.Proofs.Yteankgbcmfkfnaa.Cl
open Go Go.RowKit Go.Proofs.Yteankgbcmfkfnaa.Hp Go.Proofs.Yteankgbcmfkfnaa.PH Go.Maps Go.WideMaps
open Go.Proofs.YteankgbcmfkfnaaW.PrintWords (bt Kd)
open Go.Proofs.YteankgbcmfkfnaaW.PrintWords.Kd (C_below R_mono R_move R_bound R_below R_lower R_appended R_nil)
set_option linter.unusedVariables false
set_option linter.unusedSimpArgs false

/-- What New tells: which class, the error. -/
def cE : Nat → List (List UInt8) → List S34 → Int × Int
  | _, _, [] => (0, 0)
  | i, pre, x :: r => if nm x.f0 = true then (if nk x.f0 ∈ pre then ((i : Int), 41) else if fieldsE x.f1 = 0 then cE (i + 1) (pre ++ [nk x.f0]) r else ((i : Int), fieldsE x.f1)) else ((i : Int), 20)
def newE (l : List S34) : Int × Int := if 16 < l.length then (0, 3) else cE 0 [] l
/-- A table in memory. -/
structure TB (B : Nat) (w : World) (t : Nat) (L : List S34) (M : List Int) (vl vm : Value) : Prop where
  blk : w.heap[t]? = some (.cells #[vl, vm] 64 (0, 0))
  ll : k34.R 34 w B (fun _ => True) vl L
  mm : w.ownsRow B 39 1 vm M.length (M.map (Value.int .u64))
  bt : B ≤ t
theorem R_fr {α : Type} {d : Kd α} {e B : Nat} {S : Nat → Prop} {w w' : World} {v : Value} {xs : List α} (h : d.R e w B (fun _ => True) v xs) (hF : Fr S w w') (hS : ∀ k q cells, w.heap[k]? = some (.cells cells q (0, 0)) → q ∈ e :: d.E → ¬ S k) : d.R e w' B (fun _ => True) v xs :=
  R_mono (R_move (R_bound h) (fun k hk => hF.block k hk.2.2.1 (by
    obtain ⟨_, _, _, q, hq, cells, hc⟩ := hk
    exact hS k q cells hc hq))) (fun _ _ => trivial)
theorem own_fr2 {S : Nat → Prop} {B e size n : Nat} {w w' : World} {v : Value} {xs : List Value} (h : w.ownsRow B e size v n xs) (hf : Fr S w w') (hs : ∀ k, v.ownBlock = some k → ¬ S k) : w'.ownsRow B e size v n xs := by
  refine ⟨h.1, ?_⟩
  rcases h.2 with h2 | ⟨g, cap, cur, rfl, h3, h4, h5⟩
  · exact .inl h2
  · exact .inr ⟨g, cap, cur, rfl, h3, hf.blk h4 (hs g rfl), h5⟩
theorem row_blk {B e size n : Nat} {w : World} {v : Value} {xs : List Value} (h : w.ownsRow B e size v n xs) (k : Nat) (hk : v.ownBlock = some k) : (∃ cs, w.heap[k]? = some (.cells cs e (0, 0))) ∧ B ≤ k := by
  rcases h.2 with ⟨rfl, _⟩ | ⟨g, cap, cur, rfl, h3, h4, _⟩
  · simp [Value.ownBlock] at hk
  · simp only [Value.ownBlock, Option.some.injEq] at hk
    subst hk
    exact ⟨⟨cur, h4⟩, h3⟩
theorem fr_of {w w' : World} (hb : Below w.heap.size w w') : Fr (fun _ => False) w w' := ⟨hb.os, hb.tape, hb.output, hb.size, fun k hk _ => hb.block k hk⟩
theorem TB.fr {S : Nat → Prop} {B : Nat} {w w' : World} {t : Nat} {L : List S34} {M : List Int} {vl vm : Value} (h : TB B w t L M vl vm) (hF : Fr S w w') (hS : ∀ k q cells, w.heap[k]? = some (.cells cells q (0, 0)) → q = 34 ∨ q = 41 ∨ q = 39 ∨ q = 64 → ¬ S k) : TB B w' t L M vl vm :=
  ⟨hF.blk h.blk (hS _ _ _ h.blk (.inr (.inr (.inr rfl)))), R_fr h.ll hF (fun k q cells hc hq => hS k q cells hc (by
      have : q ∈ [34, 41] := hq
      simp at this
      rcases this with h | h
      · exact .inl h
      · exact .inr (.inl h))), own_fr2 h.mm hF (fun k hk => by
      obtain ⟨⟨cs, h1⟩, _⟩ := row_blk h.mm k hk
      exact hS k _ cs h1 (.inr (.inr (.inl rfl)))), h.bt⟩
theorem TB.below {B : Nat} {w w' : World} {t : Nat} {L : List S34} {M : List Int} {vl vm : Value} (h : TB B w t L M vl vm) (hb : Below w.heap.size w w') : TB B w' t L M vl vm := h.fr (fr_of hb) (fun _ _ _ _ _ => id)
theorem copied_eq (s : ByteArray) (l : List S41) (h : l.length ≤ 15) : classes_copied.f s l = some (s, l) := by
  unfold classes_copied.f
  simp only [Option.bind_some, List.length_nil, List.nil_append]
  rw [if_pos (by omega)]
theorem drop_cons34 (l : List S34) (k : Nat) (h : k < l.length) : l.drop k = rd_T34 l k :: l.drop (k + 1) := by
  rw [List.drop_eq_getElem_cons h]
  congr 1
  unfold rd_T34
  rw [Int.toNat_natCast, List.getD_eq_getElem?_getD, List.getElem?_eq_getElem h]
  rfl
theorem take_succ34 (l : List S34) (k : Nat) (h : k < l.length) : l.take (k + 1) = l.take k ++ [rd_T34 l k] := by
  rw [List.take_add_one, List.getElem?_eq_getElem h]
  congr 1
  unfold rd_T34
  rw [Int.toNat_natCast, List.getD_eq_getElem?_getD, List.getElem?_eq_getElem h]
  rfl
theorem fieldsE_len {l : List S41} (h : fieldsE l = 0) : l.length ≤ 15 := by
  unfold fieldsE at h
  by_cases h1 : 15 < l.length
  · rw [if_pos h1] at h; cases h
  · omega

theorem NM.of {w w' : World} {b : Nat} {ns : List (List UInt8)} (h : NM w b ns) (e : w'.heap[b]? = w.heap[b]?) : NM w' b ns := by
  obtain ⟨D, ⟨es, clock, h1, h2⟩, h3⟩ := h
  exact ⟨D, ⟨es, clock, e.trans h1, h2⟩, h3⟩
theorem NM.map {w : World} {b : Nat} {ns : List (List UInt8)} (h : NM w b ns) : ∃ es clock, w.heap[b]? = some (.map es clock) := by
  obtain ⟨D, ⟨es, clock, h1, h2⟩, h3⟩ := h
  exact ⟨es, clock, h1⟩
/-- The table while a class is put behind it: v0, v1 stand in its block; vl, vm own the lists. -/
structure Mid (B : Nat) (w0 w : World) (tb mb : Nat) (v0 v1 vl vm : Value) (L : List S34) (M : List Int) (ns : List (List UInt8)) : Prop where
  blk : w.heap[tb]? = some (.cells #[v0, v1] 64 (0, 0))
  ll : k34.R 34 w B (fun _ => True) vl L
  mm : w.ownsRow B 39 1 vm M.length (M.map (Value.int .u64))
  nm : NM w mb ns
  hb : Below B w0 w
  bt : B ≤ tb
  bm : B ≤ mb
  bw : B ≤ w.heap.size
theorem Mid.fr {S : Nat → Prop} {B : Nat} {w0 w w' : World} {tb mb : Nat} {v0 v1 vl vm : Value} {L : List S34} {M : List Int} {ns : List (List UInt8)} (h : Mid B w0 w tb mb v0 v1 vl vm L M ns) (hF : Fr S w w')
    (hS : ∀ k q cells, w.heap[k]? = some (.cells cells q (0, 0)) → q = 34 ∨ q = 41 ∨ q = 39 ∨ q = 64 → ¬ S k) (hm : ¬ S mb) (hB : ∀ k, S k → B ≤ k) : Mid B w0 w' tb mb v0 v1 vl vm L M ns :=
  ⟨hF.blk h.blk (hS _ _ _ h.blk (.inr (.inr (.inr rfl)))), R_fr h.ll hF (fun k q cells hc hq => hS k q cells hc (by
      have : q ∈ [34, 41] := hq
      simp at this
      rcases this with h | h
      · exact .inl h
      · exact .inr (.inl h))), own_fr2 h.mm hF (fun k hk => by
      obtain ⟨⟨cs, h1⟩, _⟩ := row_blk h.mm k hk
      exact hS k _ cs h1 (.inr (.inr (.inl rfl)))), h.nm.of (hF.block _ h.nm.lt hm), Fr.toBelow h.hb h.bw hF hB, h.bt, h.bm, Nat.le_trans h.bw hF.size⟩
theorem Mid.below {B : Nat} {w0 w w' : World} {tb mb : Nat} {v0 v1 vl vm : Value} {L : List S34} {M : List Int} {ns : List (List UInt8)} (h : Mid B w0 w tb mb v0 v1 vl vm L M ns) (hb : Below w.heap.size w w') : Mid B w0 w' tb mb v0 v1 vl vm L M ns :=
  h.fr (fr_of hb) (fun _ _ _ _ _ => id) id (fun _ => False.elim)
theorem Mid.app9 {B : Nat} {w0 w w' : World} {tb mb : Nat} {v0 v1 vl vm : Value} {L : List S34} {M : List Int} {ns : List (List UInt8)} (h : Mid B w0 w tb mb v0 v1 vl vm L M ns) {f0 : ByteArray} {fs : List S41} {fv : Value} {inner : List Value} {g cap H : Nat}
    (hfv : k41.R 41 w B (fun _ => True) fv fs) (hr : Go.Proofs.YteankgbcmfkfnaaW.PrintWords.Reps (k34.M w B (fun k => True ∧ some k ≠ vl.ownBlock)) 2 L inner)
    (hvl : ∀ k, vl.ownBlock = some k → ∃ cs, w.heap[k]? = some (.cells cs 34 (0, 0)) ∧ B ≤ k)
    (own : w'.ownsRow B 34 2 (.slice (some ⟨g, 0, none⟩) (L.length + 1) cap) (L.length + 1) (inner ++ [.string f0, fv])) (hg : w.grownBy w' vl.ownBlock) (hat : vl.ownBlock = some g ∨ g = H) (hH : w.heap.size = H) :
    Mid B w0 w' tb mb v0 v1 (.slice (some ⟨g, 0, none⟩) (L.length + 1) cap) vm (L ++ [⟨f0, fs⟩]) M ns := by
  have hF : Fr (fun k => vl.ownBlock = some k) w w' := (Fr.refl _ w).grown hg (fun k hk => .inl hk)
  have hM : k34.M w B (fun k => some k ≠ vl.ownBlock) ⟨f0, fs⟩ [.string f0, fv] :=
    ⟨[.string f0], [fv], rfl, rfl, fv, rfl, R_mono (R_bound hfv) (fun k hk => by
      obtain ⟨_, _, _, q, hq, cells, hc⟩ := hk
      intro e
      obtain ⟨cs, hc2, _⟩ := hvl k e.symm
      rw [hc] at hc2
      injection hc2 with hc2
      injection hc2 with _ hc2
      have : q ∈ [41] := hq
      simp at this
      rw [this] at hc2
      cases hc2)⟩
  have hll := R_appended (d := k34) (e := 34) (base := B) (ok := fun _ => True) (v1 := .slice (some ⟨g, 0, none⟩) (L.length + 1) cap) (fun _ _ => trivial) hr hM (fun k hk => ⟨trivial, hk⟩) (fun _ _ => trivial) own hg (by
    rcases hat with h | h
    · exact .inl h.symm
    · exact .inr ⟨g, rfl, by omega⟩)
  refine ⟨hF.blk h.blk (fun e => ?_), hll, own_fr2 h.mm hF (fun k hk e => ?_), h.nm.of (hF.block _ h.nm.lt (fun e => ?_)), Fr.toBelow h.hb h.bw hF (fun k hk => (hvl k hk).choose_spec.2), h.bt, h.bm, Nat.le_trans h.bw hF.size⟩
  · obtain ⟨cs, hc2, _⟩ := hvl _ e
    rw [h.blk] at hc2
    injection hc2 with hc2
    injection hc2 with _ hc2
    cases hc2
  · obtain ⟨cs, hc2, _⟩ := hvl _ e
    obtain ⟨⟨cs3, hc3⟩, _⟩ := row_blk h.mm k hk
    rw [hc3] at hc2
    injection hc2 with hc2
    injection hc2 with _ hc2
    cases hc2
  · obtain ⟨cs, hc2, _⟩ := hvl _ e
    obtain ⟨es, clock, hc3⟩ := h.nm.map
    rw [hc3] at hc2
    injection hc2 with hc2
    cases hc2
theorem Mid.app16 {B : Nat} {w0 w w' : World} {tb mb : Nat} {v0 v1 vl vm : Value} {L : List S34} {M : List Int} {ns : List (List UInt8)} (h : Mid B w0 w tb mb v0 v1 vl vm L M ns) {m : Int} {g cap : Nat}
    (own : w'.ownsRow B 39 1 (.slice (some ⟨g, 0, none⟩) (M.length + 1) cap) (M.length + 1) (M.map (Value.int .u64) ++ [.int .u64 m])) (hg : w.grownBy w' vm.ownBlock) :
    Mid B w0 w' tb mb v0 v1 vl (.slice (some ⟨g, 0, none⟩) (M.length + 1) cap) L (M ++ [m]) ns := by
  have hF : Fr (fun k => vm.ownBlock = some k) w w' := (Fr.refl _ w).grown hg (fun k hk => .inl hk)
  refine ⟨hF.blk h.blk (fun e => ?_), R_fr h.ll hF (fun k q cells hc hq e => ?_), by simpa using own, h.nm.of (hF.block _ h.nm.lt (fun e => ?_)), Fr.toBelow h.hb h.bw hF (fun k hk => (row_blk h.mm k hk).2), h.bt, h.bm, Nat.le_trans h.bw hF.size⟩
  · obtain ⟨⟨cs3, hc3⟩, _⟩ := row_blk h.mm _ e
    rw [h.blk] at hc3
    injection hc3 with hc3
    injection hc3 with _ hc3
    cases hc3
  · obtain ⟨⟨cs3, hc3⟩, _⟩ := row_blk h.mm _ e
    rw [hc] at hc3
    injection hc3 with hc3
    injection hc3 with _ hc3
    have : q ∈ [34, 41] := hq
    simp at this
    rcases this with h | h <;> (rw [h] at hc3; cases hc3)
  · obtain ⟨⟨cs3, hc3⟩, _⟩ := row_blk h.mm _ e
    obtain ⟨es, clock, hc4⟩ := h.nm.map
    rw [hc4] at hc3
    injection hc3 with hc3
    cases hc3
theorem Mid.set {B : Nat} {w0 w : World} {tb mb : Nat} {v0 v1 vl vm : Value} {L : List S34} {M : List Int} {ns : List (List UInt8)} (h : Mid B w0 w tb mb v0 v1 vl vm L M ns) (j : Nat) (u y0 y1 : Value) (e : (#[v0, v1] : Array Value).setIfInBounds j u = #[y0, y1]) : Mid B w0 (w.setCell ⟨tb, j, none⟩ u) tb mb y0 y1 vl vm L M ns := by
  have hF : Fr (fun k => k = tb) w (w.setCell ⟨tb, j, none⟩ u) := (Fr.refl _ w).setCell _ _ (.inl rfl)
  refine ⟨by have := Hp.blk_set h.blk j u; rw [e] at this; exact this, R_fr h.ll hF (fun k q cells hc hq e => ?_), own_fr2 h.mm hF (fun k hk e => ?_), h.nm.of (hF.block _ h.nm.lt (fun e => ?_)), Fr.toBelow h.hb h.bw hF (fun k hk => by rw [hk]; exact h.bt), h.bt, h.bm, Nat.le_trans h.bw hF.size⟩
  · subst e
    have h1 := h.blk
    rw [hc] at h1
    injection h1 with h1
    injection h1 with _ h1
    have : q ∈ [34, 41] := hq
    simp at this
    rcases this with h2 | h2 <;> (rw [h2] at h1; cases h1)
  · subst e
    obtain ⟨⟨cs3, hc3⟩, _⟩ := row_blk h.mm _ hk
    rw [h.blk] at hc3
    injection hc3 with hc3
    injection hc3 with _ hc3
    cases hc3
  · subst e
    obtain ⟨es, clock, hc4⟩ := h.nm.map
    rw [h.blk] at hc4
    injection hc4 with hc4
    cases hc4
theorem Mid.put {B : Nat} {w0 w w' : World} {tb mb : Nat} {v0 v1 vl vm : Value} {L : List S34} {M : List Int} {ns ns' : List (List UInt8)} (h : Mid B w0 w tb mb v0 v1 vl vm L M ns) (hg : w.grownBy w' (some mb)) (hn : NM w' mb ns') : Mid B w0 w' tb mb v0 v1 vl vm L M ns' := by
  have hF : Fr (fun k => k = mb) w w' := (Fr.refl _ w).grown hg (fun k hk => .inl (by injection hk with hk; exact hk.symm))
  obtain ⟨es, clock, hm⟩ := h.nm.map
  have hx : ∀ k q cells, w.heap[k]? = some (.cells cells q (0, 0)) → ¬ k = mb := fun k q cells hc e => by
    subst e
    rw [hm] at hc
    injection hc with hc
    cases hc
  exact ⟨hF.blk h.blk (hx _ _ _ h.blk), R_fr h.ll hF (fun k q cells hc _ => hx k q cells hc), own_fr2 h.mm hF (fun k hk => by
    obtain ⟨⟨cs, h1⟩, _⟩ := row_blk h.mm k hk
    exact hx k _ cs h1), hn, Fr.toBelow h.hb h.bw hF (fun k hk => by rw [hk]; exact h.bm), h.bt, h.bm, Nat.le_trans h.bw hF.size⟩
theorem infoC : (Try.prog.info? 34).map (fun i => (i.zero, i.size, i.bytes)) = some (some (.agg #[.string ByteArray.empty, .slice none 0 0]), 2, 40) := by kernel_rfl
theorem infoU : (Try.prog.info? 39).map (fun i => (i.zero, i.size, i.bytes)) = some (some (.int .u64 0), 1, 8) := by kernel_rfl
set_option maxHeartbeats 8000000 in
set_option maxRecDepth 100000 in
theorem new_call (A : Option Addr) (cp : Nat) (l : List S34) (w : World) (hr : Kd.C k34 w A l.length l) (hc : l.length ≤ cp) :
    Calls Try.prog 11 #[.slice A l.length cp] w fun e w' => Below w.heap.size w w' ∧
      (((newE l).2 ≠ 0 ∧ e = .returned (.tuple #[.pointer none, .int .i64 (newE l).1, .int .i64 (newE l).2])) ∨
       ((newE l).2 = 0 ∧ ∃ t vl vm, e = .returned (.tuple #[.pointer (some ⟨t, 0, none⟩), .int .i64 0, .int .i64 0]) ∧ TB w.heap.size w' t l (l.map fun x => fieldsM x.f1) vl vm)) := by
  have HR := Lib.hid hr
  have hmm := @run_makeMap Try.prog
  clear hr
  by_cases h16 : 16 < l.length
  · have e1 : newE l = (0, 3) := by unfold newE; rw [if_pos h16]
    rw [e1]
    clear e1
    go_enter Try.func11, Try.ntmps11
    go_wp2_with (fail)
    go_ret3
    exact ⟨Below.refl _ _, .inl ⟨by decide, rfl⟩⟩
  · have HE : Hid (newE l = cE 0 [] l) := Lib.hid (by unfold newE; rw [if_neg h16])
    obtain ⟨ne, hne⟩ : ∃ ne, ne = newE l := ⟨_, rfl⟩
    rw [← hne] at HE ⊢
    clear hne
    have hl16 : l.length ≤ 16 := by omega
    go_enter Try.func11, Try.ntmps11
    go_wp2_with (fail)
    obtain ⟨tb, htb⟩ : ∃ tb, tb = w.heap.size := ⟨_, rfl⟩
    obtain ⟨mb, hmb⟩ : ∃ mb, mb = w.heap.size + 1 := ⟨_, rfl⟩
    have HMI : Hid (Mid w.heap.size w ((w.alloc (.cells #[.slice none 0 0, .slice none 0 0] 64)).alloc (.map #[] 0)) tb mb (.slice none 0 0) (.slice none 0 0) (.slice none 0 0) (.slice none 0 0) [] [] []) := Lib.hid (by
      refine ⟨Hp.blk_alloc (by rw [htb]; exact Hp.blk_new w _) _, R_nil _ _ _ _ _, World.ownsRow_nil _ _ _ _, ?_, ((Below.refl _ w).alloc (Nat.le_refl _) _).alloc (by simp) _, by omega, by omega, by simp; omega⟩
      have := NM.made (w.alloc (.cells #[.slice none 0 0, .slice none 0 0] 64))
      rw [hmb]; simpa using this)
    generalize ((w.alloc (.cells #[.slice none 0 0, .slice none 0 0] 64)).alloc (.map #[] 0)) = wi at HMI ⊢
    simp only [← hmb]
    rw [← htb]
    have HTB := Lib.hid htb
    clear hmb htb
    go_loopw [19] (fun v19 wr => ∃ (k : Nat) (vl vm : Value), k ≤ l.length ∧ v19 = .int .i64 k ∧ Hid (Mid w.heap.size w wr tb mb vl vm vl vm (l.take k) ((l.take k).map fun x => fieldsM x.f1) ((l.take k).map fun x => nk x.f0)) ∧ Hid (ne = cE k ((l.take k).map fun x => nk x.f0) (l.drop k))) (fun v19 _ => l.length - (intOf v19).toNat)
    case atStart => exact ⟨0, _, _, Nat.zero_le _, rfl, HMI, HE⟩
    case round =>
      obtain ⟨k, vl, vm, hk, rfl, HMr, HE2⟩ := hrel
      clear HMI HE
      by_cases hkl : k < l.length
      · obtain ⟨ad, A1, c1, hA, r0, r1, hc1, hg1⟩ := at_T34 HR.out (k : Int) (by omega) (by omega)
        subst hA
        rw [Int.toNat_natCast] at r0 r1
        replace r0 := (HMr.out.hb.cell (World.block_lt_of_cell? w _ r0)).trans r0
        replace r1 := (HMr.out.hb.cell (World.block_lt_of_cell? w _ r1)).trans r1
        obtain ⟨x, hx⟩ : ∃ x, x = rd_T34 l (k : Int) := ⟨_, rfl⟩
        have hd := drop_cons34 l k hkl
        have ht := take_succ34 l k hkl
        rw [← hx] at r0 r1 hd ht hc1 hg1
        have HD := Lib.hid hd
        have HT := Lib.hid ht
        clear hx hd ht
        obtain ⟨f0, fs⟩ := x
        simp only at r0 r1 hc1 hg1
        have HG1 := Lib.hid hg1
        have HC1 := Lib.hid hc1
        clear hg1 hc1
        have hb0 : Below wr.heap.size wr (wr.alloc (.cells #[.string f0, .slice A1 fs.length c1] 34)) := (Below.refl _ wr).alloc (Nat.le_refl _) _
        have HMA := Lib.hid (HMr.out.below hb0)
        have HOA := Lib.hid (Hp.blk_new wr (.cells #[.string f0, .slice A1 fs.length c1] 34))
        have hh : ne = (if nm f0 = true then (if nk f0 ∈ ((l.take k).map fun x => nk x.f0) then ((k : Int), 41) else if fieldsE fs = 0 then cE (k + 1) (((l.take k).map fun x => nk x.f0) ++ [nk f0]) (l.drop (k + 1)) else ((k : Int), fieldsE fs)) else ((k : Int), 20)) := by
          rw [HE2.out, HD.out]; rfl
        have HH := Lib.hid hh
        have HVL0 : Hid (∀ k2, vl.ownBlock = some k2 → k2 < wr.heap.size) := Lib.hid (fun k2 h2 => by
          obtain ⟨inner, hown⟩ := Go.Proofs.YteankgbcmfkfnaaW.PrintWords.Kd.R_own HMr.out.ll
          obtain ⟨⟨cs, h3⟩, _⟩ := row_blk hown k2 h2
          exact blk_lt h3)
        clear hh HMr hb0 HE2
        go_upto_if 27 with (first
          | (go_at_call 9; ((with_reducible refine (isName_call f0 _).mono ?_); rintro e w2 ⟨rfl, hb⟩; replace HOA := Lib.hid ((hb.block _ (blk_lt HOA.out)).trans HOA.out); replace HMA := Lib.hid (HMA.out.below hb); clear hb)))
        rcases Bool.eq_false_or_eq_true (nm f0) with hn | hn
        case inr =>
          have he : ne = ((k : Int), 20) := by rw [HH.out, if_neg (by rw [hn]; decide)]
          simp only [hn, Bool.not_false]
          go_wp2_with (fail)
          go_ret3
          exact ⟨HMA.out.hb, .inl ⟨by rw [he]; simp, by rw [he]; rfl⟩⟩
        simp only [hn, Bool.not_true]
        obtain ⟨D, hown, hmD, hD⟩ := HMA.out.nm
        have hkey : keyOf Try.prog 9 (.string f0) = some (.string (nk f0)) := keyOf_string_mk Try.underlying9 (by have := nm_len hn; unfold maxLen; omega)
        obtain ⟨q0, -⟩ := Hp.blk_cell HOA.out 0 rfl
        obtain ⟨q1, -⟩ := Hp.blk_cell HOA.out 1 rfl
        have HDD := Lib.hid hD
        have HOW := Lib.hid hown
        have HMD := Lib.hid hmD
        have HKEY := Lib.hid hkey
        clear hD hown hmD hkey
        go_upto_if 33 with (at_lookup; (refine wpList_lookup_own_int _ rfl _ _ 65 rfl 9 3 .i64 law Try.underlying65 Try.underlying3 (zeroE _) mb _ D rfl HOW.out _ _ rfl HKEY.out ?_; intro c hat hwc))
        have hiff := HDD.out _ c hat
        by_cases hc0 : 0 < c
        · have he : ne = ((k : Int), 41) := by rw [HH.out, if_pos hn, if_pos (hiff.1 hc0)]
          simp only [decide_eq_true hc0]
          go_wp2_with (fail)
          go_ret3
          exact ⟨HMA.out.hb, .inl ⟨by rw [he]; simp, by rw [he]; rfl⟩⟩
        · have hni : ¬ nk f0 ∈ ((l.take k).map fun x => nk x.f0) := fun z => hc0 (hiff.2 z)
          have HH2 : Hid (ne = (if fieldsE fs = 0 then cE (k + 1) (((l.take k).map fun x => nk x.f0) ++ [nk f0]) (l.drop (k + 1)) else ((k : Int), fieldsE fs))) := Lib.hid (by rw [HH.out, if_pos hn, if_neg hni])
          have hlen : ((l.take k).map fun x => nk x.f0).length = k := by rw [List.length_map, List.length_take]; omega
          have HLEN := Lib.hid hlen
          clear hlen hiff hat hni HH
          simp only [decide_eq_false hc0]
          have ew : wrap64 ((k : Int) + 1) = (k : Int) + 1 := by unfold wrap64; omega
          clear hc0 hwc
          go_upto_region 13 with (at_mapUpdate; (refine wpList_mapUpdate_own _ rfl _ _ _ 65 rfl 9 3 law Try.underlying65 _ mb _ D rfl HOW.out (by rw [HLEN.out]; unfold maxLen; omega) _ _ _ rfl rfl HKEY.out _ [] (plainElem_int Try.underlying3 (a := (k : Int) + 1) (WalkArith.wf_i64 (by omega))) ?_; intro w3 hown3 hgrow3))
          have hn4 := NM.put HMD.out HDD.out (nk f0) ((k : Int) + 1) (by omega) hown3
          have HM4 := Lib.hid (HMA.out.put hgrow3 hn4)
          have HO4 := Lib.hid ((hgrow3.block _ (blk_lt HOA.out) (fun z => by
            injection z with z
            obtain ⟨es, clock, hb2⟩ := HMA.out.nm.map
            rw [← z, HOA.out] at hb2
            injection hb2 with hb2
            cases hb2)).trans HOA.out)
          clear hn4 hown3 hgrow3 HMD HDD HOW HOA HMA HKEY HLEN q0 q1 r0 r1
          obtain ⟨q0, -⟩ := Hp.blk_cell HO4.out 0 rfl
          obtain ⟨q1, -⟩ := Hp.blk_cell HO4.out 1 rfl
          go_upto_if 46 with (first
            | (go_at_call 28; ((have hm := fields_call f0 A1 c1 fs _ (Kd.C_below HG1.out HM4.out.hb) HC1.out); (with_reducible refine hm.mono ?_); clear hm; rintro e w5 ⟨rfl, hb⟩; clear q0 q1; replace HO4 := Lib.hid ((hb.block _ (blk_lt HO4.out)).trans HO4.out); replace HM4 := Lib.hid (HM4.out.below hb); clear hb)))
          by_cases hz0 : fieldsE fs = 0
          case neg =>
            have he : ne = ((k : Int), fieldsE fs) := by rw [HH2.out, if_neg hz0]
            have hzz : (fieldsE fs != 0) = true := by simp [hz0]
            simp only [hzz]
            go_wp2_with (fail)
            go_ret3
            exact ⟨HM4.out.hb, .inl ⟨by rw [he]; exact hz0, by rw [he]; rfl⟩⟩
          have hzz : (fieldsE fs != 0) = false := by simp [hz0]
          simp only [hzz]
          have HFS := Lib.hid (fieldsE_len hz0)
          have HNE : Hid (ne = cE (k + 1) (((l.take k).map fun x => nk x.f0) ++ [nk f0]) (l.drop (k + 1))) := Lib.hid (by rw [HH2.out, if_pos hz0])
          have HVL : Hid (∀ k2, vl.ownBlock = some k2 → k2 < wr.heap.size) := HVL0
          clear HH2 hz0 hzz HVL0
          go_upto_region 16 with (fail)
          have HM := Lib.hid (HM4.out.below (w' := w5.drew) ⟨rfl, rfl, rfl, Nat.le_refl _, fun _ _ => rfl⟩)
          have HO : Hid (w5.drew.heap[wr.heap.size]? = some (.cells #[.string f0, .slice A1 fs.length c1] 34 (0, 0))) := Lib.hid HO4.out
          clear HM4 HO4
          obtain ⟨cx, hcx⟩ : ∃ cx, cx = wr.heap.size := ⟨_, rfl⟩
          simp only [← hcx]
          rw [← hcx] at HO HVL
          clear hcx
          have hlk : (l.take k).length ≤ 16 := by rw [List.length_take]; omega
          have hlm : ((l.take k).map fun x => fieldsM x.f1).length ≤ 16 := by rw [List.length_map]; exact hlk
          have HLK := Lib.hid (And.intro hlk hlm)
          clear hlk hlm
          obtain ⟨iC, hiC, hzC0, hzC1, hzC2⟩ := info_parts infoC
          obtain ⟨iU, hiU, hzU0, hzU1, hzU2⟩ := info_parts infoU
          refine Rg.Till.start (fun w' => w'.heap[tb]? = some (.cells #[vl, vm] 64 (0, 0)) ∧ w'.heap[cx]? = some (.cells #[.string f0, .slice A1 fs.length c1] 34 (0, 0))) 19 (by kernel_rfl) ⟨HM.out.blk, HO.out⟩ (fun HSC => ?_)
          clear HO
          generalize w5.drew = wd at HM HSC ⊢
          refine Rg.Till.pure (i := 0) (v := ?_) rfl (by kernel_rfl) (by kernel_rfl) (by kernel_rfl) (by decide) (fun _ _ _ h => h) (by rfl) (fun w5 _ => ?_) (fun _ => HSC) ?_
          rotate_left
          · go_simp
            try rfl
          try simp only [Act.put, List.setIfInBounds_toArray, List.set_cons_zero, List.set_cons_succ]
          refine Rg.Till.pure (i := 1) (v := ?_) rfl (by kernel_rfl) (by kernel_rfl) (by kernel_rfl) (by decide) (fun _ _ _ h => h) (by rfl) (fun w5 _ => ?_) (fun _ => HSC) ?_
          rotate_left
          · go_simp
            try rfl
          try simp only [Act.put, List.setIfInBounds_toArray, List.set_cons_zero, List.set_cons_succ]
          refine Rg.Till.pure (i := 2) (v := ?_) rfl (by kernel_rfl) (by kernel_rfl) (by kernel_rfl) (by decide) (fun _ _ _ h => h) (by rfl) (fun w5 _ => ?_) (fun _ => HSC) ?_
          rotate_left
          · go_simp
            try rfl
          try simp only [Act.put, List.setIfInBounds_toArray, List.set_cons_zero, List.set_cons_succ]
          refine Rg.Till.pure (i := 3) (v := ?_) rfl (by kernel_rfl) (by kernel_rfl) (by kernel_rfl) (by decide) (fun _ _ _ h => h) (by rfl) (fun w5 _ => ?_) (fun _ => HSC) ?_
          rotate_left
          · go_simp
            try rfl
          try simp only [Act.put, List.setIfInBounds_toArray, List.set_cons_zero, List.set_cons_succ]
          refine Rg.Till.pure (i := 4) (v := ?_) rfl (by kernel_rfl) (by kernel_rfl) (by kernel_rfl) (by decide) (fun _ _ _ h => h) (by rfl) (fun w5 _ => ?_) (fun _ => HSC) ?_
          rotate_left
          · go_simp
            try rfl
          try simp only [Act.put, List.setIfInBounds_toArray, List.set_cons_zero, List.set_cons_succ]
          refine Rg.Till.take (i := 5) (v := ?_) rfl (by kernel_rfl) (by kernel_rfl) (by kernel_rfl) (by kernel_rfl) (by kernel_rfl) (by decide) (fun _ _ _ h => h) (by rfl) (fun w5 hS5 => ?_) HSC ?_
          rotate_left
          · obtain ⟨h1, h2⟩ := hS5
            have x0 := (Hp.blk_cell h1 0 rfl).1
            clear h1 h2
            go_simp
            try rfl
          try simp only [Act.put, List.setIfInBounds_toArray, List.set_cons_zero, List.set_cons_succ]
          refine Rg.Till.take (i := 6) (v := ?_) rfl (by kernel_rfl) (by kernel_rfl) (by kernel_rfl) (by kernel_rfl) (by kernel_rfl) (by decide) (fun _ _ _ h => h) (by rfl) (fun w5 hS5 => ?_) HSC ?_
          rotate_left
          · obtain ⟨h1, h2⟩ := hS5
            have x0 := (Hp.blk_cell h2 0 rfl).1
            have x1 := (Hp.blk_cell h2 1 rfl).1
            clear h1 h2
            go_simp
            try rfl
          try simp only [Act.put, List.setIfInBounds_toArray, List.set_cons_zero, List.set_cons_succ]
          refine Rg.Till.pure (i := 10) (v := ?_) rfl (by kernel_rfl) (by kernel_rfl) (by kernel_rfl) (by decide) (fun _ _ _ h => h) (by rfl) (fun w5 _ => ?_) (fun _ => HSC) ?_
          rotate_left
          · go_simp
            try rfl
          try simp only [Act.put, List.setIfInBounds_toArray, List.set_cons_zero, List.set_cons_succ]
          refine Rg.Till.pure (i := 11) (v := ?_) rfl (by kernel_rfl) (by kernel_rfl) (by kernel_rfl) (by decide) (fun _ _ _ h => h) (by rfl) (fun w5 _ => ?_) (fun _ => HSC) ?_
          rotate_left
          · go_simp
            try rfl
          try simp only [Act.put, List.setIfInBounds_toArray, List.set_cons_zero, List.set_cons_succ]
          refine Rg.Till.pure (i := 12) (v := ?_) rfl (by kernel_rfl) (by kernel_rfl) (by kernel_rfl) (by decide) (fun _ _ _ h => h) (by rfl) (fun w5 _ => ?_) (fun _ => HSC) ?_
          rotate_left
          · go_simp
            try rfl
          try simp only [Act.put, List.setIfInBounds_toArray, List.set_cons_zero, List.set_cons_succ]
          refine Rg.Till.take (i := 13) (v := ?_) rfl (by kernel_rfl) (by kernel_rfl) (by kernel_rfl) (by kernel_rfl) (by kernel_rfl) (by decide) (fun _ _ _ h => h) (by rfl) (fun w5 hS5 => ?_) HSC ?_
          rotate_left
          · obtain ⟨h1, h2⟩ := hS5
            have x1 := (Hp.blk_cell h1 1 rfl).1
            clear h1 h2
            go_simp
            try rfl
          try simp only [Act.put, List.setIfInBounds_toArray, List.set_cons_zero, List.set_cons_succ]
          refine Rg.Till.pure (i := 14) (v := ?_) rfl (by kernel_rfl) (by kernel_rfl) (by kernel_rfl) (by decide) (fun _ _ _ h => h) (by rfl) (fun w5 _ => ?_) (fun _ => HSC) ?_
          rotate_left
          · go_simp
            try rfl
          try simp only [Act.put, List.setIfInBounds_toArray, List.set_cons_zero, List.set_cons_succ]
          refine Rg.Till.cases (L := [7, 15]) (by kernel_rfl) (by simp) (fun i hi => ?_)
          simp only [List.mem_cons, List.not_mem_nil, or_false] at hi
          rcases hi with rfl | rfl
          · refine ⟨_, rfl, rfl, fun KK hK => ?_⟩
            go_simp
            have hcp : classes_copied.f f0 fs = some (f0, fs) := copied_eq f0 fs (by have := HFS.out; omega)
            (with_reducible refine (classes_copied.calls f0 A1 c1 fs f0 fs _ (Kd.C_below HG1.out HM.out.hb) HC1.out hcp).mono ?_)
            clear hcp
            rintro e w7 ⟨fv, rfl, hfv, hb⟩
            obtain ⟨Af, cf, hfvs⟩ := Go.Proofs.YteankgbcmfkfnaaW.PrintWords.Kd.R_slice hfv
            subst hfvs
            have HFV := Lib.hid (R_lower hfv HM.out.bw)
            have HSC2 := And.intro ((hb.block _ (blk_lt HSC.1)).trans HSC.1) ((hb.block _ (blk_lt HSC.2)).trans HSC.2)
            replace HM := Lib.hid (HM.out.below hb)
            refine hK.out _ _ (fun _ => HSC2) ?_
            clear hK KK hfv hb HSC
            have HSC := HSC2
            clear HSC2
            try simp only [Act.put, List.setIfInBounds_toArray, List.set_cons_zero, List.set_cons_succ]
            refine Rg.Till.cases (L := [8, 15]) (by kernel_rfl) (by simp) (fun i hi => ?_)
            simp only [List.mem_cons, List.not_mem_nil, or_false] at hi
            rcases hi with rfl | rfl
            · refine ⟨_, rfl, rfl, fun KK hK => ?_⟩
              go_simp
              have hb : Below w7.heap.size w7 (w7.alloc (.cells #[.string f0, .slice Af fs.length cf] 34)) := (Below.refl _ _).alloc (Nat.le_refl _) _
              have HP8 := Lib.hid (Hp.blk_new w7 (.cells #[.string f0, .slice Af fs.length cf] 34))
              have HSC2 := And.intro ((hb.block _ (blk_lt HSC.1)).trans HSC.1) ((hb.block _ (blk_lt HSC.2)).trans HSC.2)
              replace HFV := Lib.hid (R_below HFV.out hb)
              replace HM := Lib.hid (HM.out.below hb)
              refine hK.out _ _ (fun _ => HSC2) ?_
              clear hK KK hb HSC
              have HSC := HSC2
              clear HSC2
              generalize w7.alloc (.cells #[.string f0, .slice Af fs.length cf] 34) = w78 at HP8 HM HSC HFV ⊢
              try simp only [Act.put, List.setIfInBounds_toArray, List.set_cons_zero, List.set_cons_succ]
              refine Rg.Till.cases (L := [9, 15]) (by kernel_rfl) (by simp) (fun i hi => ?_)
              simp only [List.mem_cons, List.not_mem_nil, or_false] at hi
              rcases hi with rfl | rfl
              · refine ⟨_, rfl, rfl, fun KK hK => ?_⟩
                obtain ⟨hx0, inner, hinn, hrp⟩ := HM.out.ll
                refine wp_append_lies _ (.tmp 54) (.tmp 57) 24 rfl w.heap.size 34 iC _ 2 40 Try.underlying24 hiC hzC0 hzC1 hzC2 rfl (by omega) vl (l.take k).length inner rfl hinn ⟨w7.heap.size, 0, none⟩ 1 1 [.string f0, .slice Af fs.length cf] rfl rfl (World.news_of_block (cs := #[.string f0, .slice Af fs.length cf]) (fr := (0, 0)) HP8.out) (by simp [Value.oneCell']) (by omega) (by have := HLK.out.1; unfold maxLen; omega) (by have := HLK.out.1; omega) HM.out.bw w78.heap.size rfl ?_
                intro g9 cap9 w789 own9 grow9 at9 lt9
                have hvl : ∀ k2, vl.ownBlock = some k2 → ∃ cs, w78.heap[k2]? = some (.cells cs 34 (0, 0)) ∧ w.heap.size ≤ k2 := fun k2 h2 => by
                  obtain ⟨⟨cs, h3⟩, h4⟩ := row_blk hinn k2 h2
                  exact ⟨cs, h3, h4⟩
                have HM9 := Lib.hid (HM.out.app9 HFV.out hrp hvl own9 grow9 at9 rfl)
                have HSC2 := And.intro HM9.out.blk ((grow9.block _ (blk_lt HSC.2) (fun e => by have := HVL.out _ e.symm; omega)).trans HSC.2)
                refine hK.out _ _ (fun _ => HSC2) ?_
                clear hK KK HSC HM hvl own9 grow9 at9 lt9 hrp hinn hx0 HFV HP8
                have HSC := HSC2
                have HM := HM9
                clear HSC2 HM9
                generalize (l.take k).length + 1 = n9 at HM HSC ⊢
                try simp only [Act.put, List.setIfInBounds_toArray, List.set_cons_zero, List.set_cons_succ]
                refine Rg.Till.cases (L := [15]) (by kernel_rfl) (by simp) (fun i hi => ?_)
                simp only [List.mem_cons, List.not_mem_nil, or_false] at hi
                subst hi
                · refine ⟨_, rfl, rfl, fun KK hK => ?_⟩
                  go_simp
                  have hb : Below w789.heap.size w789 (w789.alloc (.cells #[.int .u64 (fieldsM fs)] 39)) := (Below.refl _ _).alloc (Nat.le_refl _) _
                  have HP15 := Lib.hid (Hp.blk_new w789 (.cells #[.int .u64 (fieldsM fs)] 39))
                  have HSC2 := And.intro ((hb.block _ (blk_lt HSC.1)).trans HSC.1) ((hb.block _ (blk_lt HSC.2)).trans HSC.2)
                  replace HM := Lib.hid (HM.out.below hb)
                  refine hK.out _ _ (fun _ => HSC2) ?_
                  clear hK KK hb HSC
                  have HSC := HSC2
                  clear HSC2
                  generalize w789.alloc (.cells #[.int .u64 (fieldsM fs)] 39) = w789f at HP15 HM HSC ⊢
                  try simp only [Act.put, List.setIfInBounds_toArray, List.set_cons_zero, List.set_cons_succ]
                  refine Rg.Till.one (i := 16) rfl (by kernel_rfl) (by rfl) (fun KK hK => ?_)
                  refine wp_append_lies _ (.tmp 62) (.tmp 64) 62 rfl w.heap.size 39 iU _ 1 8 Try.underlying62 hiU hzU0 hzU1 hzU2 rfl (by omega) vm ((l.take k).map fun x => fieldsM x.f1).length _ rfl HM.out.mm ⟨w789.heap.size, 0, none⟩ 1 1 [.int .u64 (fieldsM fs)] rfl rfl (World.news_of_block (cs := #[.int .u64 (fieldsM fs)]) (fr := (0, 0)) HP15.out) (by simp [Value.oneCell']) (by omega) (by have := HLK.out.2; unfold maxLen; omega) (by have := HLK.out.2; omega) HM.out.bw w789f.heap.size rfl ?_
                  intro g16 cap16 wz own16 grow16 at16 lt16
                  have HM6 := Lib.hid (HM.out.app16 own16 grow16)
                  have HSC2 := And.intro HM6.out.blk ((grow16.block _ (blk_lt HSC.2) (fun e => by
                    obtain ⟨⟨cs, h3⟩, _⟩ := row_blk HM.out.mm _ e.symm
                    exact blk_ne HSC.2 h3 (by decide) rfl)).trans HSC.2)
                  refine hK.out _ _ (fun _ => HSC2) ?_
                  clear hK KK HSC HM own16 grow16 at16 lt16 HP15
                  have HSC := HSC2
                  have HM := HM6
                  clear HSC2 HM6
                  generalize ((l.take k).map fun x => fieldsM x.f1).length + 1 = n16 at HM HSC ⊢
                  try simp only [Act.put, List.setIfInBounds_toArray, List.set_cons_zero, List.set_cons_succ]
                  refine Rg.Till.one (i := 17) rfl (by kernel_rfl) (by rfl) (fun KK hK => ?_)
                  go_simp
                  refine hK.out _ _ (fun _ => HSC) ?_
                  clear hK KK
                  try simp only [Act.put, List.setIfInBounds_toArray, List.set_cons_zero, List.set_cons_succ]
                  refine Rg.Till.one (i := 18) rfl (by kernel_rfl) (by rfl) (fun KK hK => ?_)
                  go_simp
                  refine hK.out _ _ (fun _ => HSC) ?_
                  clear hK KK
                  try simp only [Act.put, List.setIfInBounds_toArray, List.set_cons_zero, List.set_cons_succ]
                  clear HSC
                  refine Rg.Till.one (i := 19) rfl (by kernel_rfl) (by rfl) (fun KK hK => ?_)
                  obtain ⟨x0, f0⟩ := Hp.blk_cell HM.out.blk 0 rfl
                  go_simp
                  refine hK.out _ _ (fun hz => absurd hz (by decide)) ?_
                  clear hK KK x0 f0
                  replace HM := Lib.hid (HM.out.set 0 (.slice (some ⟨g9, 0, none⟩) n9 cap9) _ _ rfl)
                  generalize wz.setCell ⟨tb, 0, none⟩ (.slice (some ⟨g9, 0, none⟩) n9 cap9) = wy at HM ⊢
                  try simp only [Act.put, List.setIfInBounds_toArray, List.set_cons_zero, List.set_cons_succ]
                  refine Rg.Till.one (i := 20) rfl (by kernel_rfl) (by rfl) (fun KK hK => ?_)
                  go_simp
                  refine hK.out _ _ (fun hz => absurd hz (by decide)) ?_
                  clear hK KK
                  try simp only [Act.put, List.setIfInBounds_toArray, List.set_cons_zero, List.set_cons_succ]
                  refine Rg.Till.one (i := 21) rfl (by kernel_rfl) (by rfl) (fun KK hK => ?_)
                  go_simp
                  refine hK.out _ _ (fun hz => absurd hz (by decide)) ?_
                  clear hK KK
                  try simp only [Act.put, List.setIfInBounds_toArray, List.set_cons_zero, List.set_cons_succ]
                  refine Rg.Till.one (i := 22) rfl (by kernel_rfl) (by rfl) (fun KK hK => ?_)
                  obtain ⟨x1, f1⟩ := Hp.blk_cell HM.out.blk 1 rfl
                  go_simp
                  refine hK.out _ _ (fun hz => absurd hz (by decide)) ?_
                  clear hK KK x1 f1
                  replace HM := Lib.hid (HM.out.set 1 (.slice (some ⟨g16, 0, none⟩) n16 cap16) _ _ rfl)
                  generalize wy.setCell ⟨tb, 1, none⟩ (.slice (some ⟨g16, 0, none⟩) n16 cap16) = wv at HM ⊢
                  try simp only [Act.put, List.setIfInBounds_toArray, List.set_cons_zero, List.set_cons_succ]
                  refine Rg.Till.done (by kernel_rfl) ?_
                  go_wp2_with (fail)
                  go_roundw
                  case rel => exact ⟨k + 1, _, _, by omega, by go_num, Lib.hid (by rw [HT.out, List.map_append, List.map_append]; exact HM.out), Lib.hid (by rw [HT.out, List.map_append]; exact HNE.out)⟩
                  case measure => simp [intOf]; omega
              · refine ⟨_, rfl, rfl, fun KK hK => ?_⟩
                go_simp
                have hb : Below w78.heap.size w78 (w78.alloc (.cells #[.int .u64 (fieldsM fs)] 39)) := (Below.refl _ _).alloc (Nat.le_refl _) _
                have HP15 := Lib.hid (Hp.blk_new w78 (.cells #[.int .u64 (fieldsM fs)] 39))
                have HSC2 := And.intro ((hb.block _ (blk_lt HSC.1)).trans HSC.1) ((hb.block _ (blk_lt HSC.2)).trans HSC.2)
                replace HFV := Lib.hid (R_below HFV.out hb)
                replace HP8 := Lib.hid ((hb.block _ (blk_lt HP8.out)).trans HP8.out)
                replace HM := Lib.hid (HM.out.below hb)
                refine hK.out _ _ (fun _ => HSC2) ?_
                clear hK KK hb HSC
                have HSC := HSC2
                clear HSC2
                generalize w78.alloc (.cells #[.int .u64 (fieldsM fs)] 39) = w78f at HP15 HM HSC HFV HP8 ⊢
                try simp only [Act.put, List.setIfInBounds_toArray, List.set_cons_zero, List.set_cons_succ]
                refine Rg.Till.cases (L := [9]) (by kernel_rfl) (by simp) (fun i hi => ?_)
                simp only [List.mem_cons, List.not_mem_nil, or_false] at hi
                subst hi
                · refine ⟨_, rfl, rfl, fun KK hK => ?_⟩
                  obtain ⟨hx0, inner, hinn, hrp⟩ := HM.out.ll
                  refine wp_append_lies _ (.tmp 54) (.tmp 57) 24 rfl w.heap.size 34 iC _ 2 40 Try.underlying24 hiC hzC0 hzC1 hzC2 rfl (by omega) vl (l.take k).length inner rfl hinn ⟨w7.heap.size, 0, none⟩ 1 1 [.string f0, .slice Af fs.length cf] rfl rfl (World.news_of_block (cs := #[.string f0, .slice Af fs.length cf]) (fr := (0, 0)) HP8.out) (by simp [Value.oneCell']) (by omega) (by have := HLK.out.1; unfold maxLen; omega) (by have := HLK.out.1; omega) HM.out.bw w78f.heap.size rfl ?_
                  intro g9 cap9 w78f9 own9 grow9 at9 lt9
                  have hvl : ∀ k2, vl.ownBlock = some k2 → ∃ cs, w78f.heap[k2]? = some (.cells cs 34 (0, 0)) ∧ w.heap.size ≤ k2 := fun k2 h2 => by
                    obtain ⟨⟨cs, h3⟩, h4⟩ := row_blk hinn k2 h2
                    exact ⟨cs, h3, h4⟩
                  replace HP15 := Lib.hid ((grow9.block _ (blk_lt HP15.out) (fun e => by
                    obtain ⟨cs, h3, _⟩ := hvl _ e.symm
                    exact blk_ne HP15.out h3 (by decide) rfl)).trans HP15.out)
                  have HM9 := Lib.hid (HM.out.app9 HFV.out hrp hvl own9 grow9 at9 rfl)
                  have HSC2 := And.intro HM9.out.blk ((grow9.block _ (blk_lt HSC.2) (fun e => by have := HVL.out _ e.symm; omega)).trans HSC.2)
                  refine hK.out _ _ (fun _ => HSC2) ?_
                  clear hK KK HSC HM hvl own9 grow9 at9 lt9 hrp hinn hx0 HFV HP8
                  have HSC := HSC2
                  have HM := HM9
                  clear HSC2 HM9
                  generalize (l.take k).length + 1 = n9 at HM HSC ⊢
                  try simp only [Act.put, List.setIfInBounds_toArray, List.set_cons_zero, List.set_cons_succ]
                  refine Rg.Till.one (i := 16) rfl (by kernel_rfl) (by rfl) (fun KK hK => ?_)
                  refine wp_append_lies _ (.tmp 62) (.tmp 64) 62 rfl w.heap.size 39 iU _ 1 8 Try.underlying62 hiU hzU0 hzU1 hzU2 rfl (by omega) vm ((l.take k).map fun x => fieldsM x.f1).length _ rfl HM.out.mm ⟨w78.heap.size, 0, none⟩ 1 1 [.int .u64 (fieldsM fs)] rfl rfl (World.news_of_block (cs := #[.int .u64 (fieldsM fs)]) (fr := (0, 0)) HP15.out) (by simp [Value.oneCell']) (by omega) (by have := HLK.out.2; unfold maxLen; omega) (by have := HLK.out.2; omega) HM.out.bw w78f9.heap.size rfl ?_
                  intro g16 cap16 wz own16 grow16 at16 lt16
                  have HM6 := Lib.hid (HM.out.app16 own16 grow16)
                  have HSC2 := And.intro HM6.out.blk ((grow16.block _ (blk_lt HSC.2) (fun e => by
                    obtain ⟨⟨cs, h3⟩, _⟩ := row_blk HM.out.mm _ e.symm
                    exact blk_ne HSC.2 h3 (by decide) rfl)).trans HSC.2)
                  refine hK.out _ _ (fun _ => HSC2) ?_
                  clear hK KK HSC HM own16 grow16 at16 lt16 HP15
                  have HSC := HSC2
                  have HM := HM6
                  clear HSC2 HM6
                  generalize ((l.take k).map fun x => fieldsM x.f1).length + 1 = n16 at HM HSC ⊢
                  try simp only [Act.put, List.setIfInBounds_toArray, List.set_cons_zero, List.set_cons_succ]
                  refine Rg.Till.one (i := 17) rfl (by kernel_rfl) (by rfl) (fun KK hK => ?_)
                  go_simp
                  refine hK.out _ _ (fun _ => HSC) ?_
                  clear hK KK
                  try simp only [Act.put, List.setIfInBounds_toArray, List.set_cons_zero, List.set_cons_succ]
                  refine Rg.Till.one (i := 18) rfl (by kernel_rfl) (by rfl) (fun KK hK => ?_)
                  go_simp
                  refine hK.out _ _ (fun _ => HSC) ?_
                  clear hK KK
                  try simp only [Act.put, List.setIfInBounds_toArray, List.set_cons_zero, List.set_cons_succ]
                  clear HSC
                  refine Rg.Till.one (i := 19) rfl (by kernel_rfl) (by rfl) (fun KK hK => ?_)
                  obtain ⟨x0, f0⟩ := Hp.blk_cell HM.out.blk 0 rfl
                  go_simp
                  refine hK.out _ _ (fun hz => absurd hz (by decide)) ?_
                  clear hK KK x0 f0
                  replace HM := Lib.hid (HM.out.set 0 (.slice (some ⟨g9, 0, none⟩) n9 cap9) _ _ rfl)
                  generalize wz.setCell ⟨tb, 0, none⟩ (.slice (some ⟨g9, 0, none⟩) n9 cap9) = wy at HM ⊢
                  try simp only [Act.put, List.setIfInBounds_toArray, List.set_cons_zero, List.set_cons_succ]
                  refine Rg.Till.one (i := 20) rfl (by kernel_rfl) (by rfl) (fun KK hK => ?_)
                  go_simp
                  refine hK.out _ _ (fun hz => absurd hz (by decide)) ?_
                  clear hK KK
                  try simp only [Act.put, List.setIfInBounds_toArray, List.set_cons_zero, List.set_cons_succ]
                  refine Rg.Till.one (i := 21) rfl (by kernel_rfl) (by rfl) (fun KK hK => ?_)
                  go_simp
                  refine hK.out _ _ (fun hz => absurd hz (by decide)) ?_
                  clear hK KK
                  try simp only [Act.put, List.setIfInBounds_toArray, List.set_cons_zero, List.set_cons_succ]
                  refine Rg.Till.one (i := 22) rfl (by kernel_rfl) (by rfl) (fun KK hK => ?_)
                  obtain ⟨x1, f1⟩ := Hp.blk_cell HM.out.blk 1 rfl
                  go_simp
                  refine hK.out _ _ (fun hz => absurd hz (by decide)) ?_
                  clear hK KK x1 f1
                  replace HM := Lib.hid (HM.out.set 1 (.slice (some ⟨g16, 0, none⟩) n16 cap16) _ _ rfl)
                  generalize wy.setCell ⟨tb, 1, none⟩ (.slice (some ⟨g16, 0, none⟩) n16 cap16) = wv at HM ⊢
                  try simp only [Act.put, List.setIfInBounds_toArray, List.set_cons_zero, List.set_cons_succ]
                  refine Rg.Till.done (by kernel_rfl) ?_
                  go_wp2_with (fail)
                  go_roundw
                  case rel => exact ⟨k + 1, _, _, by omega, by go_num, Lib.hid (by rw [HT.out, List.map_append, List.map_append]; exact HM.out), Lib.hid (by rw [HT.out, List.map_append]; exact HNE.out)⟩
                  case measure => simp [intOf]; omega
            · refine ⟨_, rfl, rfl, fun KK hK => ?_⟩
              go_simp
              have hb : Below w7.heap.size w7 (w7.alloc (.cells #[.int .u64 (fieldsM fs)] 39)) := (Below.refl _ _).alloc (Nat.le_refl _) _
              have HP15 := Lib.hid (Hp.blk_new w7 (.cells #[.int .u64 (fieldsM fs)] 39))
              have HSC2 := And.intro ((hb.block _ (blk_lt HSC.1)).trans HSC.1) ((hb.block _ (blk_lt HSC.2)).trans HSC.2)
              replace HFV := Lib.hid (R_below HFV.out hb)
              replace HM := Lib.hid (HM.out.below hb)
              refine hK.out _ _ (fun _ => HSC2) ?_
              clear hK KK hb HSC
              have HSC := HSC2
              clear HSC2
              generalize w7.alloc (.cells #[.int .u64 (fieldsM fs)] 39) = w7f at HP15 HM HSC HFV ⊢
              try simp only [Act.put, List.setIfInBounds_toArray, List.set_cons_zero, List.set_cons_succ]
              refine Rg.Till.cases (L := [8]) (by kernel_rfl) (by simp) (fun i hi => ?_)
              simp only [List.mem_cons, List.not_mem_nil, or_false] at hi
              subst hi
              · refine ⟨_, rfl, rfl, fun KK hK => ?_⟩
                go_simp
                have hb : Below w7f.heap.size w7f (w7f.alloc (.cells #[.string f0, .slice Af fs.length cf] 34)) := (Below.refl _ _).alloc (Nat.le_refl _) _
                have HP8 := Lib.hid (Hp.blk_new w7f (.cells #[.string f0, .slice Af fs.length cf] 34))
                have HSC2 := And.intro ((hb.block _ (blk_lt HSC.1)).trans HSC.1) ((hb.block _ (blk_lt HSC.2)).trans HSC.2)
                replace HFV := Lib.hid (R_below HFV.out hb)
                replace HP15 := Lib.hid ((hb.block _ (blk_lt HP15.out)).trans HP15.out)
                replace HM := Lib.hid (HM.out.below hb)
                refine hK.out _ _ (fun _ => HSC2) ?_
                clear hK KK hb HSC
                have HSC := HSC2
                clear HSC2
                generalize w7f.alloc (.cells #[.string f0, .slice Af fs.length cf] 34) = w7f8 at HP8 HM HSC HFV HP15 ⊢
                try simp only [Act.put, List.setIfInBounds_toArray, List.set_cons_zero, List.set_cons_succ]
                refine Rg.Till.cases (L := [9]) (by kernel_rfl) (by simp) (fun i hi => ?_)
                simp only [List.mem_cons, List.not_mem_nil, or_false] at hi
                subst hi
                · refine ⟨_, rfl, rfl, fun KK hK => ?_⟩
                  obtain ⟨hx0, inner, hinn, hrp⟩ := HM.out.ll
                  refine wp_append_lies _ (.tmp 54) (.tmp 57) 24 rfl w.heap.size 34 iC _ 2 40 Try.underlying24 hiC hzC0 hzC1 hzC2 rfl (by omega) vl (l.take k).length inner rfl hinn ⟨w7f.heap.size, 0, none⟩ 1 1 [.string f0, .slice Af fs.length cf] rfl rfl (World.news_of_block (cs := #[.string f0, .slice Af fs.length cf]) (fr := (0, 0)) HP8.out) (by simp [Value.oneCell']) (by omega) (by have := HLK.out.1; unfold maxLen; omega) (by have := HLK.out.1; omega) HM.out.bw w7f8.heap.size rfl ?_
                  intro g9 cap9 w7f89 own9 grow9 at9 lt9
                  have hvl : ∀ k2, vl.ownBlock = some k2 → ∃ cs, w7f8.heap[k2]? = some (.cells cs 34 (0, 0)) ∧ w.heap.size ≤ k2 := fun k2 h2 => by
                    obtain ⟨⟨cs, h3⟩, h4⟩ := row_blk hinn k2 h2
                    exact ⟨cs, h3, h4⟩
                  replace HP15 := Lib.hid ((grow9.block _ (blk_lt HP15.out) (fun e => by
                    obtain ⟨cs, h3, _⟩ := hvl _ e.symm
                    exact blk_ne HP15.out h3 (by decide) rfl)).trans HP15.out)
                  have HM9 := Lib.hid (HM.out.app9 HFV.out hrp hvl own9 grow9 at9 rfl)
                  have HSC2 := And.intro HM9.out.blk ((grow9.block _ (blk_lt HSC.2) (fun e => by have := HVL.out _ e.symm; omega)).trans HSC.2)
                  refine hK.out _ _ (fun _ => HSC2) ?_
                  clear hK KK HSC HM hvl own9 grow9 at9 lt9 hrp hinn hx0 HFV HP8
                  have HSC := HSC2
                  have HM := HM9
                  clear HSC2 HM9
                  generalize (l.take k).length + 1 = n9 at HM HSC ⊢
                  try simp only [Act.put, List.setIfInBounds_toArray, List.set_cons_zero, List.set_cons_succ]
                  refine Rg.Till.one (i := 16) rfl (by kernel_rfl) (by rfl) (fun KK hK => ?_)
                  refine wp_append_lies _ (.tmp 62) (.tmp 64) 62 rfl w.heap.size 39 iU _ 1 8 Try.underlying62 hiU hzU0 hzU1 hzU2 rfl (by omega) vm ((l.take k).map fun x => fieldsM x.f1).length _ rfl HM.out.mm ⟨w7.heap.size, 0, none⟩ 1 1 [.int .u64 (fieldsM fs)] rfl rfl (World.news_of_block (cs := #[.int .u64 (fieldsM fs)]) (fr := (0, 0)) HP15.out) (by simp [Value.oneCell']) (by omega) (by have := HLK.out.2; unfold maxLen; omega) (by have := HLK.out.2; omega) HM.out.bw w7f89.heap.size rfl ?_
                  intro g16 cap16 wz own16 grow16 at16 lt16
                  have HM6 := Lib.hid (HM.out.app16 own16 grow16)
                  have HSC2 := And.intro HM6.out.blk ((grow16.block _ (blk_lt HSC.2) (fun e => by
                    obtain ⟨⟨cs, h3⟩, _⟩ := row_blk HM.out.mm _ e.symm
                    exact blk_ne HSC.2 h3 (by decide) rfl)).trans HSC.2)
                  refine hK.out _ _ (fun _ => HSC2) ?_
                  clear hK KK HSC HM own16 grow16 at16 lt16 HP15
                  have HSC := HSC2
                  have HM := HM6
                  clear HSC2 HM6
                  generalize ((l.take k).map fun x => fieldsM x.f1).length + 1 = n16 at HM HSC ⊢
                  try simp only [Act.put, List.setIfInBounds_toArray, List.set_cons_zero, List.set_cons_succ]
                  refine Rg.Till.one (i := 17) rfl (by kernel_rfl) (by rfl) (fun KK hK => ?_)
                  go_simp
                  refine hK.out _ _ (fun _ => HSC) ?_
                  clear hK KK
                  try simp only [Act.put, List.setIfInBounds_toArray, List.set_cons_zero, List.set_cons_succ]
                  refine Rg.Till.one (i := 18) rfl (by kernel_rfl) (by rfl) (fun KK hK => ?_)
                  go_simp
                  refine hK.out _ _ (fun _ => HSC) ?_
                  clear hK KK
                  try simp only [Act.put, List.setIfInBounds_toArray, List.set_cons_zero, List.set_cons_succ]
                  clear HSC
                  refine Rg.Till.one (i := 19) rfl (by kernel_rfl) (by rfl) (fun KK hK => ?_)
                  obtain ⟨x0, f0⟩ := Hp.blk_cell HM.out.blk 0 rfl
                  go_simp
                  refine hK.out _ _ (fun hz => absurd hz (by decide)) ?_
                  clear hK KK x0 f0
                  replace HM := Lib.hid (HM.out.set 0 (.slice (some ⟨g9, 0, none⟩) n9 cap9) _ _ rfl)
                  generalize wz.setCell ⟨tb, 0, none⟩ (.slice (some ⟨g9, 0, none⟩) n9 cap9) = wy at HM ⊢
                  try simp only [Act.put, List.setIfInBounds_toArray, List.set_cons_zero, List.set_cons_succ]
                  refine Rg.Till.one (i := 20) rfl (by kernel_rfl) (by rfl) (fun KK hK => ?_)
                  go_simp
                  refine hK.out _ _ (fun hz => absurd hz (by decide)) ?_
                  clear hK KK
                  try simp only [Act.put, List.setIfInBounds_toArray, List.set_cons_zero, List.set_cons_succ]
                  refine Rg.Till.one (i := 21) rfl (by kernel_rfl) (by rfl) (fun KK hK => ?_)
                  go_simp
                  refine hK.out _ _ (fun hz => absurd hz (by decide)) ?_
                  clear hK KK
                  try simp only [Act.put, List.setIfInBounds_toArray, List.set_cons_zero, List.set_cons_succ]
                  refine Rg.Till.one (i := 22) rfl (by kernel_rfl) (by rfl) (fun KK hK => ?_)
                  obtain ⟨x1, f1⟩ := Hp.blk_cell HM.out.blk 1 rfl
                  go_simp
                  refine hK.out _ _ (fun hz => absurd hz (by decide)) ?_
                  clear hK KK x1 f1
                  replace HM := Lib.hid (HM.out.set 1 (.slice (some ⟨g16, 0, none⟩) n16 cap16) _ _ rfl)
                  generalize wy.setCell ⟨tb, 1, none⟩ (.slice (some ⟨g16, 0, none⟩) n16 cap16) = wv at HM ⊢
                  try simp only [Act.put, List.setIfInBounds_toArray, List.set_cons_zero, List.set_cons_succ]
                  refine Rg.Till.done (by kernel_rfl) ?_
                  go_wp2_with (fail)
                  go_roundw
                  case rel => exact ⟨k + 1, _, _, by omega, by go_num, Lib.hid (by rw [HT.out, List.map_append, List.map_append]; exact HM.out), Lib.hid (by rw [HT.out, List.map_append]; exact HNE.out)⟩
                  case measure => simp [intOf]; omega
          · refine ⟨_, rfl, rfl, fun KK hK => ?_⟩
            go_simp
            have hb : Below wd.heap.size wd (wd.alloc (.cells #[.int .u64 (fieldsM fs)] 39)) := (Below.refl _ _).alloc (Nat.le_refl _) _
            have HP15 := Lib.hid (Hp.blk_new wd (.cells #[.int .u64 (fieldsM fs)] 39))
            have HSC2 := And.intro ((hb.block _ (blk_lt HSC.1)).trans HSC.1) ((hb.block _ (blk_lt HSC.2)).trans HSC.2)
            replace HM := Lib.hid (HM.out.below hb)
            refine hK.out _ _ (fun _ => HSC2) ?_
            clear hK KK hb HSC
            have HSC := HSC2
            clear HSC2
            generalize wd.alloc (.cells #[.int .u64 (fieldsM fs)] 39) = wf at HP15 HM HSC ⊢
            try simp only [Act.put, List.setIfInBounds_toArray, List.set_cons_zero, List.set_cons_succ]
            refine Rg.Till.cases (L := [7]) (by kernel_rfl) (by simp) (fun i hi => ?_)
            simp only [List.mem_cons, List.not_mem_nil, or_false] at hi
            subst hi
            · refine ⟨_, rfl, rfl, fun KK hK => ?_⟩
              go_simp
              have hcp : classes_copied.f f0 fs = some (f0, fs) := copied_eq f0 fs (by have := HFS.out; omega)
              (with_reducible refine (classes_copied.calls f0 A1 c1 fs f0 fs _ (Kd.C_below HG1.out HM.out.hb) HC1.out hcp).mono ?_)
              clear hcp
              rintro e wf7 ⟨fv, rfl, hfv, hb⟩
              obtain ⟨Af, cf, hfvs⟩ := Go.Proofs.YteankgbcmfkfnaaW.PrintWords.Kd.R_slice hfv
              subst hfvs
              have HFV := Lib.hid (R_lower hfv HM.out.bw)
              have HSC2 := And.intro ((hb.block _ (blk_lt HSC.1)).trans HSC.1) ((hb.block _ (blk_lt HSC.2)).trans HSC.2)
              replace HP15 := Lib.hid ((hb.block _ (blk_lt HP15.out)).trans HP15.out)
              replace HM := Lib.hid (HM.out.below hb)
              refine hK.out _ _ (fun _ => HSC2) ?_
              clear hK KK hfv hb HSC
              have HSC := HSC2
              clear HSC2
              try simp only [Act.put, List.setIfInBounds_toArray, List.set_cons_zero, List.set_cons_succ]
              refine Rg.Till.cases (L := [8]) (by kernel_rfl) (by simp) (fun i hi => ?_)
              simp only [List.mem_cons, List.not_mem_nil, or_false] at hi
              subst hi
              · refine ⟨_, rfl, rfl, fun KK hK => ?_⟩
                go_simp
                have hb : Below wf7.heap.size wf7 (wf7.alloc (.cells #[.string f0, .slice Af fs.length cf] 34)) := (Below.refl _ _).alloc (Nat.le_refl _) _
                have HP8 := Lib.hid (Hp.blk_new wf7 (.cells #[.string f0, .slice Af fs.length cf] 34))
                have HSC2 := And.intro ((hb.block _ (blk_lt HSC.1)).trans HSC.1) ((hb.block _ (blk_lt HSC.2)).trans HSC.2)
                replace HFV := Lib.hid (R_below HFV.out hb)
                replace HP15 := Lib.hid ((hb.block _ (blk_lt HP15.out)).trans HP15.out)
                replace HM := Lib.hid (HM.out.below hb)
                refine hK.out _ _ (fun _ => HSC2) ?_
                clear hK KK hb HSC
                have HSC := HSC2
                clear HSC2
                generalize wf7.alloc (.cells #[.string f0, .slice Af fs.length cf] 34) = wf78 at HP8 HM HSC HFV HP15 ⊢
                try simp only [Act.put, List.setIfInBounds_toArray, List.set_cons_zero, List.set_cons_succ]
                refine Rg.Till.cases (L := [9]) (by kernel_rfl) (by simp) (fun i hi => ?_)
                simp only [List.mem_cons, List.not_mem_nil, or_false] at hi
                subst hi
                · refine ⟨_, rfl, rfl, fun KK hK => ?_⟩
                  obtain ⟨hx0, inner, hinn, hrp⟩ := HM.out.ll
                  refine wp_append_lies _ (.tmp 54) (.tmp 57) 24 rfl w.heap.size 34 iC _ 2 40 Try.underlying24 hiC hzC0 hzC1 hzC2 rfl (by omega) vl (l.take k).length inner rfl hinn ⟨wf7.heap.size, 0, none⟩ 1 1 [.string f0, .slice Af fs.length cf] rfl rfl (World.news_of_block (cs := #[.string f0, .slice Af fs.length cf]) (fr := (0, 0)) HP8.out) (by simp [Value.oneCell']) (by omega) (by have := HLK.out.1; unfold maxLen; omega) (by have := HLK.out.1; omega) HM.out.bw wf78.heap.size rfl ?_
                  intro g9 cap9 wf789 own9 grow9 at9 lt9
                  have hvl : ∀ k2, vl.ownBlock = some k2 → ∃ cs, wf78.heap[k2]? = some (.cells cs 34 (0, 0)) ∧ w.heap.size ≤ k2 := fun k2 h2 => by
                    obtain ⟨⟨cs, h3⟩, h4⟩ := row_blk hinn k2 h2
                    exact ⟨cs, h3, h4⟩
                  replace HP15 := Lib.hid ((grow9.block _ (blk_lt HP15.out) (fun e => by
                    obtain ⟨cs, h3, _⟩ := hvl _ e.symm
                    exact blk_ne HP15.out h3 (by decide) rfl)).trans HP15.out)
                  have HM9 := Lib.hid (HM.out.app9 HFV.out hrp hvl own9 grow9 at9 rfl)
                  have HSC2 := And.intro HM9.out.blk ((grow9.block _ (blk_lt HSC.2) (fun e => by have := HVL.out _ e.symm; omega)).trans HSC.2)
                  refine hK.out _ _ (fun _ => HSC2) ?_
                  clear hK KK HSC HM hvl own9 grow9 at9 lt9 hrp hinn hx0 HFV HP8
                  have HSC := HSC2
                  have HM := HM9
                  clear HSC2 HM9
                  generalize (l.take k).length + 1 = n9 at HM HSC ⊢
                  try simp only [Act.put, List.setIfInBounds_toArray, List.set_cons_zero, List.set_cons_succ]
                  refine Rg.Till.one (i := 16) rfl (by kernel_rfl) (by rfl) (fun KK hK => ?_)
                  refine wp_append_lies _ (.tmp 62) (.tmp 64) 62 rfl w.heap.size 39 iU _ 1 8 Try.underlying62 hiU hzU0 hzU1 hzU2 rfl (by omega) vm ((l.take k).map fun x => fieldsM x.f1).length _ rfl HM.out.mm ⟨wd.heap.size, 0, none⟩ 1 1 [.int .u64 (fieldsM fs)] rfl rfl (World.news_of_block (cs := #[.int .u64 (fieldsM fs)]) (fr := (0, 0)) HP15.out) (by simp [Value.oneCell']) (by omega) (by have := HLK.out.2; unfold maxLen; omega) (by have := HLK.out.2; omega) HM.out.bw wf789.heap.size rfl ?_
                  intro g16 cap16 wz own16 grow16 at16 lt16
                  have HM6 := Lib.hid (HM.out.app16 own16 grow16)
                  have HSC2 := And.intro HM6.out.blk ((grow16.block _ (blk_lt HSC.2) (fun e => by
                    obtain ⟨⟨cs, h3⟩, _⟩ := row_blk HM.out.mm _ e.symm
                    exact blk_ne HSC.2 h3 (by decide) rfl)).trans HSC.2)
                  refine hK.out _ _ (fun _ => HSC2) ?_
                  clear hK KK HSC HM own16 grow16 at16 lt16 HP15
                  have HSC := HSC2
                  have HM := HM6
                  clear HSC2 HM6
                  generalize ((l.take k).map fun x => fieldsM x.f1).length + 1 = n16 at HM HSC ⊢
                  try simp only [Act.put, List.setIfInBounds_toArray, List.set_cons_zero, List.set_cons_succ]
                  refine Rg.Till.one (i := 17) rfl (by kernel_rfl) (by rfl) (fun KK hK => ?_)
                  go_simp
                  refine hK.out _ _ (fun _ => HSC) ?_
                  clear hK KK
                  try simp only [Act.put, List.setIfInBounds_toArray, List.set_cons_zero, List.set_cons_succ]
                  refine Rg.Till.one (i := 18) rfl (by kernel_rfl) (by rfl) (fun KK hK => ?_)
                  go_simp
                  refine hK.out _ _ (fun _ => HSC) ?_
                  clear hK KK
                  try simp only [Act.put, List.setIfInBounds_toArray, List.set_cons_zero, List.set_cons_succ]
                  clear HSC
                  refine Rg.Till.one (i := 19) rfl (by kernel_rfl) (by rfl) (fun KK hK => ?_)
                  obtain ⟨x0, f0⟩ := Hp.blk_cell HM.out.blk 0 rfl
                  go_simp
                  refine hK.out _ _ (fun hz => absurd hz (by decide)) ?_
                  clear hK KK x0 f0
                  replace HM := Lib.hid (HM.out.set 0 (.slice (some ⟨g9, 0, none⟩) n9 cap9) _ _ rfl)
                  generalize wz.setCell ⟨tb, 0, none⟩ (.slice (some ⟨g9, 0, none⟩) n9 cap9) = wy at HM ⊢
                  try simp only [Act.put, List.setIfInBounds_toArray, List.set_cons_zero, List.set_cons_succ]
                  refine Rg.Till.one (i := 20) rfl (by kernel_rfl) (by rfl) (fun KK hK => ?_)
                  go_simp
                  refine hK.out _ _ (fun hz => absurd hz (by decide)) ?_
                  clear hK KK
                  try simp only [Act.put, List.setIfInBounds_toArray, List.set_cons_zero, List.set_cons_succ]
                  refine Rg.Till.one (i := 21) rfl (by kernel_rfl) (by rfl) (fun KK hK => ?_)
                  go_simp
                  refine hK.out _ _ (fun hz => absurd hz (by decide)) ?_
                  clear hK KK
                  try simp only [Act.put, List.setIfInBounds_toArray, List.set_cons_zero, List.set_cons_succ]
                  refine Rg.Till.one (i := 22) rfl (by kernel_rfl) (by rfl) (fun KK hK => ?_)
                  obtain ⟨x1, f1⟩ := Hp.blk_cell HM.out.blk 1 rfl
                  go_simp
                  refine hK.out _ _ (fun hz => absurd hz (by decide)) ?_
                  clear hK KK x1 f1
                  replace HM := Lib.hid (HM.out.set 1 (.slice (some ⟨g16, 0, none⟩) n16 cap16) _ _ rfl)
                  generalize wy.setCell ⟨tb, 1, none⟩ (.slice (some ⟨g16, 0, none⟩) n16 cap16) = wv at HM ⊢
                  try simp only [Act.put, List.setIfInBounds_toArray, List.set_cons_zero, List.set_cons_succ]
                  refine Rg.Till.done (by kernel_rfl) ?_
                  go_wp2_with (fail)
                  go_roundw
                  case rel => exact ⟨k + 1, _, _, by omega, by go_num, Lib.hid (by rw [HT.out, List.map_append, List.map_append]; exact HM.out), Lib.hid (by rw [HT.out, List.map_append]; exact HNE.out)⟩
                  case measure => simp [intOf]; omega
      · obtain rfl : k = l.length := by omega
        have he : ne = (0, 0) := by rw [HE2.out, List.drop_length]; rfl
        go_wp2_with (fail)
        go_ret3
        refine ⟨HMr.out.hb, .inr ⟨by rw [he], tb, vl, vm, rfl, ?_⟩⟩
        have hm := HMr.out
        rw [List.take_length] at hm
        exact ⟨hm.blk, hm.ll, hm.mm, hm.bt⟩
end Go.Proofs.Yteankgbcmfkfnaa.Cl
