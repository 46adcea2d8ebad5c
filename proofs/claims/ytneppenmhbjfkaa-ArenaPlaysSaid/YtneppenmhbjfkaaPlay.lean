/- ArenaPlays, walked. -/
import Derived.Test.YtneppenmhbjfkaaOne
import Derived.Test.YtneppenmhbjfkaaRep
import Derived.Test.YtneppenmhbjfkaaLogB
import Derived.Deep.Cut
namespace Go.Proofs.Ytneppenmhbjfkaa.Ar
open Go Go.RowKit Go.Proofs.Ytneppenmhbjfkaa.Hp
open Go.Proofs.YtneppenmhbjfkaaW.PrintWords (Kd Drawn0 rd LeO)
open Go.Proofs.Ytneppenmhbjfkaa.PH
set_option linter.unusedVariables false
set_option linter.unusedSimpArgs false

theorem infoPtr : (Try.prog.info? 32).map (fun i => (i.zero, i.size, i.bytes)) = some (some (.pointer none), 1, 8) := by kernel_rfl
theorem infoPtr2 : (Try.prog.info? 60).map (fun i => (i.zero, i.size, i.bytes)) = some (some (.pointer none), 1, 8) := by kernel_rfl

theorem imageC0 {B e : Nat} {w : World} {v : Value} {k : IntKind} {xs : List Int} (h : w.ownsRow B e 1 v xs.length (xs.map (Value.int k))) : ∃ A cap, v = .slice A xs.length cap ∧ xs.length ≤ cap ∧ Kd.C (Kd.int k) w A xs.length xs := by
  obtain ⟨A, c, rfl, hr⟩ := Go.Proofs.YtneppenmhbjfkaaW.PrintWords.own_reads h
  exact ⟨A, c, rfl, Go.Proofs.YtneppenmhbjfkaaW.PrintWords.own_cap h, Kd.C_of_reads (d := (0 : Int)) (h1 := fun _ => rfl) hr⟩
theorem log_same (l : List S76) (hl : l.length ≤ 1000) : ∃ k, windrowref03_SameLog.f k l l = some true := by
  have h : ∀ (d i : Nat), d = l.length - i → i ≤ l.length → windrowref03_SameLog.l0 (d + 1) l l (i : Int) = some true := by
    intro d
    induction d with
    | zero =>
      intro i hd hi
      simp only [windrowref03_SameLog.l0]
      rw [if_neg (by omega)]
    | succ d ih =>
      intro i hd hi
      rw [windrowref03_SameLog.l0, if_pos (by omega), if_pos (by omega), if_pos (by omega), if_neg (by simp), show wrap64 ((i : Int) + 1) = ((i + 1 : Nat) : Int) by unfold wrap64; omega]
      exact ih (i + 1) (by omega) (by omega)
  refine ⟨l.length + 1, ?_⟩
  unfold windrowref03_SameLog.f
  rw [if_pos rfl]
  exact h l.length 0 (by omega) (by omega)

/-- Both arenas, beginning. -/
theorem Sys.duo {B : Nat} {w : World} {a c m c2 N : Nat} {s : AS} (h : Sys B w a c s []) (hm : w.heap[m]? = some (.cells #[.slice (some ⟨c2, 0, none⟩) N N, .slice none 0 0, .int .i64 0] 56 (0, 0)))
    (hc : w.heap[c2]? = some (.cells ((List.replicate N (0 : Int)).map (Value.int .u64)).toArray 23 (0, 0))) (hN : N ≤ 4096) (hcc : c ≠ c2) (hB : B ≤ m ∧ B ≤ c2) :
    Duo B w a c s [] m c2 ⟨List.replicate N 0, [], true, 0, 0⟩ [] := by
  obtain ⟨lv, hA⟩ := h.ar
  exact ⟨⟨lv, .slice none 0 0, hA, ⟨by simpa using hm, hc, World.ownsRow_nil _ _ _ _, by simpa using hN, rfl⟩, fun k _ => by simp [Value.ownBlock]⟩, hcc, ⟨h.base.1, h.base.2.1, h.base.2.2, hB⟩, fun x hx => (by cases hx), by simp, fun x hx => (by cases hx), by simp⟩
section
variable {B : Nat} {w w' : World} {a c m c2 : Nat} {s t : AS} {ps qs : List (Nat × Int × Bool)}
theorem Duo.port (h : Duo B w a c s ps m c2 t qs) (who : Int) (h0 : 0 ≤ who) (h1 : who ≤ 15) :
    Calls Try.prog 12 #[.pointer (some ⟨a, 0, none⟩), .int .i64 who] w fun e w' => ∃ p, e = .returned (.tuple #[.pointer (some ⟨p, 0, none⟩), .int .i64 0]) ∧ Duo B w' a c s (ps ++ [(p, who, false)]) m c2 t qs ∧ Below w.heap.size w w' := by
  refine (h.sys.port who h0 h1).mono ?_
  rintro e w' ⟨p, he, hS, hb, hp⟩
  have h2 := h.below hb
  exact ⟨p, he, ⟨h2.both, h2.cc, h2.base, hS.pt, hS.nd, h2.qt, h2.qd⟩, hb⟩
theorem Duo.side (h : Duo B w a c s ps m c2 t qs) (who : Int) : Duo B (w.alloc (.cells #[.int .i64 who, .bool false] 62)) a c s ps m c2 t (qs ++ [(w.heap.size, who, false)]) := by
  have h2 := h.alloc (.cells #[.int .i64 who, .bool false] 62)
  refine ⟨h2.both, h2.cc, h2.base, h2.pt, h2.nd, fun x hx => ?_, ?_⟩
  · rcases List.mem_append.1 hx with hx | hx
    · exact h2.qt x hx
    · rw [List.mem_singleton.1 hx]
      exact ⟨Hp.blk_new w _, h.base.1⟩
  · rw [List.map_append]
    refine List.nodup_append.2 ⟨h.qd, by simp, fun y hy z hz e => ?_⟩
    obtain ⟨x, hx, rfl⟩ := List.mem_map.1 hy
    have : z = w.heap.size := by simpa using hz
    have h3 := blk_lt (h.qt x hx).1
    omega
/-- A row of pointers is turned by no call. -/
theorem ptr_kept {S : Nat → Prop} {e : Nat} {v : Value} {n : Nat} {xs : List Value} (h : Duo B w a c s ps m c2 t qs) (hF : Fr (TouchD c c2 w) w w') (ho : w.ownsRow B e 1 v n xs) (he : e ≠ 23 ∧ e ≠ 70 ∧ e ≠ 72 ∧ e ≠ 76 ∧ e ≠ 56 ∧ e ≠ 62) : w'.ownsRow B e 1 v n xs := by
  obtain ⟨lv, lv2, hA, hM, _⟩ := h.both
  refine own_fr ho hF fun k hk => ?_
  obtain ⟨cs, hc⟩ := own_touch ho k hk
  exact not_touchD hc ⟨blk_ne hc hA.cel he.1, blk_ne hc hM.cel he.1⟩ he.2
/-- The ports' addresses, the chapter's ports' addresses; as many grants. -/
def PQ (ps qs : List (Nat × Int × Bool)) (pl ql : List Nat) : Prop := ∀ i, i < 3 → ∃ p q who g, pl[i]? = some p ∧ ql[i]? = some q ∧ ps[i]? = some (p, who, g) ∧ qs[i]? = some (q, who, g)
theorem PQ.set {pl ql : List Nat} (h : PQ ps qs pl ql) {i p q : Nat} {who : Int} {g g' : Bool} (hi : ps[i]? = some (p, who, g)) (hj : qs[i]? = some (q, who, g)) : PQ (ps.set i (p, who, g')) (qs.set i (q, who, g')) pl ql := by
  intro j hj3
  obtain ⟨p', q', who', g2, h1, h2, h3, h4⟩ := h j hj3
  by_cases e : i = j
  · subst e
    rw [hi] at h3
    rw [hj] at h4
    simp only [Option.some.injEq, Prod.mk.injEq] at h3 h4
    obtain ⟨rfl, rfl, rfl⟩ := h3
    obtain ⟨rfl, _, _⟩ := h4
    exact ⟨p, q, who, g', h1, h2, set_get hi, set_get hj⟩
  · exact ⟨p', q', who', g2, h1, h2, by rw [List.getElem?_set_ne e]; exact h3, by rw [List.getElem?_set_ne e]; exact h4⟩
end
def mk3 (l : List Nat) : List (Nat × Int × Bool) := List.zipWith (fun p who => (p, who, false)) l [0, 15, 7]
theorem mk3_snoc (l : List Nat) (h : l.length < 3) (x : Nat) : mk3 (l ++ [x]) = mk3 l ++ [(x, ([0, 15, 7] : List Int).getD l.length 0, false)] := by
  match l, h with
  | [], _ => rfl
  | [_], _ => rfl
  | [_, _], _ => rfl
theorem mk3_pq (pl ql : List Nat) (h1 : pl.length = 3) (h2 : ql.length = 3) : PQ (mk3 pl) (mk3 ql) pl ql := by
  match pl, ql, h1, h2 with
  | [p0, p1, p2], [q0, q1, q2], _, _ =>
    intro i hi
    match i, hi with
    | 0, _ => exact ⟨p0, q0, 0, false, rfl, rfl, rfl, rfl⟩
    | 1, _ => exact ⟨p1, q1, 15, false, rfl, rfl, rfl, rfl⟩
    | 2, _ => exact ⟨p2, q2, 7, false, rfl, rfl, rfl, rfl⟩
theorem whos (k : Nat) (h : k < 3) : ∃ who : Int, who = ([0, 15, 7] : List Int).getD k 0 ∧ 0 ≤ who ∧ who ≤ 15 ∧ (#[Value.int .i64 0, .int .i64 15, .int .i64 7] : Array Value)[k]? = some (.int .i64 who) := by
  match k, h with
  | 0, _ => exact ⟨0, rfl, by decide, by decide, rfl⟩
  | 1, _ => exact ⟨15, rfl, by decide, by decide, rfl⟩
  | 2, _ => exact ⟨7, rfl, by decide, by decide, rfl⟩
theorem Duo.grow {B : Nat} {w w' : World} {a c m c2 : Nat} {s t : AS} {ps qs : List (Nat × Int × Bool)} {e n : Nat} {v : Value} {xs : List Value} (h : Duo B w a c s ps m c2 t qs) (ho : w.ownsRow B e 1 v n xs) (hF : Fr (fun x => v.ownBlock = some x) w w') (he : e ≠ 23 ∧ e ≠ 70 ∧ e ≠ 72 ∧ e ≠ 76 ∧ e ≠ 56 ∧ e ≠ 62) : Duo B w' a c s ps m c2 t qs :=
  h.fr hF fun k hk hs => by
    obtain ⟨cs, hc⟩ := own_touch ho k hs
    obtain ⟨lv, lv2, hA, hM, _⟩ := h.both
    exact not_touchD hc ⟨blk_ne hc hA.cel he.1, blk_ne hc hM.cel he.1⟩ he.2
theorem row_far {B : Nat} {w w' : World} {e1 e2 n1 n2 : Nat} {v1 v2 : Value} {xs1 xs2 : List Value} (h1 : w.ownsRow B e1 1 v1 n1 xs1) (h2 : w.ownsRow B e2 1 v2 n2 xs2) (hF : Fr (fun x => v1.ownBlock = some x) w w') (he : e1 ≠ e2) : w'.ownsRow B e2 1 v2 n2 xs2 :=
  own_fr h2 hF fun k hk hs => by
    obtain ⟨cs, hc⟩ := own_touch h1 k hs
    obtain ⟨cs2, hc2⟩ := own_touch h2 k hk
    exact blk_ne hc hc2 he rfl
theorem blk_row {B k t : Nat} {w w' : World} {e1 n1 : Nat} {v1 : Value} {xs1 : List Value} {cs : Array Value} (h1 : w.ownsRow B e1 1 v1 n1 xs1) (h2 : w.heap[k]? = some (.cells cs t (0, 0))) (hF : Fr (fun x => v1.ownBlock = some x) w w') (he : e1 ≠ t) : w'.heap[k]? = some (.cells cs t (0, 0)) :=
  hF.blk h2 fun hs => by
    obtain ⟨cs2, hc⟩ := own_touch h1 k hs
    exact blk_ne hc h2 he rfl
theorem own_still {B e n : Nat} {w w' : World} {v : Value} {xs : List Value} (h : w.ownsRow B e 1 v n xs) (hF : Fr (fun _ => False) w w') : w'.ownsRow B e 1 v n xs := own_fr h hF fun _ _ h => h
theorem fr_app {w w' : World} {X : Obj} {v : Value} (g : (w.alloc X).grownBy w' v.ownBlock) : Fr (fun x => v.ownBlock = some x) w w' := ((Fr.refl _ w).alloc X).grown g (fun k hk => .inl hk)
theorem blk_new2 (w : World) (X Y : Obj) : ((w.alloc X).alloc Y).heap[w.heap.size + 1]? = some Y := by
  have h := Hp.blk_new (w.alloc X) Y
  rw [World.size_alloc] at h
  exact h
def ptrs (l : List Nat) : List Value := l.map fun x => .pointer (some ⟨x, 0, none⟩)
theorem ptrs_snoc (l : List Nat) (x : Nat) : ptrs (l ++ [x]) = ptrs l ++ [.pointer (some ⟨x, 0, none⟩)] := by simp [ptrs]
theorem ptr_cell {B e n : Nat} {w : World} {v : Value} {l : List Nat} (h : w.ownsRow B e 1 v n (ptrs l)) (hn : 0 < n) : ∃ g cap, v = .slice (some ⟨g, 0, none⟩) n cap ∧ (∃ cs, w.heap[g]? = some (.cells cs e (0, 0))) ∧ ∀ i x, i < n → l[i]? = some x → w.cell? ⟨g, i, none⟩ = some (.pointer (some ⟨x, 0, none⟩)) := by
  rcases h.2 with ⟨_, h2⟩ | ⟨g, cap, cur, rfl, h3, h4, h5, h6, h7, h8⟩
  · omega
  · refine ⟨g, cap, rfl, ⟨cur, h4⟩, fun i x hi hx => ?_⟩
    have e1 := congrArg (fun l => l[i]?) h8
    simp only [ptrs, List.getElem?_map] at e1
    rw [List.getElem?_take_of_lt (by omega), hx, Array.getElem?_toList] at e1
    simp [World.cell?, h4, e1]
theorem ptr_at {B e n g cap : Nat} {w : World} {l : List Nat} (h : w.ownsRow B e 1 (.slice (some ⟨g, 0, none⟩) n cap) n (ptrs l)) {i x : Nat} (hi : i < n) (hx : l[i]? = some x) : w.cell? ⟨g, i, none⟩ = some (.pointer (some ⟨x, 0, none⟩)) := by
  obtain ⟨g', cap', he, _, hc⟩ := ptr_cell h (by omega)
  injection he with h1 _ _
  injection h1 with h1
  injection h1 with h1 _ _
  subst h1
  exact hc i x hi hx
theorem mflt {B : Nat} {w : World} {a c m c2 : Nat} {s t : AS} {ps qs : List (Nat × Int × Bool)} (h : Duo B w a c s ps m c2 t qs) : w.cell? ⟨m, 2, none⟩ = some (.int .i64 t.faults) := by
  obtain ⟨lv, lv2, hA, hM, hd⟩ := h.both
  exact (Hp.blk_cell hM.blk 2 rfl).1
theorem mlogC {B : Nat} {w : World} {a c m c2 : Nat} {s t : AS} {ps qs : List (Nat × Int × Bool)} (h : Duo B w a c s ps m c2 t qs) (hl : t.log.length ≤ 1000) : ∃ A cap, w.cell? ⟨m, 1, none⟩ = some (.slice A t.log.length cap) ∧ t.log.length ≤ cap ∧ Kd.C k76 w A (t.log.map toS).length (t.log.map toS) := by
  obtain ⟨lv, lv2, hA, hM, hd⟩ := h.both
  have hc := (Hp.blk_cell hM.blk 1 (v := lv2) rfl).1
  obtain ⟨A, cap, rfl, h1, h2⟩ := c76_of_own hM.log hl
  exact ⟨A, cap, hc, h1, h2⟩
theorem mcelC {B : Nat} {w : World} {a c m c2 : Nat} {s t : AS} {ps qs : List (Nat × Int × Bool)} (h : Duo B w a c s ps m c2 t qs) : t.cells.length ≤ 4096 ∧ Kd.C (Kd.int .u64) w (some ⟨c2, 0, none⟩) t.cells.length t.cells := by
  obtain ⟨lv, lv2, hA, hM, hd⟩ := h.both
  refine ⟨hM.small, rfl, by have := hM.small; omega, fun _ => ⟨_, rfl, fun j p hp => ?_⟩⟩
  have hx := List.getElem?_eq_some_iff.1 hp
  obtain ⟨hj, hx⟩ := hx
  have h2 := ((mcell h).2 j hj).1
  refine ⟨[.int .u64 p], rfl, rfl, fun i u hu => ?_⟩
  match i, hu with
  | 0, hu =>
    have hu : some (Value.int .u64 p) = some u := hu
    rw [← hu, ← hx]
    have ha : (⟨c2, 0, none⟩ : Addr).add (j * (Kd.int .u64).sz + 0) = ⟨c2, j, none⟩ := by
      rw [show j * (Kd.int .u64).sz + 0 = j from Nat.mul_one j]
      simp [Addr.add]
      rintro rfl
      rfl
    rw [ha, h2]
    simp [List.getD_eq_getElem?_getD, hj]
theorem c76_nil (w : World) : Kd.C k76 w none 0 [] := ⟨rfl, by simp, fun h => absurd h (by simp)⟩
theorem drawn_still {w w' : World} (h : Drawn0 w w') : Below w.heap.size w w' := h.below
theorem Rel.short {K : Bool} {s t : AS} (h : Rel K s t) (hl : t.log.length ≤ 200) : s.log.length ≤ 200 := by
  rw [h.log]
  split
  · exact hl
  · simp


set_option maxHeartbeats 4000000 in
set_option maxRecDepth 100000 in
theorem plays_out (n : Int) (K : Bool) (A : Option Addr) (c0 : Nat) (rows : List S25) (w : World) (h : n < 1 ∨ 4096 < n) :
    Calls Try.prog 7 #[.int .i64 n, .bool K, .slice A rows.length c0] w fun e w' => e = .returned (.bool true) ∧ Below w.heap.size w w' := by
  have hB : Below w.heap.size w w := Below.refl _ _
  have hno := new_no w n K h
  by_cases h0 : n < 1
  · have g0 := decide_eq_true h0
    clear h
    go_enter Try.func7, Try.ntmps7
    go_wp2_with (first | (go_at_call 9; (refine (celledB _).mono ?_; rintro e w2 ⟨rfl, hb⟩; replace hB := hB.trans (hb.mono hB.size); clear hb)) | (go_at_call 10; (with_reducible refine hno.mono ?_; clear hno; rintro e w3 ⟨rfl, rfl⟩)))
    go_ret
    exact ⟨rfl, hB⟩
  · have g0 := decide_eq_false h0
    have g1 := decide_eq_true (p := 4096 < n) (by omega)
    clear h
    go_enter Try.func7, Try.ntmps7
    go_wp2_with (first | (go_at_call 9; (refine (celledB _).mono ?_; rintro e w2 ⟨rfl, hb⟩; replace hB := hB.trans (hb.mono hB.size); clear hb)) | (go_at_call 10; (with_reducible refine hno.mono ?_; clear hno; rintro e w3 ⟨rfl, rfl⟩)))
    go_ret
    exact ⟨rfl, hB⟩

set_option maxHeartbeats 1000000 in
set_option maxRecDepth 100000 in
theorem plays (N : Nat) (K : Bool) (A : Option Addr) (c0 : Nat) (rows : List S25) (w : World) (hN1 : 1 ≤ N) (hN2 : N ≤ 4096) (hr : Kd.C k25 w A rows.length rows) (hc0 : rows.length ≤ c0) :
    Calls Try.prog 7 #[.int .i64 N, .bool K, .slice A rows.length c0] w fun e w' => e = .returned (.bool true) ∧ Below w.heap.size w w' := by
  have hB : Below w.heap.size w w := Below.refl _ _
  have HR := Lib.hid hr
  have hmax : rows.length ≤ 9223372036854775807 := hr.2.1
  clear hr
  obtain ⟨i0, hi0, hz0, hz1, hz2⟩ := info_parts infoU
  obtain ⟨i1, hi1, hy0, hy1, hy2⟩ := info_parts infoPtr
  obtain ⟨i2, hi2, hx0, hx1, hx2⟩ := info_parts infoPtr2
  have hnew := sys_new w.heap.size w N K hN1 hN2 (Nat.le_refl _)
  go_enter Try.func7, Try.ntmps7
  go_wp2_with (first
    | (go_at_call 10; (with_reducible refine hnew.mono ?_; clear hnew; rintro e w3 ⟨a, c, rfl, hS, hb, ha, hc⟩; replace hB := hB.trans (hb.mono hB.size); (have HS := Lib.hid hS); clear hS hb))
    | (go_at_call 9; (refine (celledB _).mono ?_; rintro e w2 ⟨rfl, hb⟩; replace hB := hB.trans (hb.mono hB.size); replace HS := Lib.hid (HS.out.below hb); clear hb))
    | (go_at_call 29; ((have hm := HS.out.cells); rw [List.length_replicate] at hm; (with_reducible refine hm.mono ?_); clear hm; rintro e w4 ⟨rfl, rfl⟩))
    | (at_make; (refine wpList_make_full _ rfl _ _ 22 rfl w.heap.size 23 i0 (.int .u64 0) 1 Try.underlying22 hi0 hz0 hz1 _ _ _ _ N rfl rfl rfl rfl (by rw [hz2]; omega) (by unfold maxLen; omega) hB.size ?_; intro w1 own1 grow1)))
  have hsz0 := hB.size
  have hcl := HS.out.lt.2
  have hF1 : Fr (fun _ => False) w4 w1 := (Fr.refl _ w4).grown grow1 (fun k hk => by cases hk)
  have hb1 := frBel hF1
  replace HS := Lib.hid (HS.out.still hF1)
  replace hB := hB.trans (hb1.mono hB.size)
  have cel1 := own_full own1
  have hcc : c ≠ w4.heap.size := by omega
  clear own1 grow1 hcl
  have HD0 : Hid (Duo w.heap.size ((w1.alloc (.cells #[.slice (some ⟨w4.heap.size, 0, none⟩) N N, .slice none 0 0, .int .i64 0] 56)).alloc (.cells #[.int .i64 0, .int .i64 15, .int .i64 7] 3)) a c ⟨List.replicate N 0, [], K, 0, 0⟩ [] w1.heap.size w4.heap.size ⟨List.replicate N 0, [], true, 0, 0⟩ []) :=
    Lib.hid (((HS.out.alloc _).duo (Hp.blk_new w1 _) (by rw [Hp.blk_alloc cel1]; rw [show (madeCells (Value.int IntKind.u64 0).cells (N * 1)).toList = List.replicate N (Value.int IntKind.u64 0) from (by rw [Nat.mul_one]; exact toList_madeCells_one _ _)]; simp) hN2 hcc ⟨hB.size, hsz0⟩).alloc _)
  have hH : Hid (((w1.alloc (.cells #[.slice (some ⟨w4.heap.size, 0, none⟩) N N, .slice none 0 0, .int .i64 0] 56)).alloc (.cells #[.int .i64 0, .int .i64 15, .int .i64 7] 3)).heap[w1.heap.size + 1]? = some (.cells #[.int .i64 0, .int .i64 15, .int .i64 7] 3 (0, 0))) := Lib.hid (by have := Hp.blk_new (w1.alloc (.cells #[.slice (some ⟨w4.heap.size, 0, none⟩) N N, .slice none 0 0, .int .i64 0] 56)) (.cells #[.int .i64 0, .int .i64 15, .int .i64 7] 3); rw [World.size_alloc] at this; exact this)
  have HB0 : Hid (Below w.heap.size w ((w1.alloc (.cells #[.slice (some ⟨w4.heap.size, 0, none⟩) N N, .slice none 0 0, .int .i64 0] 56)).alloc (.cells #[.int .i64 0, .int .i64 15, .int .i64 7] 3))) := Lib.hid ((hB.alloc hB.size _).alloc (by have := hB.size; simp; omega) _)
  obtain ⟨m, hm⟩ : ∃ m, m = w1.heap.size := ⟨_, rfl⟩
  obtain ⟨c2, hc2⟩ : ∃ c2, c2 = w4.heap.size := ⟨_, rfl⟩
  obtain ⟨H, hHe⟩ : ∃ H, H = w1.heap.size + 1 := ⟨_, rfl⟩
  rw [← hHe] at hH ⊢
  rw [← hc2] at hH HB0
  rw [← hm, ← hc2] at HD0 ⊢
  clear HS hB hb1 hsz0 hF1 hcc cel1 ha hc hHe hm hc2
  go_loopw [10, 11, 13] (fun v1 v2 i wr => ∃ (k : Nat) (pl ql : List Nat), k ≤ 3 ∧ pl.length = k ∧ ql.length = k ∧ i = .int .i64 k ∧ Hid (Duo w.heap.size wr a c ⟨List.replicate N 0, [], K, 0, 0⟩ (mk3 pl) m c2 ⟨List.replicate N 0, [], true, 0, 0⟩ (mk3 ql)) ∧ Hid (wr.ownsRow w.heap.size 32 1 v1 k (ptrs pl)) ∧ Hid (wr.ownsRow w.heap.size 60 1 v2 k (ptrs ql)) ∧ Hid (wr.heap[H]? = some (.cells #[.int .i64 0, .int .i64 15, .int .i64 7] 3 (0, 0))) ∧ Hid (Below w.heap.size w wr)) (fun v1 v2 i _ => 3 - (intOf i).toNat)
  case atStart => exact ⟨0, [], [], by omega, rfl, rfl, rfl, HD0, Lib.hid (World.ownsRow_nil _ _ _ _), Lib.hid (World.ownsRow_nil _ _ _ _), hH, HB0⟩
  case round =>
    obtain ⟨k, pl, ql, hk, hpl, hql, rfl, HD, HP, HQ, HH, HB⟩ := hrel
    clear HD0 hH HB0

    by_cases hk3 : k < 3
    · obtain ⟨who, hwe, hw0, hw1, hwc⟩ := whos k hk3
      have HC := (Hp.blk_cell HH.out k hwc).1
      have HPo := Lib.hid (HD.out.port who hw0 hw1)
      have HW := Lib.hid hwe
      have HWC := Lib.hid hwc
      clear hwc hwe
      go_wp2_with (first
        | (go_at_call 12; (with_reducible refine HPo.out.mono ?_; clear HPo; rintro e w5 ⟨p, rfl, hD, hb⟩; (have hF5 := Hp.Fr.below (Fr.refl (fun _ => False) _) hb); replace HD := Lib.hid hD; replace HP := Lib.hid (own_still HP.out hF5); replace HQ := Lib.hid (own_still HQ.out hF5); replace HH := Lib.hid (hF5.blk HH.out (fun h => h)); replace HB := Lib.hid (HB.out.trans (hb.mono HB.out.size)); clear hD hb hF5 HC; (have HC := (Hp.blk_cell HH.out k HWC.out).1)))
        | (at_builtin; (refine wpList_append_own _ rfl _ _ 57 rfl w.heap.size 32 i1 _ 1 8 Try.underlying57 hi1 hy0 hy1 hy2 rfl (by decide) _ _ _ rfl (own_still HP.out ((Fr.refl _ _).alloc _)) ⟨w5.heap.size, 0, none⟩ 1 1 [.pointer (some ⟨p, 0, none⟩)] rfl rfl (World.news_of_block (Hp.blk_new w5 _)) (by simp [Value.oneCell']) (by unfold maxLen; omega) (by omega) (by have := HB.out.size; simp; omega) ?_; intro v6 w6 own6 grow6 _; (have hF6 := fr_app grow6); replace HD := Lib.hid (HD.out.grow HP.out hF6 (by decide)); replace HQ := Lib.hid (row_far HP.out HQ.out hF6 (by decide)); replace HH := Lib.hid (blk_row HP.out HH.out hF6 (by decide)); replace HB := Lib.hid (Fr.toBelow HB.out HB.out.size hF6 (fun k hk => (HP.out.lt k hk).1)); clear HC HP; (have HC := (Hp.blk_cell HH.out k HWC.out).1); (have HP := Lib.hid own6); clear own6 grow6 hF6))
        | (at_builtin; (refine wpList_append_own _ rfl _ _ 58 rfl w.heap.size 60 i2 _ 1 8 Try.underlying58 hi2 hx0 hx1 hx2 rfl (by decide) _ _ _ rfl (own_still HQ.out (((Fr.refl _ _).alloc _).alloc _)) ⟨w6.heap.size + 1, 0, none⟩ 1 1 [.pointer (some ⟨w6.heap.size, 0, none⟩)] rfl rfl (World.news_of_block (blk_new2 w6 _ _)) (by simp [Value.oneCell']) (by unfold maxLen; omega) (by omega) (by have := HB.out.size; simp; omega) ?_; intro v8 w8 own8 grow8 _; (have hF8 := fr_app grow8); (have hQ8 := own_still HQ.out ((Fr.refl _ _).alloc (.cells #[.int .i64 who, .bool false] 62))); (have hP8 := own_still HP.out ((Fr.refl _ _).alloc (.cells #[.int .i64 who, .bool false] 62))); replace HD := Lib.hid ((HD.out.side who).grow hQ8 hF8 (by decide)); replace HP := Lib.hid (row_far hQ8 hP8 hF8 (by decide)); replace HH := Lib.hid (blk_row hQ8 (Hp.blk_alloc HH.out _) hF8 (by decide)); replace HB := Lib.hid (Fr.toBelow (HB.out.alloc HB.out.size _) (by have := HB.out.size; simp; omega) hF8 (fun k hk => (hQ8.lt k hk).1)); clear HC HQ; (have HQ := Lib.hid own8); clear own8 grow8 hF8 hQ8 hP8)))
      go_roundw
      case rel =>
        refine ⟨k + 1, pl ++ [p], ql ++ [w6.heap.size], by omega, by simp [hpl], by simp [hql], by go_num, ?_, ?_, ?_, HH, HB⟩
        · rw [mk3_snoc pl (by omega), mk3_snoc ql (by omega), hpl, hql, ← HW.out]
          exact HD
        · rw [ptrs_snoc]
          exact HP
        · rw [ptrs_snoc]
          exact HQ
      case measure => simp [intOf]; omega
    · have h3 : (k : Int) = 3 := by omega
      simp only [h3]
      clear h3
      obtain rfl : k = 3 := by omega
      obtain ⟨g1, cap1, rfl, -, -⟩ := ptr_cell HP.out (by omega)
      obtain ⟨g2, cap2, rfl, -, -⟩ := ptr_cell HQ.out (by omega)
      have HPQ := Lib.hid (mk3_pq pl ql hpl hql)
      have HRL : Hid (Rel K ⟨List.replicate N 0, [], K, 0, 0⟩ ⟨List.replicate N 0, [], true, 0, 0⟩) := Lib.hid ⟨rfl, rfl, rfl, rfl, rfl, by cases K <;> rfl⟩
      clear HH hk3 hk hpl hql
      go_wp2_with (fail)
      go_loopw [16] (fun i wr => ∃ (k : Nat) (s t : AS) (ps qs : List (Nat × Int × Bool)), k ≤ rows.length ∧ k ≤ 200 ∧ i = .int .i64 k ∧ Hid (Duo w.heap.size wr a c s ps m c2 t qs) ∧ Hid (Below w.heap.size w wr) ∧ Hid (Rel K s t) ∧ Hid (t.log.length ≤ k) ∧ Hid (PQ ps qs pl ql) ∧ Hid (wr.ownsRow w.heap.size 32 1 (.slice (some ⟨g1, 0, none⟩) 3 cap1) 3 (ptrs pl)) ∧ Hid (wr.ownsRow w.heap.size 60 1 (.slice (some ⟨g2, 0, none⟩) 3 cap2) 3 (ptrs ql))) (fun i _ => 200 - (intOf i).toNat)
      case atStart => exact ⟨0, _, _, _, _, Nat.zero_le _, Nat.zero_le _, rfl, HD, HB, HRL, Lib.hid (Nat.zero_le _), HPQ, HP, HQ⟩
      case round =>
        obtain ⟨k, s, t, ps, qs, hk4, hk2, rfl, HD2, HB2, HR2, HTL, HPQ2, HP2, HQ2⟩ := hrel
        clear HD HB HRL HPQ HP HQ
        by_cases hend : k < rows.length ∧ k < 200
        · obtain ⟨hkr, hk3⟩ := hend
          have HCr := Kd.C_below HR.out HB2.out
          obtain ⟨ad1, hA, r0, r1, r2, r3, r4⟩ := at_T25 HCr (k : Int) (by omega) (by omega)
          subst hA
          clear HCr
          rw [Int.toNat_natCast] at r0 r1 r2 r3 r4
          obtain ⟨x, hx⟩ : ∃ x, x = rd_T25 rows (k : Int) := ⟨_, rfl⟩
          rw [← hx] at r0 r1 r2 r3 r4
          have HX := Lib.hid hx
          clear hx
          obtain ⟨f0, f1, f2, f3, f4⟩ := x
          simp only at r0 r1 r2 r3 r4
          obtain ⟨at_, hat, hatl⟩ := at_of f0 3 (by omega) (by omega)
          have hat' : wrap64 ((IntKind.u64.wrap f0).tmod 3) = (at_ : Int) := hat
          clear hat
          have hati : (at_ : Int) < 3 := by omega
          obtain ⟨p, q, who, g, hp1, hq1, hp2, hq2⟩ := HPQ2.out at_ hatl
          have hcp := ptr_at HP2.out hatl hp1
          have hcq := ptr_at HQ2.out hatl hq1
          have HP1 := Lib.hid hp1
          have HQ1 := Lib.hid hq1
          have HP0 := Lib.hid hp2
          have HQ0 := Lib.hid hq2
          clear hp1 hq1 hp2 hq2
          go_upto_region 22 with (fail)
          try simp only [List.append_eq, List.append, List.cons_append, List.nil_append]
          try rw [hat']
          clear hat'
          replace HD2 := Lib.hid HD2.out.drew
          replace HB2 := Lib.hid HB2.out.drew
          replace HP2 := Lib.hid (own_still HP2.out ((Fr.refl _ _).drew))
          replace HQ2 := Lib.hid (own_still HQ2.out ((Fr.refl _ _).drew))
          refine Rg.Upto.start (fun w' => (w'.cell? ⟨g1, at_, none⟩ = some (.pointer (some ⟨p, 0, none⟩)) ∧ w'.cell? ⟨g2, at_, none⟩ = some (.pointer (some ⟨q, 0, none⟩)) ∧ w'.cell? (ad1.add (k * 5)) = some (.int .i64 f0) ∧ w'.cell? ⟨(ad1.add (k * 5)).block, (ad1.add (k * 5)).off + 1, none⟩ = some (.int .i64 f1) ∧ w'.cell? ⟨(ad1.add (k * 5)).block, (ad1.add (k * 5)).off + 2, none⟩ = some (.int .i64 f2) ∧ w'.cell? ⟨(ad1.add (k * 5)).block, (ad1.add (k * 5)).off + 3, none⟩ = some (.int .u64 f3) ∧ w'.cell? ⟨(ad1.add (k * 5)).block, (ad1.add (k * 5)).off + 4, none⟩ = some (.int .u64 f4))) 1000 (by kernel_rfl) ⟨hcp, hcq, r0, r1, r2, r3, r4⟩ (fun HS => ?_)
          have HSC := HS
          clear HS hcp hcq r0 r1 r2 r3 r4
          refine Rg.Upto.takeA (i := 0) (v := ?_) rfl (by kernel_rfl) (by kernel_rfl) (by kernel_rfl) (of_decide_eq_true (by kernel_rfl)) (fun _ _ _ h => h) (by rfl) (fun w5 hS5 => ?_) HSC ?_
          rotate_left
          · obtain ⟨s1, s2, q0, q1, q2, q3, q4⟩ := hS5
            go_simp
            try rfl
          try simp only [Act.put, List.setIfInBounds_toArray, List.set_cons_zero, List.set_cons_succ]
          refine Rg.Upto.takeA (i := 1) (v := ?_) rfl (by kernel_rfl) (by kernel_rfl) (by kernel_rfl) (of_decide_eq_true (by kernel_rfl)) (fun _ _ _ h => h) (by rfl) (fun w5 hS5 => ?_) HSC ?_
          rotate_left
          · obtain ⟨s1, s2, q0, q1, q2, q3, q4⟩ := hS5
            go_simp
            try rfl
          try simp only [Act.put, List.setIfInBounds_toArray, List.set_cons_zero, List.set_cons_succ]
          refine Rg.Upto.takeA (i := 2) (v := ?_) rfl (by kernel_rfl) (by kernel_rfl) (by kernel_rfl) (of_decide_eq_true (by kernel_rfl)) (fun _ _ _ h => h) (by rfl) (fun w5 hS5 => ?_) HSC ?_
          rotate_left
          · obtain ⟨s1, s2, q0, q1, q2, q3, q4⟩ := hS5
            go_simp
            try rfl
          try simp only [Act.put, List.setIfInBounds_toArray, List.set_cons_zero, List.set_cons_succ]
          refine Rg.Upto.takeA (i := 3) (v := ?_) rfl (by kernel_rfl) (by kernel_rfl) (by kernel_rfl) (of_decide_eq_true (by kernel_rfl)) (fun _ _ _ h => h) (by rfl) (fun w5 hS5 => ?_) HSC ?_
          rotate_left
          · obtain ⟨s1, s2, q0, q1, q2, q3, q4⟩ := hS5
            go_simp
            try rfl
          try simp only [Act.put, List.setIfInBounds_toArray, List.set_cons_zero, List.set_cons_succ]
          refine Rg.Upto.takeA (i := 4) (v := ?_) rfl (by kernel_rfl) (by kernel_rfl) (by kernel_rfl) (of_decide_eq_true (by kernel_rfl)) (fun _ _ _ h => h) (by rfl) (fun w5 hS5 => ?_) HSC ?_
          rotate_left
          · obtain ⟨s1, s2, q0, q1, q2, q3, q4⟩ := hS5
            go_simp
            try rfl
          try simp only [Act.put, List.setIfInBounds_toArray, List.set_cons_zero, List.set_cons_succ]
          refine Rg.Upto.takeA (i := 5) (v := ?_) rfl (by kernel_rfl) (by kernel_rfl) (by kernel_rfl) (of_decide_eq_true (by kernel_rfl)) (fun _ _ _ h => h) (by rfl) (fun w5 hS5 => ?_) HSC ?_
          rotate_left
          · obtain ⟨s1, s2, q0, q1, q2, q3, q4⟩ := hS5
            go_simp
            try rfl
          try simp only [Act.put, List.setIfInBounds_toArray, List.set_cons_zero, List.set_cons_succ]
          refine Rg.Upto.takeA (i := 6) (v := ?_) rfl (by kernel_rfl) (by kernel_rfl) (by kernel_rfl) (of_decide_eq_true (by kernel_rfl)) (fun _ _ _ h => h) (by rfl) (fun w5 hS5 => ?_) HSC ?_
          rotate_left
          · obtain ⟨s1, s2, q0, q1, q2, q3, q4⟩ := hS5
            go_simp
            try rfl
          try simp only [Act.put, List.setIfInBounds_toArray, List.set_cons_zero, List.set_cons_succ]
          refine Rg.Upto.takeA (i := 7) (v := ?_) rfl (by kernel_rfl) (by kernel_rfl) (by kernel_rfl) (of_decide_eq_true (by kernel_rfl)) (fun _ _ _ h => h) (by rfl) (fun w5 hS5 => ?_) HSC ?_
          rotate_left
          · obtain ⟨s1, s2, q0, q1, q2, q3, q4⟩ := hS5
            go_simp
            try rfl
          try simp only [Act.put, List.setIfInBounds_toArray, List.set_cons_zero, List.set_cons_succ]
          refine Rg.Upto.takeA (i := 8) (v := ?_) rfl (by kernel_rfl) (by kernel_rfl) (by kernel_rfl) (of_decide_eq_true (by kernel_rfl)) (fun _ _ _ h => h) (by rfl) (fun w5 hS5 => ?_) HSC ?_
          rotate_left
          · obtain ⟨s1, s2, q0, q1, q2, q3, q4⟩ := hS5
            go_simp
            try rfl
          try simp only [Act.put, List.setIfInBounds_toArray, List.set_cons_zero, List.set_cons_succ]
          refine Rg.Upto.takeA (i := 9) (v := ?_) rfl (by kernel_rfl) (by kernel_rfl) (by kernel_rfl) (of_decide_eq_true (by kernel_rfl)) (fun _ _ _ h => h) (by rfl) (fun w5 hS5 => ?_) HSC ?_
          rotate_left
          · obtain ⟨s1, s2, q0, q1, q2, q3, q4⟩ := hS5
            go_simp
            try rfl
          try simp only [Act.put, List.setIfInBounds_toArray, List.set_cons_zero, List.set_cons_succ]
          refine Rg.Upto.takeA (i := 10) (v := ?_) rfl (by kernel_rfl) (by kernel_rfl) (by kernel_rfl) (of_decide_eq_true (by kernel_rfl)) (fun _ _ _ h => h) (by rfl) (fun w5 hS5 => ?_) HSC ?_
          rotate_left
          · obtain ⟨s1, s2, q0, q1, q2, q3, q4⟩ := hS5
            go_simp
            try rfl
          try simp only [Act.put, List.setIfInBounds_toArray, List.set_cons_zero, List.set_cons_succ]
          refine Rg.Upto.takeA (i := 11) (v := ?_) rfl (by kernel_rfl) (by kernel_rfl) (by kernel_rfl) (of_decide_eq_true (by kernel_rfl)) (fun _ _ _ h => h) (by rfl) (fun w5 hS5 => ?_) HSC ?_
          rotate_left
          · obtain ⟨s1, s2, q0, q1, q2, q3, q4⟩ := hS5
            go_simp
            try rfl
          try simp only [Act.put, List.setIfInBounds_toArray, List.set_cons_zero, List.set_cons_succ]
          refine Rg.Upto.takeA (i := 12) (v := ?_) rfl (by kernel_rfl) (by kernel_rfl) (by kernel_rfl) (of_decide_eq_true (by kernel_rfl)) (fun _ _ _ h => h) (by rfl) (fun w5 hS5 => ?_) HSC ?_
          rotate_left
          · obtain ⟨s1, s2, q0, q1, q2, q3, q4⟩ := hS5
            go_simp
            try rfl
          try simp only [Act.put, List.setIfInBounds_toArray, List.set_cons_zero, List.set_cons_succ]
          refine Rg.Upto.takeA (i := 13) (v := ?_) rfl (by kernel_rfl) (by kernel_rfl) (by kernel_rfl) (of_decide_eq_true (by kernel_rfl)) (fun _ _ _ h => h) (by rfl) (fun w5 hS5 => ?_) HSC ?_
          rotate_left
          · obtain ⟨s1, s2, q0, q1, q2, q3, q4⟩ := hS5
            go_simp
            try rfl
          try simp only [Act.put, List.setIfInBounds_toArray, List.set_cons_zero, List.set_cons_succ]
          refine Rg.Upto.one (i := 14) rfl (by kernel_rfl) (by rfl) (fun KK hK => ?_)
          go_simp
          refine (one_all K w.heap.size _ a c m c2 at_ p q s t ps qs who g f0 f1 f2 f3 f4 HD2.out HP0.out HQ0.out HR2.out (by have := HTL.out; omega)).mono ?_
          rintro e w5 ⟨rfl, sB, tB, g2', hD, hR3, hl3⟩
          have HB3 := Lib.hid (HB2.out.trans hD.bel)
          have HP3 := Lib.hid (ptr_kept (S := fun _ => False) HD2.out hD.fr HP2.out (by decide))
          have HQ3 := Lib.hid (ptr_kept (S := fun _ => False) HD2.out hD.fr HQ2.out (by decide))
          have HCr := Kd.C_below HR.out HB3.out
          obtain ⟨ad2, hA, r0, r1, r2, r3, r4⟩ := at_T25 HCr (k : Int) (by omega) (by omega)
          obtain rfl := Option.some.inj hA
          rw [Int.toNat_natCast, ← HX.out] at r0 r1 r2 r3 r4
          simp only at r0 r1 r2 r3 r4
          have HSC2 := And.intro (ptr_at HP3.out hatl HP1.out) (And.intro (ptr_at HQ3.out hatl HQ1.out) (And.intro r0 (And.intro r1 (And.intro r2 (And.intro r3 r4)))))
          refine hK.out _ _ HSC2 ?_
          clear hK KK HSC
          have HD3 := Lib.hid hD.duo
          have HR3 := Lib.hid hR3
          have HTL3 := Lib.hid hl3
          obtain ⟨A9, cap9, hml⟩ := mlog hD.duo
          have hmf := mflt hD.duo
          obtain ⟨L, hL⟩ : ∃ L, L = tB.log.length := ⟨_, rfl⟩
          obtain ⟨F, hF⟩ : ∃ F, F = tB.faults := ⟨_, rfl⟩
          rw [← hL] at hml
          rw [← hF] at hmf
          have HL := Lib.hid hL
          have HF := Lib.hid hF
          have HSC : (w5.cell? ⟨g1, at_, none⟩ = some (.pointer (some ⟨p, 0, none⟩)) ∧ w5.cell? ⟨g2, at_, none⟩ = some (.pointer (some ⟨q, 0, none⟩)) ∧ w5.cell? (ad1.add (k * 5)) = some (.int .i64 f0) ∧ w5.cell? ⟨(ad1.add (k * 5)).block, (ad1.add (k * 5)).off + 1, none⟩ = some (.int .i64 f1) ∧ w5.cell? ⟨(ad1.add (k * 5)).block, (ad1.add (k * 5)).off + 2, none⟩ = some (.int .i64 f2) ∧ w5.cell? ⟨(ad1.add (k * 5)).block, (ad1.add (k * 5)).off + 3, none⟩ = some (.int .u64 f3) ∧ w5.cell? ⟨(ad1.add (k * 5)).block, (ad1.add (k * 5)).off + 4, none⟩ = some (.int .u64 f4)) ∧ w5.cell? ⟨m, 1, none⟩ = some (.slice A9 L cap9) ∧ w5.cell? ⟨m, 2, none⟩ = some (.int .i64 F) := ⟨HSC2, hml, hmf⟩
          clear hD hR3 hl3 hA HCr r0 r1 r2 r3 r4 HSC2 hml hmf hL hF
          try simp only [Act.put, List.setIfInBounds_toArray, List.set_cons_zero, List.set_cons_succ]
          refine Rg.Upto.more (S' := fun w' => (w'.cell? ⟨g1, at_, none⟩ = some (.pointer (some ⟨p, 0, none⟩)) ∧ w'.cell? ⟨g2, at_, none⟩ = some (.pointer (some ⟨q, 0, none⟩)) ∧ w'.cell? (ad1.add (k * 5)) = some (.int .i64 f0) ∧ w'.cell? ⟨(ad1.add (k * 5)).block, (ad1.add (k * 5)).off + 1, none⟩ = some (.int .i64 f1) ∧ w'.cell? ⟨(ad1.add (k * 5)).block, (ad1.add (k * 5)).off + 2, none⟩ = some (.int .i64 f2) ∧ w'.cell? ⟨(ad1.add (k * 5)).block, (ad1.add (k * 5)).off + 3, none⟩ = some (.int .u64 f3) ∧ w'.cell? ⟨(ad1.add (k * 5)).block, (ad1.add (k * 5)).off + 4, none⟩ = some (.int .u64 f4)) ∧ w'.cell? ⟨m, 1, none⟩ = some (.slice A9 L cap9) ∧ w'.cell? ⟨m, 2, none⟩ = some (.int .i64 F)) (fun w' h => h.1) _ _ _ _ ?_
          refine Rg.Upto.one (i := 15) rfl (by kernel_rfl) (by rfl) (fun KK hK => ?_)
          go_simp
          try simp only [bne_self_eq_false, Bool.not_true, Bool.not_false]
          refine hK.out _ _ HSC ?_
          clear hK KK
          try simp only [Act.put, List.setIfInBounds_toArray, List.set_cons_zero, List.set_cons_succ]
          refine Rg.Upto.one (i := 16) rfl (by kernel_rfl) (by rfl) (fun KK hK => ?_)
          go_simp
          try simp only [bne_self_eq_false, Bool.not_true, Bool.not_false]
          refine hK.out _ _ HSC ?_
          clear hK KK
          try simp only [Act.put, List.setIfInBounds_toArray, List.set_cons_zero, List.set_cons_succ]
          refine Rg.Upto.takeA (i := 17) (v := ?_) rfl (by kernel_rfl) (by kernel_rfl) (by kernel_rfl) (of_decide_eq_true (by kernel_rfl)) (fun _ _ _ h => h) (by rfl) (fun w5 hS5 => ?_) HSC ?_
          rotate_left
          · obtain ⟨_, s1, s2⟩ := hS5
            go_simp
            try rfl
          try simp only [Act.put, List.setIfInBounds_toArray, List.set_cons_zero, List.set_cons_succ]
          refine Rg.Upto.takeA (i := 19) (v := ?_) rfl (by kernel_rfl) (by kernel_rfl) (by kernel_rfl) (of_decide_eq_true (by kernel_rfl)) (fun _ _ _ h => h) (by rfl) (fun w5 hS5 => ?_) HSC ?_
          rotate_left
          · obtain ⟨_, s1, s2⟩ := hS5
            go_simp
            try rfl
          try simp only [Act.put, List.setIfInBounds_toArray, List.set_cons_zero, List.set_cons_succ]
          refine Rg.Upto.takeA (i := 20) (v := ?_) rfl (by kernel_rfl) (by kernel_rfl) (by kernel_rfl) (of_decide_eq_true (by kernel_rfl)) (fun _ _ _ h => h) (by rfl) (fun w5 hS5 => ?_) HSC ?_
          rotate_left
          · obtain ⟨_, s1, s2⟩ := hS5
            go_simp
            try rfl
          try simp only [Act.put, List.setIfInBounds_toArray, List.set_cons_zero, List.set_cons_succ]
          refine Rg.Upto.takeA (i := 21) (v := ?_) rfl (by kernel_rfl) (by kernel_rfl) (by kernel_rfl) (of_decide_eq_true (by kernel_rfl)) (fun _ _ _ h => h) (by rfl) (fun w5 hS5 => ?_) HSC ?_
          rotate_left
          · obtain ⟨_, s1, s2⟩ := hS5
            go_simp
            try rfl
          try simp only [Act.put, List.setIfInBounds_toArray, List.set_cons_zero, List.set_cons_succ]
          refine Rg.Upto.takeA (i := 22) (v := ?_) rfl (by kernel_rfl) (by kernel_rfl) (by kernel_rfl) (of_decide_eq_true (by kernel_rfl)) (fun _ _ _ h => h) (by rfl) (fun w5 hS5 => ?_) HSC ?_
          rotate_left
          · obtain ⟨_, s1, s2⟩ := hS5
            go_simp
            try rfl
          try simp only [Act.put, List.setIfInBounds_toArray, List.set_cons_zero, List.set_cons_succ]
          refine Rg.Upto.one (i := 18) rfl (by kernel_rfl) (by rfl) (fun KK hK => ?_)
          go_simp
          have hm := HD3.out.sys.faults
          rw [HR3.out.faults, ← HF.out] at hm
          refine hm.mono ?_
          clear hm
          rintro e w8 ⟨rfl, rfl⟩
          refine hK.out _ _ HSC ?_
          clear hK KK
          try simp only [Act.put, List.setIfInBounds_toArray, List.set_cons_zero, List.set_cons_succ]
          refine Rg.Upto.one (i := 23) rfl (by kernel_rfl) (by rfl) (fun KK hK => ?_)
          go_simp
          try simp only [bne_self_eq_false, Bool.not_true, Bool.not_false]
          refine hK.out _ _ HSC ?_
          clear hK KK
          try simp only [Act.put, List.setIfInBounds_toArray, List.set_cons_zero, List.set_cons_succ]
          refine Rg.Upto.one (i := 24) rfl (by kernel_rfl) (by rfl) (fun KK hK => ?_)
          go_simp
          try simp only [bne_self_eq_false, Bool.not_true, Bool.not_false]
          refine hK.out _ _ HSC ?_
          clear hK KK
          try simp only [Act.put, List.setIfInBounds_toArray, List.set_cons_zero, List.set_cons_succ]
          refine Rg.Upto.one (i := 25) rfl (by kernel_rfl) (by rfl) (fun KK hK => ?_)
          go_simp
          try simp only [bne_self_eq_false, Bool.not_true, Bool.not_false]
          refine hK.out _ _ HSC ?_
          clear hK KK
          try simp only [Act.put, List.setIfInBounds_toArray, List.set_cons_zero, List.set_cons_succ]
          refine Rg.Upto.takeA (i := 26) (v := ?_) rfl (by kernel_rfl) (by kernel_rfl) (by kernel_rfl) (of_decide_eq_true (by kernel_rfl)) (fun _ _ _ h => h) (by rfl) (fun w5 hS5 => ?_) HSC ?_
          rotate_left
          · obtain ⟨_, s1, s2⟩ := hS5
            go_simp
            try rfl
          try simp only [Act.put, List.setIfInBounds_toArray, List.set_cons_zero, List.set_cons_succ]
          refine Rg.Upto.takeA (i := 28) (v := ?_) rfl (by kernel_rfl) (by kernel_rfl) (by kernel_rfl) (of_decide_eq_true (by kernel_rfl)) (fun _ _ _ h => h) (by rfl) (fun w5 hS5 => ?_) HSC ?_
          rotate_left
          · obtain ⟨_, s1, s2⟩ := hS5
            go_simp
            try rfl
          try simp only [Act.put, List.setIfInBounds_toArray, List.set_cons_zero, List.set_cons_succ]
          refine Rg.Upto.takeA (i := 29) (v := ?_) rfl (by kernel_rfl) (by kernel_rfl) (by kernel_rfl) (of_decide_eq_true (by kernel_rfl)) (fun _ _ _ h => h) (by rfl) (fun w5 hS5 => ?_) HSC ?_
          rotate_left
          · obtain ⟨_, s1, s2⟩ := hS5
            go_simp
            try rfl
          try simp only [Act.put, List.setIfInBounds_toArray, List.set_cons_zero, List.set_cons_succ]
          refine Rg.Upto.takeA (i := 30) (v := ?_) rfl (by kernel_rfl) (by kernel_rfl) (by kernel_rfl) (of_decide_eq_true (by kernel_rfl)) (fun _ _ _ h => h) (by rfl) (fun w5 hS5 => ?_) HSC ?_
          rotate_left
          · obtain ⟨_, s1, s2⟩ := hS5
            go_simp
            try rfl
          try simp only [Act.put, List.setIfInBounds_toArray, List.set_cons_zero, List.set_cons_succ]
          refine Rg.Upto.takeA (i := 31) (v := ?_) rfl (by kernel_rfl) (by kernel_rfl) (by kernel_rfl) (of_decide_eq_true (by kernel_rfl)) (fun _ _ _ h => h) (by rfl) (fun w5 hS5 => ?_) HSC ?_
          rotate_left
          · obtain ⟨_, s1, s2⟩ := hS5
            go_simp
            try rfl
          try simp only [Act.put, List.setIfInBounds_toArray, List.set_cons_zero, List.set_cons_succ]
          refine Rg.Upto.takeA (i := 32) (v := ?_) rfl (by kernel_rfl) (by kernel_rfl) (by kernel_rfl) (of_decide_eq_true (by kernel_rfl)) (fun _ _ _ h => h) (by rfl) (fun w5 hS5 => ?_) HSC ?_
          rotate_left
          · obtain ⟨_, s1, s2⟩ := hS5
            go_simp
            try rfl
          try simp only [Act.put, List.setIfInBounds_toArray, List.set_cons_zero, List.set_cons_succ]
          refine Rg.Upto.one (i := 27) rfl (by kernel_rfl) (by rfl) (fun KK hK => ?_)
          go_simp
          have hm := HD3.out.sys.count
          rw [HR3.out.count, ← HL.out] at hm
          refine hm.mono ?_
          clear hm
          rintro e w8 ⟨rfl, rfl⟩
          refine hK.out _ _ HSC ?_
          clear hK KK
          try simp only [Act.put, List.setIfInBounds_toArray, List.set_cons_zero, List.set_cons_succ]
          refine Rg.Upto.one (i := 33) rfl (by kernel_rfl) (by rfl) (fun KK hK => ?_)
          go_simp
          try simp only [bne_self_eq_false, Bool.not_true, Bool.not_false]
          refine hK.out _ _ HSC ?_
          clear hK KK
          try simp only [Act.put, List.setIfInBounds_toArray, List.set_cons_zero, List.set_cons_succ]
          refine Rg.Upto.one (i := 34) rfl (by kernel_rfl) (by rfl) (fun KK hK => ?_)
          go_simp
          try simp only [bne_self_eq_false, Bool.not_true, Bool.not_false]
          refine hK.out _ _ HSC ?_
          clear hK KK
          try simp only [Act.put, List.setIfInBounds_toArray, List.set_cons_zero, List.set_cons_succ]
          refine Rg.Upto.done (by kernel_rfl) ?_
          clear HSC
          go_wp2_with (fail)
          go_roundw
          case rel =>
            refine ⟨k + 1, sB, tB, _, _, by omega, by omega, by go_num, HD3, HB3, HR3, Lib.hid (by have := HTL3.out; have := HTL.out; omega), Lib.hid (HPQ2.out.set HP0.out HQ0.out), HP3, HQ3⟩
          case measure => simp [intOf]; omega
        · have hw2 : (rows.length ≤ k) ∨ (k < rows.length ∧ 200 ≤ k) := by omega
          clear hend HP2 HQ2 HPQ2
          have htl : t.log.length ≤ 200 := by have := HTL.out; omega
          have hsl := HR2.out.short htl
          have HTl := Lib.hid htl
          have HSl := Lib.hid hsl
          obtain ⟨sl, hsl2⟩ : ∃ n, n = s.log.length := ⟨_, rfl⟩
          obtain ⟨L, hL⟩ : ∃ n, n = t.log.length := ⟨_, rfl⟩
          obtain ⟨CL, hCL⟩ : ∃ n, n = t.cells.length := ⟨_, rfl⟩
          have HSL := Lib.hid hsl2
          have HL := Lib.hid hL
          have HCL := Lib.hid hCL
          obtain ⟨kk, hkk⟩ := log_same (s.log.map toS) (by rw [List.length_map]; omega)
          obtain ⟨kw, hkw⟩ := words_same t.cells (by have := (mcelC HD2.out).1; omega)
          have HKK := Lib.hid hkk
          have HKW := Lib.hid hkw
          clear htl hsl hsl2 hL hCL hkk hkw
          rcases hw2 with hw2 | ⟨hw2, hw3⟩
          all_goals
            cases K
            · have hlog : s.log = [] := HR2.out.log
              have HLG := Lib.hid hlog
              clear hlog
              go_upto_region 28 with (first | (go_at_call 31; ((have hm := HD2.out.sys.logged HSl.out); rw [← HSL.out] at hm; (with_reducible refine hm.mono ?_); clear hm; rintro e w6 ⟨v6, rfl, hown6, hb6⟩; rw [HSL.out] at hown6; (obtain ⟨A6, cap6, rfl, hcap6, hc6⟩ := c76_of_own hown6 (by have := HSl.out; omega)); rw [← HSL.out] at hcap6; rw [← HSL.out]; replace HB2 := Lib.hid (HB2.out.trans (hb6.mono HB2.out.size)); replace HD2 := Lib.hid (HD2.out.below hb6); (have HC6 := Lib.hid hc6); (have HCP6 := Lib.hid hcap6); (obtain ⟨A9, cap9, hml, hcap9, hc9⟩ := mlogC HD2.out (by have := HTl.out; omega)); rw [← HL.out] at hml hcap9; (have HC9 := Lib.hid hc9); (have HCP9 := Lib.hid hcap9); clear hown6 hb6 hc6 hcap6 hc9 hcap9)))
              try simp only [List.append_eq, List.append, List.cons_append, List.nil_append]
              try clear hml
              replace HD2 := Lib.hid HD2.out.drew
              replace HB2 := Lib.hid HB2.out.drew
              replace HC6 := Lib.hid (Kd.C_below HC6.out (Below.refl _ _).drew)
              replace HC9 := Lib.hid (Kd.C_below HC9.out (Below.refl _ _).drew)
              have hm0 := (mcell HD2.out).1
              rw [← HCL.out] at hm0
              refine Rg.Upto.start (fun w' => w'.cell? ⟨m, 0, none⟩ = some (.slice (some ⟨c2, 0, none⟩) CL CL)) 1000 (by kernel_rfl) hm0 (fun HS => ?_)
              have HSC := HS
              clear HS hm0
              refine Rg.Upto.takeA (i := 0) (v := ?_) rfl (by kernel_rfl) (by kernel_rfl) (by kernel_rfl) (of_decide_eq_true (by kernel_rfl)) (fun _ _ _ h => h) (by rfl) (fun w5 hS5 => ?_) HSC ?_
              rotate_left
              · obtain s1 := hS5
                go_simp
                try rfl
              try simp only [Act.put, List.setIfInBounds_toArray, List.set_cons_zero, List.set_cons_succ]
              refine Rg.Upto.takeA (i := 1) (v := ?_) rfl (by kernel_rfl) (by kernel_rfl) (by kernel_rfl) (of_decide_eq_true (by kernel_rfl)) (fun _ _ _ h => h) (by rfl) (fun w5 hS5 => ?_) HSC ?_
              rotate_left
              · obtain s1 := hS5
                go_simp
                try rfl
              try simp only [Act.put, List.setIfInBounds_toArray, List.set_cons_zero, List.set_cons_succ]
              refine Rg.Upto.takeA (i := 2) (v := ?_) rfl (by kernel_rfl) (by kernel_rfl) (by kernel_rfl) (of_decide_eq_true (by kernel_rfl)) (fun _ _ _ h => h) (by rfl) (fun w5 hS5 => ?_) HSC ?_
              rotate_left
              · obtain s1 := hS5
                go_simp
                try rfl
              try simp only [Act.put, List.setIfInBounds_toArray, List.set_cons_zero, List.set_cons_succ]
              refine Rg.Upto.takeA (i := 3) (v := ?_) rfl (by kernel_rfl) (by kernel_rfl) (by kernel_rfl) (of_decide_eq_true (by kernel_rfl)) (fun _ _ _ h => h) (by rfl) (fun w5 hS5 => ?_) HSC ?_
              rotate_left
              · obtain s1 := hS5
                go_simp
                try rfl
              try simp only [Act.put, List.setIfInBounds_toArray, List.set_cons_zero, List.set_cons_succ]
              refine Rg.Upto.one (i := 4) rfl (by kernel_rfl) (by rfl) (fun KK hK => ?_)
              go_simp
              have hm := windrowref03_SameLog.calls kk A6 cap6 (s.log.map toS) none 0 [] true _ HC6.out (by rw [List.length_map, ← HSL.out]; exact HCP6.out) (c76_nil _) (Nat.le_refl _) (by have h := HKK.out; rw [HLG.out] at h ⊢; exact h)
              rw [List.length_map, ← HSL.out] at hm
              refine hm.mono ?_
              clear hm
              rintro e w8 ⟨rfl, hd8⟩
              have hb8 := hd8.below
              clear hd8
              replace HB2 := Lib.hid (HB2.out.trans (hb8.mono HB2.out.size))
              replace HD2 := Lib.hid (HD2.out.below hb8)
              clear hb8 HC6 HC9
              have hm0 := (mcell HD2.out).1
              rw [← HCL.out] at hm0
              refine hK.out _ _ hm0 ?_
              clear hK KK HSC
              have HSC := hm0
              clear hm0
              try simp only [Act.put, List.setIfInBounds_toArray, List.set_cons_zero, List.set_cons_succ]
              refine Rg.Upto.one (i := 5) rfl (by kernel_rfl) (by rfl) (fun KK hK => ?_)
              go_simp
              try simp only [bne_self_eq_false, Bool.not_true, Bool.not_false]
              refine hK.out _ _ HSC ?_
              clear hK KK
              try simp only [Act.put, List.setIfInBounds_toArray, List.set_cons_zero, List.set_cons_succ]
              refine Rg.Upto.one (i := 6) rfl (by kernel_rfl) (by rfl) (fun KK hK => ?_)
              go_simp
              try simp only [bne_self_eq_false, Bool.not_true, Bool.not_false]
              refine hK.out _ _ HSC ?_
              clear hK KK
              try simp only [Act.put, List.setIfInBounds_toArray, List.set_cons_zero, List.set_cons_succ]
              refine Rg.Upto.takeA (i := 7) (v := ?_) rfl (by kernel_rfl) (by kernel_rfl) (by kernel_rfl) (of_decide_eq_true (by kernel_rfl)) (fun _ _ _ h => h) (by rfl) (fun w5 hS5 => ?_) HSC ?_
              rotate_left
              · obtain s1 := hS5
                go_simp
                try rfl
              try simp only [Act.put, List.setIfInBounds_toArray, List.set_cons_zero, List.set_cons_succ]
              refine Rg.Upto.takeA (i := 9) (v := ?_) rfl (by kernel_rfl) (by kernel_rfl) (by kernel_rfl) (of_decide_eq_true (by kernel_rfl)) (fun _ _ _ h => h) (by rfl) (fun w5 hS5 => ?_) HSC ?_
              rotate_left
              · obtain s1 := hS5
                go_simp
                try rfl
              try simp only [Act.put, List.setIfInBounds_toArray, List.set_cons_zero, List.set_cons_succ]
              refine Rg.Upto.takeA (i := 10) (v := ?_) rfl (by kernel_rfl) (by kernel_rfl) (by kernel_rfl) (of_decide_eq_true (by kernel_rfl)) (fun _ _ _ h => h) (by rfl) (fun w5 hS5 => ?_) HSC ?_
              rotate_left
              · obtain s1 := hS5
                go_simp
                try rfl
              try simp only [Act.put, List.setIfInBounds_toArray, List.set_cons_zero, List.set_cons_succ]
              refine Rg.Upto.takeA (i := 11) (v := ?_) rfl (by kernel_rfl) (by kernel_rfl) (by kernel_rfl) (of_decide_eq_true (by kernel_rfl)) (fun _ _ _ h => h) (by rfl) (fun w5 hS5 => ?_) HSC ?_
              rotate_left
              · obtain s1 := hS5
                go_simp
                try rfl
              try simp only [Act.put, List.setIfInBounds_toArray, List.set_cons_zero, List.set_cons_succ]
              refine Rg.Upto.takeA (i := 12) (v := ?_) rfl (by kernel_rfl) (by kernel_rfl) (by kernel_rfl) (of_decide_eq_true (by kernel_rfl)) (fun _ _ _ h => h) (by rfl) (fun w5 hS5 => ?_) HSC ?_
              rotate_left
              · obtain s1 := hS5
                go_simp
                try rfl
              try simp only [Act.put, List.setIfInBounds_toArray, List.set_cons_zero, List.set_cons_succ]
              refine Rg.Upto.one (i := 8) rfl (by kernel_rfl) (by rfl) (fun KK hK => ?_)
              go_simp
              have hm := HD2.out.sys.image
              rw [HR2.out.cells] at hm
              refine hm.mono ?_
              clear hm
              rintro e w9 ⟨v9, rfl, hown9, hF9⟩
              obtain ⟨AI, capI, rfl, hcapI, hCI⟩ := imageC0 hown9
              rw [← HCL.out] at hcapI ⊢
              have HCI := Lib.hid hCI
              have HCPI := Lib.hid hcapI
              replace HB2 := Lib.hid (HB2.out.trans ((frBel hF9).mono HB2.out.size))
              replace HD2 := Lib.hid (HD2.out.still hF9)
              clear hF9 hown9 hCI hcapI
              have hm0 := (mcell HD2.out).1
              rw [← HCL.out] at hm0
              refine hK.out _ _ hm0 ?_
              clear hK KK HSC
              have HSC := hm0
              clear hm0
              try simp only [Act.put, List.setIfInBounds_toArray, List.set_cons_zero, List.set_cons_succ]
              refine Rg.Upto.one (i := 13) rfl (by kernel_rfl) (by rfl) (fun KK hK => ?_)
              go_simp
              have hm := windrowref01_Words.calls kw AI capI t.cells (some ⟨c2, 0, none⟩) t.cells.length t.cells true _ HCI.out (by rw [← HCL.out]; exact HCPI.out) (mcelC HD2.out).2 (Nat.le_refl _) HKW.out
              rw [← HCL.out] at hm
              refine hm.mono ?_
              clear hm
              rintro e w10 ⟨rfl, hd10⟩
              have hb10 := hd10.below
              replace HB2 := Lib.hid (HB2.out.trans (hb10.mono HB2.out.size))
              replace HD2 := Lib.hid (HD2.out.below hb10)
              clear hb10 hd10
              have hm0 := (mcell HD2.out).1
              rw [← HCL.out] at hm0
              refine hK.out _ _ hm0 ?_
              clear hK KK HSC
              have HSC := hm0
              clear hm0
              try simp only [Act.put, List.setIfInBounds_toArray, List.set_cons_zero, List.set_cons_succ]
              refine Rg.Upto.one (i := 14) rfl (by kernel_rfl) (by rfl) (fun KK hK => ?_)
              go_simp
              try simp only [bne_self_eq_false, Bool.not_true, Bool.not_false]
              refine hK.out _ _ HSC ?_
              clear hK KK
              try simp only [Act.put, List.setIfInBounds_toArray, List.set_cons_zero, List.set_cons_succ]
              refine Rg.Upto.one (i := 15) rfl (by kernel_rfl) (by rfl) (fun KK hK => ?_)
              go_simp
              try simp only [bne_self_eq_false, Bool.not_true, Bool.not_false]
              refine hK.out _ _ HSC ?_
              clear hK KK
              try simp only [Act.put, List.setIfInBounds_toArray, List.set_cons_zero, List.set_cons_succ]
              refine Rg.Upto.done (by kernel_rfl) ?_
              clear HSC
              go_wp2_with (fail)
              go_ret
              exact ⟨rfl, HB2.out⟩
            · have hlog : s.log = t.log := HR2.out.log
              have HLG := Lib.hid hlog
              clear hlog
              go_upto_region 28 with (first | (go_at_call 31; ((have hm := HD2.out.sys.logged HSl.out); rw [← HSL.out] at hm; (with_reducible refine hm.mono ?_); clear hm; rintro e w6 ⟨v6, rfl, hown6, hb6⟩; rw [HSL.out] at hown6; (obtain ⟨A6, cap6, rfl, hcap6, hc6⟩ := c76_of_own hown6 (by have := HSl.out; omega)); rw [← HSL.out] at hcap6; rw [← HSL.out]; replace HB2 := Lib.hid (HB2.out.trans (hb6.mono HB2.out.size)); replace HD2 := Lib.hid (HD2.out.below hb6); (have HC6 := Lib.hid hc6); (have HCP6 := Lib.hid hcap6); (obtain ⟨A9, cap9, hml, hcap9, hc9⟩ := mlogC HD2.out (by have := HTl.out; omega)); rw [← HL.out] at hml hcap9; (have HC9 := Lib.hid hc9); (have HCP9 := Lib.hid hcap9); clear hown6 hb6 hc6 hcap6 hc9 hcap9)))
              try simp only [List.append_eq, List.append, List.cons_append, List.nil_append]
              try clear hml
              replace HD2 := Lib.hid HD2.out.drew
              replace HB2 := Lib.hid HB2.out.drew
              replace HC6 := Lib.hid (Kd.C_below HC6.out (Below.refl _ _).drew)
              replace HC9 := Lib.hid (Kd.C_below HC9.out (Below.refl _ _).drew)
              have hm0 := (mcell HD2.out).1
              rw [← HCL.out] at hm0
              refine Rg.Upto.start (fun w' => w'.cell? ⟨m, 0, none⟩ = some (.slice (some ⟨c2, 0, none⟩) CL CL)) 1000 (by kernel_rfl) hm0 (fun HS => ?_)
              have HSC := HS
              clear HS hm0
              refine Rg.Upto.takeA (i := 0) (v := ?_) rfl (by kernel_rfl) (by kernel_rfl) (by kernel_rfl) (of_decide_eq_true (by kernel_rfl)) (fun _ _ _ h => h) (by rfl) (fun w5 hS5 => ?_) HSC ?_
              rotate_left
              · obtain s1 := hS5
                go_simp
                try rfl
              try simp only [Act.put, List.setIfInBounds_toArray, List.set_cons_zero, List.set_cons_succ]
              refine Rg.Upto.takeA (i := 1) (v := ?_) rfl (by kernel_rfl) (by kernel_rfl) (by kernel_rfl) (of_decide_eq_true (by kernel_rfl)) (fun _ _ _ h => h) (by rfl) (fun w5 hS5 => ?_) HSC ?_
              rotate_left
              · obtain s1 := hS5
                go_simp
                try rfl
              try simp only [Act.put, List.setIfInBounds_toArray, List.set_cons_zero, List.set_cons_succ]
              refine Rg.Upto.takeA (i := 2) (v := ?_) rfl (by kernel_rfl) (by kernel_rfl) (by kernel_rfl) (of_decide_eq_true (by kernel_rfl)) (fun _ _ _ h => h) (by rfl) (fun w5 hS5 => ?_) HSC ?_
              rotate_left
              · obtain s1 := hS5
                go_simp
                try rfl
              try simp only [Act.put, List.setIfInBounds_toArray, List.set_cons_zero, List.set_cons_succ]
              refine Rg.Upto.takeA (i := 3) (v := ?_) rfl (by kernel_rfl) (by kernel_rfl) (by kernel_rfl) (of_decide_eq_true (by kernel_rfl)) (fun _ _ _ h => h) (by rfl) (fun w5 hS5 => ?_) HSC ?_
              rotate_left
              · obtain s1 := hS5
                go_simp
                try rfl
              try simp only [Act.put, List.setIfInBounds_toArray, List.set_cons_zero, List.set_cons_succ]
              refine Rg.Upto.one (i := 4) rfl (by kernel_rfl) (by rfl) (fun KK hK => ?_)
              go_simp
              have hm := windrowref03_SameLog.calls kk A6 cap6 (s.log.map toS) A9 cap9 (t.log.map toS) true _ HC6.out (by rw [List.length_map, ← HSL.out]; exact HCP6.out) HC9.out (by rw [List.length_map, ← HL.out]; exact HCP9.out) (by rw [← HLG.out]; exact HKK.out)
              rw [List.length_map, List.length_map, ← HSL.out, ← HL.out] at hm
              refine hm.mono ?_
              clear hm
              rintro e w8 ⟨rfl, hd8⟩
              have hb8 := hd8.below
              clear hd8
              replace HB2 := Lib.hid (HB2.out.trans (hb8.mono HB2.out.size))
              replace HD2 := Lib.hid (HD2.out.below hb8)
              clear hb8 HC6 HC9
              have hm0 := (mcell HD2.out).1
              rw [← HCL.out] at hm0
              refine hK.out _ _ hm0 ?_
              clear hK KK HSC
              have HSC := hm0
              clear hm0
              try simp only [Act.put, List.setIfInBounds_toArray, List.set_cons_zero, List.set_cons_succ]
              refine Rg.Upto.one (i := 5) rfl (by kernel_rfl) (by rfl) (fun KK hK => ?_)
              go_simp
              try simp only [bne_self_eq_false, Bool.not_true, Bool.not_false]
              refine hK.out _ _ HSC ?_
              clear hK KK
              try simp only [Act.put, List.setIfInBounds_toArray, List.set_cons_zero, List.set_cons_succ]
              refine Rg.Upto.one (i := 6) rfl (by kernel_rfl) (by rfl) (fun KK hK => ?_)
              go_simp
              try simp only [bne_self_eq_false, Bool.not_true, Bool.not_false]
              refine hK.out _ _ HSC ?_
              clear hK KK
              try simp only [Act.put, List.setIfInBounds_toArray, List.set_cons_zero, List.set_cons_succ]
              refine Rg.Upto.takeA (i := 7) (v := ?_) rfl (by kernel_rfl) (by kernel_rfl) (by kernel_rfl) (of_decide_eq_true (by kernel_rfl)) (fun _ _ _ h => h) (by rfl) (fun w5 hS5 => ?_) HSC ?_
              rotate_left
              · obtain s1 := hS5
                go_simp
                try rfl
              try simp only [Act.put, List.setIfInBounds_toArray, List.set_cons_zero, List.set_cons_succ]
              refine Rg.Upto.takeA (i := 9) (v := ?_) rfl (by kernel_rfl) (by kernel_rfl) (by kernel_rfl) (of_decide_eq_true (by kernel_rfl)) (fun _ _ _ h => h) (by rfl) (fun w5 hS5 => ?_) HSC ?_
              rotate_left
              · obtain s1 := hS5
                go_simp
                try rfl
              try simp only [Act.put, List.setIfInBounds_toArray, List.set_cons_zero, List.set_cons_succ]
              refine Rg.Upto.takeA (i := 10) (v := ?_) rfl (by kernel_rfl) (by kernel_rfl) (by kernel_rfl) (of_decide_eq_true (by kernel_rfl)) (fun _ _ _ h => h) (by rfl) (fun w5 hS5 => ?_) HSC ?_
              rotate_left
              · obtain s1 := hS5
                go_simp
                try rfl
              try simp only [Act.put, List.setIfInBounds_toArray, List.set_cons_zero, List.set_cons_succ]
              refine Rg.Upto.takeA (i := 11) (v := ?_) rfl (by kernel_rfl) (by kernel_rfl) (by kernel_rfl) (of_decide_eq_true (by kernel_rfl)) (fun _ _ _ h => h) (by rfl) (fun w5 hS5 => ?_) HSC ?_
              rotate_left
              · obtain s1 := hS5
                go_simp
                try rfl
              try simp only [Act.put, List.setIfInBounds_toArray, List.set_cons_zero, List.set_cons_succ]
              refine Rg.Upto.takeA (i := 12) (v := ?_) rfl (by kernel_rfl) (by kernel_rfl) (by kernel_rfl) (of_decide_eq_true (by kernel_rfl)) (fun _ _ _ h => h) (by rfl) (fun w5 hS5 => ?_) HSC ?_
              rotate_left
              · obtain s1 := hS5
                go_simp
                try rfl
              try simp only [Act.put, List.setIfInBounds_toArray, List.set_cons_zero, List.set_cons_succ]
              refine Rg.Upto.one (i := 8) rfl (by kernel_rfl) (by rfl) (fun KK hK => ?_)
              go_simp
              have hm := HD2.out.sys.image
              rw [HR2.out.cells] at hm
              refine hm.mono ?_
              clear hm
              rintro e w9 ⟨v9, rfl, hown9, hF9⟩
              obtain ⟨AI, capI, rfl, hcapI, hCI⟩ := imageC0 hown9
              rw [← HCL.out] at hcapI ⊢
              have HCI := Lib.hid hCI
              have HCPI := Lib.hid hcapI
              replace HB2 := Lib.hid (HB2.out.trans ((frBel hF9).mono HB2.out.size))
              replace HD2 := Lib.hid (HD2.out.still hF9)
              clear hF9 hown9 hCI hcapI
              have hm0 := (mcell HD2.out).1
              rw [← HCL.out] at hm0
              refine hK.out _ _ hm0 ?_
              clear hK KK HSC
              have HSC := hm0
              clear hm0
              try simp only [Act.put, List.setIfInBounds_toArray, List.set_cons_zero, List.set_cons_succ]
              refine Rg.Upto.one (i := 13) rfl (by kernel_rfl) (by rfl) (fun KK hK => ?_)
              go_simp
              have hm := windrowref01_Words.calls kw AI capI t.cells (some ⟨c2, 0, none⟩) t.cells.length t.cells true _ HCI.out (by rw [← HCL.out]; exact HCPI.out) (mcelC HD2.out).2 (Nat.le_refl _) HKW.out
              rw [← HCL.out] at hm
              refine hm.mono ?_
              clear hm
              rintro e w10 ⟨rfl, hd10⟩
              have hb10 := hd10.below
              replace HB2 := Lib.hid (HB2.out.trans (hb10.mono HB2.out.size))
              replace HD2 := Lib.hid (HD2.out.below hb10)
              clear hb10 hd10
              have hm0 := (mcell HD2.out).1
              rw [← HCL.out] at hm0
              refine hK.out _ _ hm0 ?_
              clear hK KK HSC
              have HSC := hm0
              clear hm0
              try simp only [Act.put, List.setIfInBounds_toArray, List.set_cons_zero, List.set_cons_succ]
              refine Rg.Upto.one (i := 14) rfl (by kernel_rfl) (by rfl) (fun KK hK => ?_)
              go_simp
              try simp only [bne_self_eq_false, Bool.not_true, Bool.not_false]
              refine hK.out _ _ HSC ?_
              clear hK KK
              try simp only [Act.put, List.setIfInBounds_toArray, List.set_cons_zero, List.set_cons_succ]
              refine Rg.Upto.one (i := 15) rfl (by kernel_rfl) (by rfl) (fun KK hK => ?_)
              go_simp
              try simp only [bne_self_eq_false, Bool.not_true, Bool.not_false]
              refine hK.out _ _ HSC ?_
              clear hK KK
              try simp only [Act.put, List.setIfInBounds_toArray, List.set_cons_zero, List.set_cons_succ]
              refine Rg.Upto.done (by kernel_rfl) ?_
              clear HSC
              go_wp2_with (fail)
              go_ret
              exact ⟨rfl, HB2.out⟩
theorem plays_law (n : Int) (K : Bool) (A : Option Addr) (c0 : Nat) (rows : List S25) (w : World) (hr : Kd.C k25 w A rows.length rows) (hc0 : rows.length ≤ c0) :
    Calls Try.prog 7 #[.int .i64 n, .bool K, .slice A rows.length c0] w fun e w' => e = .returned (.bool true) ∧ Below w.heap.size w w' := by
  by_cases h : n < 1 ∨ 4096 < n
  · exact plays_out n K A c0 rows w h
  · obtain ⟨N, rfl⟩ := Int.eq_ofNat_of_zero_le (a := n) (by omega)
    exact plays N K A c0 rows w (by omega) (by omega) hr hc0
end Go.Proofs.Ytneppenmhbjfkaa.Ar
