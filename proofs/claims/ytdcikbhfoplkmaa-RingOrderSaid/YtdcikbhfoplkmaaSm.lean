/- A plan within a few: its places as numbers; what an access does to the cells. -/
import Derived.Test.YtdcikbhfoplkmaaRp
import Derived.Test.YtdcikbhfoplkmaaDw
import Derived.Test.YtdcikbhfoplkmaaPHx6
namespace Go.Proofs.Ytdcikbhfoplkmaa.Ar
open Go Go.RowKit Go.Proofs.Ytdcikbhfoplkmaa.Hp Go.Proofs.Ytdcikbhfoplkmaa.PH
set_option linter.unusedVariables false
set_option linter.unusedSimpArgs false

def smOk (P T R : Int) : Prop := 1 ≤ P ∧ P ≤ 4 ∧ 1 ≤ T ∧ T ≤ 3 ∧ 1 ≤ R ∧ R ≤ 5
theorem smOk.ok {P T R : Int} (h : smOk P T R) : plOk P T R := by unfold smOk at h; unfold plOk; omega
theorem u64_nn (x : Int) : 0 ≤ IntKind.u64.wrap x := by
  simp only [IntKind.wrap, IntKind.bits, IntKind.signed]
  exact Int.emod_nonneg _ (by decide)
theorem sm_small (a b c : Int) : ∃ P T R, windrowlaw07_small.f a b c = some (P, T, R) ∧ smOk P T R := by
  refine ⟨_, _, _, rfl, ?_⟩
  have ha := u64_nn a
  have hb := u64_nn b
  have hc := u64_nn c
  rw [Int.tmod_eq_emod_of_nonneg ha, Int.tmod_eq_emod_of_nonneg hb, Int.tmod_eq_emod_of_nonneg hc]
  generalize IntKind.u64.wrap a = x at *
  generalize IntKind.u64.wrap b = y at *
  generalize IntKind.u64.wrap c = z at *
  unfold smOk wrap64
  omega
theorem sm_cells {P T R : Int} (h : smOk P T R) : windrowref06_Cells.f 400 P T R = some (((64 + 64 * P).toNat : Nat) : Int) := by
  unfold smOk at h
  have := sm_allC ⟨(P - 1).toNat, by omega⟩ ⟨(T - 1).toNat, by omega⟩ ⟨(R - 1).toNat, by omega⟩
  simp only at this
  rw [show (((P - 1).toNat : Nat) : Int) + 1 = P by omega, show (((T - 1).toNat : Nat) : Int) + 1 = T by omega, show (((R - 1).toNat : Nat) : Int) + 1 = R by omega] at this
  rw [this]
  congr 1
  omega
theorem where_some (l : List _) (a b c : Int) (hl : l.length ≤ 1000) : ∀ (k i : Nat), l.length < k + i → i ≤ l.length → ∃ r, windrowref06_Where.l0 k l (i : Int) a b c = some r
  | 0, i, h, h' => absurd h (by omega)
  | k + 1, i, h, h' => by
    by_cases hi : i < l.length
    · obtain ⟨r, hr⟩ := where_some l a b c hl k (i + 1) (by omega) hi
      have e : wrap64 ((i : Int) + 1) = ((i + 1 : Nat) : Int) := by unfold wrap64; omega
      rw [windrowref06_Where.l0, if_pos (by omega), e]
      split
      · exact ⟨_, hr⟩
      · rw [if_pos (by omega)]
        split
        · exact ⟨_, rfl⟩
        · exact ⟨_, hr⟩
    · rw [windrowref06_Where.l0, if_neg (by omega)]
      exact ⟨_, rfl⟩
theorem sm_draw {P T R : Int} (h : smOk P T R) : ∃ b e, windrowref06_Draw.f 400 P T R = some (P, T, R, b, e, (((64 + 64 * P).toNat : Nat) : Int)) := by
  have hc := sm_cells h
  have hr := rp_right6 P T R
  rw [decide_eq_true h.ok] at hr
  have hc2 := hc
  unfold windrowref06_Cells.f at hc2
  cases hs : windrowref06_Spots.f 400 P T R with
  | none => rw [hs] at hc2; cases hc2
  | some l =>
    rw [hs] at hc2
    have hl : (l.length : Int) = ((64 + 64 * P).toNat : Nat) := Option.some.inj hc2
    have h' := h
    unfold smOk at h'
    have w1 : ∀ a b c, ∃ r, windrowref06_Where.f 400 P T R a b c = some r := fun a b c => by
      obtain ⟨r, hr⟩ := where_some l a b c (by omega) 400 0 (by omega) (by omega)
      refine ⟨r, ?_⟩
      unfold windrowref06_Where.f
      rw [hs]
      exact hr
    obtain ⟨b, hb⟩ := w1 8 0 0
    obtain ⟨e, he⟩ := w1 5 0 0
    refine ⟨b, e, ?_⟩
    unfold windrowref06_Draw.f windrowref06_Base.f
    rw [hr, hb, he, hc]
    rfl
theorem rp_tail {P T R t : Int} (h : plOk P T R ∧ 0 ≤ t ∧ t < T) : layout_Plan_Tail.f P T R t = some (16 + t * (5 + R) + 4) := by
  unfold layout_Plan_Tail.f
  rw [rp_of P T R t 4 (by omega), if_pos h]
  rfl
theorem rp_slot {P T R t n : Int} (h : plOk P T R ∧ 0 ≤ t ∧ t < T) (hn : 0 ≤ n) : layout_Plan_Slot.f P T R t n = some (16 + t * (5 + R) + 5 + n % R) := by
  have h' := h.1
  unfold plOk at h'
  obtain ⟨m1, m2, m3⟩ := rp_mul (t := t) (R := R) (by omega) (by omega) (by omega) (by omega)
  unfold layout_Plan_Slot.f
  rw [rp_of P T R t 5 (by omega), if_pos h]
  have e : IntKind.u64.wrap R = R := by
    simp only [IntKind.wrap, IntKind.bits, IntKind.signed]
    have : (1 : Int) <<< 64 = 18446744073709551616 := by decide
    first | (simp only [this]; omega) | omega | (simp; omega)
  have e2 := Int.emod_nonneg n (show R ≠ 0 by omega)
  have e3 := Int.emod_lt_of_pos n (show 0 < R by omega)
  simp only [Option.bind_some]
  rw [if_neg (by omega), e, if_neg (by omega), Int.tmod_eq_emod_of_nonneg hn]
  generalize n % R = y at *
  generalize t * (5 + R) = x at *
  congr 1
  unfold wrap64
  omega
theorem sm_status {t R : Int} (h0 : 0 ≤ t) (h1 : t < 3) (h2 : 1 ≤ R) (h3 : R ≤ 5) (a b c d e : Int) : windrowref06_Map_Status.f a b R c d e t = some (16 + t * (5 + R)) := by
  unfold windrowref06_Map_Status.f
  obtain ⟨m1, m2, m3⟩ := rp_mul (t := t) (R := R) h0 (by omega) h2 (by omega)
  rw [m1]
  generalize t * (5 + R) = x at *
  congr 1
  unfold wrap64
  omega

/-- A load turns no cell. -/
theorem acc_load (s : AS) (g : Bool) (who at_ want put : Int) : (s.acc g who 1 at_ want put).1.cells = s.cells := by
  unfold AS.acc
  split
  · show s.cells.set at_.toNat (leftOf 1 (s.cells.getD at_.toNat 0) want put) = s.cells
    unfold leftOf
    rw [if_pos rfl]
    apply List.ext_getElem?
    intro i
    rw [List.getElem?_set]
    split
    · rename_i e
      subst e
      split
      · rename_i h
        rw [List.getD_eq_getElem?_getD, List.getElem?_eq_getElem h]
        rfl
      · rename_i h
        rw [List.getElem?_eq_none (by omega)]
    · rfl
  · rfl
/-- A store turns one cell. -/
theorem acc_store (s : AS) (g : Bool) (who at_ v : Int) : (s.acc g who 2 at_ 0 v).1.cells = s.cells ∨ (s.acc g who 2 at_ 0 v).1.cells = s.cells.set at_.toNat v := by
  unfold AS.acc
  split
  · exact .inr rfl
  · exact .inl rfl
theorem acc_seen (s : AS) (g : Bool) (who kind at_ want put : Int) : (s.acc g who kind at_ want put).2 = 0 ∨ (s.acc g who kind at_ want put).2 = s.cells.getD at_.toNat 0 := by
  unfold AS.acc
  split
  · exact .inr rfl
  · exact .inl rfl
/-- Two arenas' cells differ at places of S alone; none is below 0. -/
structure Cel (S : Int → Prop) (l m : List Int) : Prop where
  len : m.length = l.length
  same : ∀ i : Nat, ¬ S i → m[i]? = l[i]?
  nn : ∀ x ∈ m, 0 ≤ x
theorem Cel.set {S : Int → Prop} {l m : List Int} (h : Cel S l m) (q v : Int) (hq : 0 ≤ q) (hS : S q) (hv : 0 ≤ v) : Cel S l (m.set q.toNat v) := by
  refine ⟨by rw [List.length_set]; exact h.len, fun i hi => ?_, fun x hx => ?_⟩
  · rw [List.getElem?_set_ne]
    · exact h.same i hi
    · rintro rfl
      exact hi (by rw [Int.toNat_of_nonneg hq]; exact hS)
  · rcases List.mem_or_eq_of_mem_set hx with hx | rfl
    · exact h.nn x hx
    · exact hv
theorem Cel.store {S : Int → Prop} {l : List Int} {s : AS} (h : Cel S l s.cells) (g : Bool) (who q v : Int) (hq : 0 ≤ q) (hS : S q) (hv : 0 ≤ v) : Cel S l (s.acc g who 2 q 0 v).1.cells := by
  rcases acc_store s g who q v with e | e
  · rw [e]; exact h
  · rw [e]; exact h.set q v hq hS hv
theorem Cel.load {S : Int → Prop} {l : List Int} {s : AS} (h : Cel S l s.cells) (g : Bool) (who q want put : Int) : Cel S l (s.acc g who 1 q want put).1.cells := by
  rw [acc_load]; exact h
theorem Cel.seen {S : Int → Prop} {l : List Int} {s : AS} (h : Cel S l s.cells) (g : Bool) (who kind q want put : Int) : 0 ≤ (s.acc g who kind q want put).2 := by
  rcases acc_seen s g who kind q want put with e | e
  · rw [e]; exact Int.le_refl 0
  · rw [e, List.getD_eq_getElem?_getD]
    rcases Nat.lt_or_ge q.toNat s.cells.length with hl | hl
    · rw [List.getElem?_eq_getElem hl]
      exact h.nn _ (List.getElem_mem hl)
    · rw [List.getElem?_eq_none hl]
      exact Int.le_refl 0
/-- A push of v, done. -/
theorem Cel.room {S : Int → Prop} {l : List Int} {s : AS} (h : Cel S l s.cells) (who v qT qH qS : Int) (hT : 0 ≤ qT ∧ S qT) (hS : 0 ≤ qS ∧ S qS) (hv : 0 ≤ v) : Cel S l (stS s who v qT qH qS 4).cells :=
  ((((h.load true who qT 0 0).load true who qH 0 0).store true who qS v hS.1 hS.2 hv).store true who qT _ hT.1 hT.2 (u64_nn _))
theorem Cel.full {S : Int → Prop} {l : List Int} {s : AS} (h : Cel S l s.cells) (who v qT qH qS : Int) : Cel S l (stS s who v qT qH qS 2).cells :=
  ((h.load true who qT 0 0).load true who qH 0 0)

/-- A row of words in memory. -/
def Img (w : World) (g : Nat) (l : List Int) : Prop := ∃ cs, w.heap[g]? = some (.cells cs 24 (0, 0)) ∧ ∀ i, i < l.length → cs[i]? = some (.int .u64 (l.getD i 0))
theorem Img.cell {w : World} {g : Nat} {l : List Int} (h : Img w g l) (i : Nat) (hi : i < l.length) : w.cell? ⟨g, i, none⟩ = some (.int .u64 (l.getD i 0)) := by
  obtain ⟨cs, h1, h2⟩ := h
  simp [World.cell?, h1, h2 i hi]
theorem Img.lt {w : World} {g : Nat} {l : List Int} (h : Img w g l) : g < w.heap.size := by
  obtain ⟨cs, h1, h2⟩ := h
  exact blk_lt h1
theorem Img.of {w w' : World} {g : Nat} {l : List Int} (h : Img w g l) (e : w'.heap[g]? = w.heap[g]?) : Img w' g l := by
  obtain ⟨cs, h1, h2⟩ := h
  exact ⟨cs, e.trans h1, h2⟩
theorem Img.below {w w' : World} {g : Nat} {l : List Int} (h : Img w g l) (hb : Below w.heap.size w w') : Img w' g l := h.of (hb.block g h.lt)
theorem Img.fr {S : Nat → Prop} {w w' : World} {g : Nat} {l : List Int} (h : Img w g l) (hF : Fr S w w') (hS : ¬ S g) : Img w' g l := h.of (hF.block g h.lt hS)
theorem Img.far {w : World} {g c : Nat} {l : List Int} (h : Img w g l) (hc : g ≠ c) : ¬ Touch c w g := by
  obtain ⟨cs, h1, h2⟩ := h
  exact not_touch h1 hc (by decide)
theorem img_of {B : Nat} {w : World} {v : Value} {xs : List Int} (h : w.ownsRow B 24 1 v xs.length (xs.map (Value.int .u64))) (hn : 0 < xs.length) :
    ∃ g cap, v = .slice (some ⟨g, 0, none⟩) xs.length cap ∧ B ≤ g ∧ xs.length ≤ cap ∧ Img w g xs := by
  rcases h.2 with ⟨_, h2⟩ | ⟨g, cap, cur, rfl, h3, h4, h5, h6, h7, h8⟩
  · omega
  · refine ⟨g, cap, rfl, h3, by omega, cur, h4, fun i hi => ?_⟩
    have e1 := congrArg (fun l => l[i]?) h8
    simp only [List.getElem?_map] at e1
    rw [List.getElem?_take_of_lt (by omega)] at e1
    rw [← Array.getElem?_toList, e1, List.getElem?_eq_getElem hi, List.getD_eq_getElem?_getD, List.getElem?_eq_getElem hi]
    rfl
theorem img_at {B n : Nat} {w : World} {v : Value} {xs : List Int} (h : w.ownsRow B 24 1 v xs.length (xs.map (Value.int .u64))) (hn : xs.length = n) (h0 : 0 < n) :
    ∃ g cap, v = .slice (some ⟨g, 0, none⟩) n cap ∧ B ≤ g ∧ n ≤ cap ∧ Img w g xs := by
  obtain ⟨g, cap, h1, h2, h3, h4⟩ := img_of h (by omega)
  exact ⟨g, cap, by rw [h1, hn], h2, by omega, h4⟩
theorem new_at2 (w : World) (x : Obj) {n : Nat} (hn : w.heap.size = n) : (w.alloc x).heap[n]? = some x := by
  subst hn
  exact Hp.blk_new w x
theorem bits_nn (op : BinOp) (x y : Int) : 0 ≤ Go.bits op IntKind.u64 x y := u64_nn _
theorem bits_one (x : Int) : Go.bits BinOp.or IntKind.u64 x 1 ≠ 0 := by
  show IntKind.u64.wrap ((BitVec.ofInt 64 x ||| BitVec.ofInt 64 1).toNat : Nat) ≠ 0
  have h1 : (BitVec.ofInt 64 x ||| BitVec.ofInt 64 1) ≠ 0#64 := by
    generalize BitVec.ofInt 64 x = y
    intro h
    have h2 := congrArg (fun z => z.getLsbD 0) h
    simp at h2
  have h3 : (BitVec.ofInt 64 x ||| BitVec.ofInt 64 1).toNat ≠ 0 := fun h => h1 (by apply BitVec.eq_of_toNat_eq; rw [h]; rfl)
  have h4 := (BitVec.ofInt 64 x ||| BitVec.ofInt 64 1).isLt
  generalize (BitVec.ofInt 64 x ||| BitVec.ofInt 64 1).toNat = n at *
  simp only [IntKind.wrap, IntKind.bits, IntKind.signed]
  have : (1 : Int) <<< 64 = 18446744073709551616 := by decide
  first | (simp only [this]; omega) | omega | (simp; omega)
theorem tmod_small (x : Int) (n : Int) (h0 : 1 ≤ n) (h1 : n ≤ 1000) : ∃ k : Nat, wrap64 ((IntKind.u64.wrap x).tmod n) = (k : Int) ∧ (k : Int) < n := by
  have ha := u64_nn x
  rw [Int.tmod_eq_emod_of_nonneg ha]
  have e2 := Int.emod_nonneg (IntKind.u64.wrap x) (show n ≠ 0 by omega)
  have e3 := Int.emod_lt_of_pos (IntKind.u64.wrap x) (show 0 < n by omega)
  generalize IntKind.u64.wrap x % n = y at *
  refine ⟨y.toNat, ?_, by omega⟩
  unfold wrap64
  omega
theorem i64_small {x : Int} (h0 : 0 ≤ x) (h1 : x ≤ 1000000) : IntKind.i64.wrap x = x := by
  simp only [IntKind.wrap, IntKind.bits, IntKind.signed]
  first | omega | (simp; omega)
theorem u64_small {x : Int} (h0 : 0 ≤ x) (h1 : x ≤ 1000000) : IntKind.u64.wrap x = x := by
  simp only [IntKind.wrap, IntKind.bits, IntKind.signed]
  have : (1 : Int) <<< 64 = 18446744073709551616 := by decide
  first | (simp only [this]; omega) | omega | (simp; omega)
end Go.Proofs.Ytdcikbhfoplkmaa.Ar
