/- The cells of a plan, as the reference lists them and as the program reckons them, in plain numbers (layer 6's texts, turned to this seat). -/
import Derived.Test.YtdcikbhfoplkmaaEo
import Derived.Test.YtdcikbhfoplkmaaPTx6
namespace Go.Proofs.Ytdcikbhfoplkmaa.Lay
open Go Go.RowKit Go.Proofs.Ytdcikbhfoplkmaa.PH Go.Proofs.YtdcikbhfoplkmaaW.PrintWords Go.Proofs.YtdcikbhfoplkmaaW.PrintLast
open Go.Proofs.Ytdcikbhfoplkmaa.Eo
set_option linter.unusedVariables false
set_option linter.unusedSimpArgs false

/-- Where the tables begin; where the heap does; how many cells. -/
def tb (T R : Nat) : Nat := 16 + T * (5 + R)
def bs (P T R : Nat) : Nat := (tb T R + 3 * P + 63) / 64 * 64
def cl (P T R : Nat) : Nat := bs P T R + 64 * P

def right (P T R : Nat) : Prop := 1 ≤ P ∧ P ≤ 32 ∧ 1 ≤ T ∧ T ≤ 6 ∧ 1 ≤ R ∧ R ≤ 16

def spotAt (P T R : Nat) (n : Nat) : S100 :=
  if n = 0 then ⟨0, 0, 0⟩
  else if n ≤ 6 then ⟨1, n, 0⟩
  else if n = 7 then ⟨0, 0, 0⟩
  else if n < 16 then ⟨2, (n : Int) - 8, 0⟩
  else if n < tb T R then
    (if (n - 16) % (5 + R) < 5 then ⟨3, ((n - 16) / (5 + R) : Nat), ((n - 16) % (5 + R) : Nat)⟩ else ⟨4, ((n - 16) / (5 + R) : Nat), (((n - 16) % (5 + R) : Nat) : Int) - 5⟩)
  else if n < tb T R + P then ⟨5, (n : Int) - tb T R, 0⟩
  else if n < tb T R + 2 * P then ⟨6, (n : Int) - tb T R - P, 0⟩
  else if n < tb T R + 3 * P then ⟨7, (n : Int) - tb T R - 2 * P, 0⟩
  else if n < bs P T R then ⟨0, 0, 0⟩
  else ⟨8, ((n - bs P T R) / 64 : Nat), ((n - bs P T R) % 64 : Nat)⟩

def G (P T R : Nat) (n : Nat) : List S100 := (List.range n).map (spotAt P T R)

theorem G_length (P T R n : Nat) : (G P T R n).length = n := by simp [G]
theorem G_snoc (P T R n : Nat) (s : S100) (h : spotAt P T R n = s) : G P T R n ++ [s] = G P T R (n + 1) := by
  simp [G, List.range_succ, h]

theorem tb_le {P T R : Nat} (h : right P T R) : tb T R ≤ 142 := by
  obtain ⟨_, _, h3, h4, h5, h6⟩ := h
  unfold tb
  have : T * (5 + R) ≤ 6 * 21 := Nat.mul_le_mul h4 (by omega)
  omega

theorem bs_ge (P T R : Nat) : tb T R + 3 * P ≤ bs P T R ∧ bs P T R ≤ tb T R + 3 * P + 63 ∧ bs P T R % 64 = 0 := by
  unfold bs; omega

theorem cl_le {P T R : Nat} (h : right P T R) : cl P T R ≤ 2400 := by
  have h1 := tb_le h
  have h2 := bs_ge P T R
  have := h.2.1
  unfold cl
  omega

/-- A thread's cell. -/
theorem spot_thread {P T R t j : Nat} (ht : t < T) (hj : j < 5) : spotAt P T R (16 + t * (5 + R) + j) = ⟨3, t, j⟩ := by
  have hd : (16 + t * (5 + R) + j - 16) / (5 + R) = t := by
    rw [show 16 + t * (5 + R) + j - 16 = j + t * (5 + R) by omega, Nat.add_mul_div_right _ _ (by omega), Nat.div_eq_of_lt (by omega)]; omega
  have hm : (16 + t * (5 + R) + j - 16) % (5 + R) = j := by
    rw [show 16 + t * (5 + R) + j - 16 = j + t * (5 + R) by omega, Nat.add_mul_mod_self_right, Nat.mod_eq_of_lt (by omega)]
  have hlt : 16 + t * (5 + R) + j < tb T R := by
    unfold tb
    have := Nat.mul_le_mul_right (5 + R) (show t + 1 ≤ T from ht)
    rw [Nat.add_mul] at this
    omega
  unfold spotAt
  rw [if_neg (by omega), if_neg (by omega), if_neg (by omega), if_neg (by omega), if_pos hlt, hd, hm, if_pos hj]

theorem spot_slot {P T R t j : Nat} (ht : t < T) (hj : j < R) : spotAt P T R (16 + t * (5 + R) + 5 + j) = ⟨4, t, j⟩ := by
  have hd : (16 + t * (5 + R) + 5 + j - 16) / (5 + R) = t := by
    rw [show 16 + t * (5 + R) + 5 + j - 16 = (5 + j) + t * (5 + R) by omega, Nat.add_mul_div_right _ _ (by omega), Nat.div_eq_of_lt (by omega)]; omega
  have hm : (16 + t * (5 + R) + 5 + j - 16) % (5 + R) = 5 + j := by
    rw [show 16 + t * (5 + R) + 5 + j - 16 = (5 + j) + t * (5 + R) by omega, Nat.add_mul_mod_self_right, Nat.mod_eq_of_lt (by omega)]
  have hlt : 16 + t * (5 + R) + 5 + j < tb T R := by
    unfold tb
    have := Nat.mul_le_mul_right (5 + R) (show t + 1 ≤ T from ht)
    rw [Nat.add_mul] at this
    omega
  unfold spotAt
  rw [if_neg (by omega), if_neg (by omega), if_neg (by omega), if_neg (by omega), if_pos hlt, hd, hm, if_neg (by omega)]
  congr 1
  omega

/-! ### the loops, from the last one back -/
section
variable {P T R : Nat} (h : right P T R)
include h

theorem l9_ev {i : Nat} (hi : i < P) (h8 : Eo (fun k => windrowref06_Spots.l8 k (G P T R (bs P T R + 64 * (i + 1))) ((i + 1 : Nat) : Int) P T R) (G P T R (cl P T R))) :
    ∀ d j : Nat, j + d = 64 → Eo (fun k => windrowref06_Spots.l9 k (G P T R (bs P T R + 64 * i + j)) i j P T R) (G P T R (cl P T R)) := by
  have hc := cl_le h
  have hP := h.2.1
  have hb : bs P T R + 64 * i + 64 ≤ cl P T R := by unfold cl; omega
  intro d
  induction d with
  | zero =>
    intro j hj
    refine h8.round fun k => ?_
    simp only [windrowref06_Spots.l9]
    rw [if_neg (by omega), w64 (by omega) (by omega)]
    congr 1
    · congr 1; omega
  | succ d ih =>
    intro j hj
    refine (ih (j + 1) (by omega)).round fun k => ?_
    simp only [windrowref06_Spots.l9]
    rw [if_pos (by omega), if_pos (by rw [G_length]; omega), w64 (by omega) (by omega), G_snoc]
    · rfl
    · unfold spotAt
      have h1 := bs_ge P T R
      have h2 : 16 ≤ tb T R := by unfold tb; omega
      rw [if_neg (by omega), if_neg (by omega), if_neg (by omega), if_neg (by omega), if_neg (by omega), if_neg (by omega), if_neg (by omega), if_neg (by omega), if_neg (by omega)]
      congr 1 <;> omega

theorem l8_ev : ∀ d i : Nat, i + d = P → Eo (fun k => windrowref06_Spots.l8 k (G P T R (bs P T R + 64 * i)) i P T R) (G P T R (cl P T R)) := by
  intro d
  induction d with
  | zero =>
    intro i hi
    refine Eo.step (g := fun _ => some (G P T R (cl P T R))) (Eo.of fun _ => rfl) fun k _ => ?_
    simp only [windrowref06_Spots.l8]
    rw [if_neg (by omega)]
    have : bs P T R + 64 * i = cl P T R := by unfold cl; omega
    rw [this]
  | succ d ih =>
    intro i hi
    refine (l9_ev h (show i < P by omega) (ih (i + 1) (by omega)) 64 0 (by omega)).round fun k => ?_
    simp only [windrowref06_Spots.l8]
    rw [if_pos (by omega)]
    rfl

theorem l7_ev : ∀ d n : Nat, n + d = bs P T R → tb T R + 3 * P ≤ n → Eo (fun k => windrowref06_Spots.l7 k (G P T R n) P T R) (G P T R (cl P T R)) := by
  have hc := cl_le h
  have hb := bs_ge P T R
  have hcb : bs P T R ≤ cl P T R := by unfold cl; omega
  have h2 : 16 ≤ tb T R := by unfold tb; omega
  intro d
  induction d with
  | zero =>
    intro n hn hlo
    refine (l8_ev h P 0 (by omega)).round fun k => ?_
    simp only [windrowref06_Spots.l7, G_length]
    rw [if_pos (by omega)]
    have : n = bs P T R + 64 * 0 := by omega
    rw [this]
    rfl
  | succ d ih =>
    intro n hn hlo
    refine (ih (n + 1) (by omega) (by omega)).round fun k => ?_
    simp only [windrowref06_Spots.l7, G_length]
    rw [if_neg (by unfold bs at *; omega), if_pos (by omega), G_snoc]
    unfold spotAt
    rw [if_neg (by omega), if_neg (by omega), if_neg (by omega), if_neg (by omega), if_neg (by omega), if_neg (by omega), if_neg (by omega), if_neg (by omega), if_pos (by omega)]

/-- The three tables: q counts the kinds behind 5. -/
theorem l6_ev {q : Nat} (hq : q ≤ 2) (h5 : Eo (fun k => windrowref06_Spots.l5 k (G P T R (tb T R + P * (q + 1))) ((6 + q : Nat) : Int) P T R) (G P T R (cl P T R))) :
    ∀ d i : Nat, i + d = P → Eo (fun k => windrowref06_Spots.l6 k (G P T R (tb T R + P * q + i)) ((5 + q : Nat) : Int) i P T R) (G P T R (cl P T R)) := by
  have hc := cl_le h
  have hb := bs_ge P T R
  have hcb : bs P T R ≤ cl P T R := by unfold cl; omega
  have h2 : 16 ≤ tb T R := by unfold tb; omega
  have hP := h.2.1
  have hq3 : q = 0 ∨ q = 1 ∨ q = 2 := by omega
  intro d
  induction d with
  | zero =>
    intro i hi
    refine h5.round fun k => ?_
    simp only [windrowref06_Spots.l6]
    rw [if_neg (by omega), w64 (by omega) (by omega)]
    congr 1
    · congr 1; rcases hq3 with rfl | rfl | rfl <;> omega
    · omega
  | succ d ih =>
    intro i hi
    refine (ih (i + 1) (by omega)).round fun k => ?_
    simp only [windrowref06_Spots.l6]
    rw [if_pos (by omega), if_pos (by rw [G_length]; rcases hq3 with rfl | rfl | rfl <;> omega), w64 (by omega) (by omega), G_snoc]
    · rfl
    · unfold spotAt
      rcases hq3 with rfl | rfl | rfl
      · rw [if_neg (by omega), if_neg (by omega), if_neg (by omega), if_neg (by omega), if_neg (by omega), if_pos (by omega)]
        congr 1 <;> omega
      · rw [if_neg (by omega), if_neg (by omega), if_neg (by omega), if_neg (by omega), if_neg (by omega), if_neg (by omega), if_pos (by omega)]
        congr 1 <;> omega
      · rw [if_neg (by omega), if_neg (by omega), if_neg (by omega), if_neg (by omega), if_neg (by omega), if_neg (by omega), if_neg (by omega), if_pos (by omega)]
        congr 1 <;> omega

theorem l5_ev : ∀ d q : Nat, q + d = 3 → Eo (fun k => windrowref06_Spots.l5 k (G P T R (tb T R + P * q)) ((5 + q : Nat) : Int) P T R) (G P T R (cl P T R)) := by
  have hb := bs_ge P T R
  intro d
  induction d with
  | zero =>
    intro q hq
    obtain rfl : q = 3 := by omega
    refine (l7_ev h (bs P T R - (tb T R + 3 * P)) (tb T R + 3 * P) (by omega) (by omega)).round fun k => ?_
    simp only [windrowref06_Spots.l5]
    rw [if_neg (by omega), Nat.mul_comm P 3]
  | succ d ih =>
    intro q hq
    have h5 := ih (q + 1) (by omega)
    rw [show 5 + (q + 1) = 6 + q by omega] at h5
    refine (l6_ev h (show q ≤ 2 by omega) h5 P 0 (by omega)).round fun k => ?_
    simp only [windrowref06_Spots.l5]
    rw [if_pos (by omega)]
    rfl

omit h in
theorem thread_lt {t j : Nat} (ht : t < T) (hj : j ≤ 5 + R) : 16 + t * (5 + R) + j ≤ tb T R := by
  unfold tb
  have := Nat.mul_le_mul_right (5 + R) (show t + 1 ≤ T from ht)
  rw [Nat.add_mul] at this
  omega

theorem l4_ev {t : Nat} (ht : t < T) (h2 : Eo (fun k => windrowref06_Spots.l2 k (G P T R (16 + (t + 1) * (5 + R))) ((t + 1 : Nat) : Int) P T R) (G P T R (cl P T R))) :
    ∀ d j : Nat, j + d = R → Eo (fun k => windrowref06_Spots.l4 k (G P T R (16 + t * (5 + R) + 5 + j)) t j P T R) (G P T R (cl P T R)) := by
  have htb := tb_le h
  have hT := h.2.2.2.1
  intro d
  induction d with
  | zero =>
    intro j hj
    refine h2.round fun k => ?_
    simp only [windrowref06_Spots.l4]
    rw [if_neg (by omega), w64 (by omega) (by omega)]
    congr 1
    · congr 1; rw [Nat.add_mul]; omega
  | succ d ih =>
    intro j hj
    have hl := thread_lt ht (show 5 + j ≤ 5 + R by omega)
    refine (ih (j + 1) (by omega)).round fun k => ?_
    simp only [windrowref06_Spots.l4]
    have hR := h.2.2.2.2.2
    rw [if_pos (by omega), if_pos (by rw [G_length]; omega), w64 (by omega) (by omega), G_snoc _ _ _ _ _ (spot_slot ht (by omega))]
    rfl

theorem l3_ev {t : Nat} (ht : t < T) (h2 : Eo (fun k => windrowref06_Spots.l2 k (G P T R (16 + (t + 1) * (5 + R))) ((t + 1 : Nat) : Int) P T R) (G P T R (cl P T R))) :
    ∀ d j : Nat, j + d = 5 → Eo (fun k => windrowref06_Spots.l3 k (G P T R (16 + t * (5 + R) + j)) t j P T R) (G P T R (cl P T R)) := by
  have htb := tb_le h
  have hT := h.2.2.2.1
  intro d
  induction d with
  | zero =>
    intro j hj
    obtain rfl : j = 5 := by omega
    refine (l4_ev h ht h2 R 0 (by omega)).round fun k => ?_
    simp only [windrowref06_Spots.l3]
    rw [if_neg (by omega)]
    rfl
  | succ d ih =>
    intro j hj
    have hl := thread_lt ht (show j ≤ 5 + R by omega)
    refine (ih (j + 1) (by omega)).round fun k => ?_
    simp only [windrowref06_Spots.l3]
    rw [if_pos (by omega), if_pos (by rw [G_length]; omega), w64 (by omega) (by omega), G_snoc _ _ _ _ _ (spot_thread ht (by omega))]
    rfl

theorem l2_ev : ∀ d t : Nat, t + d = T → Eo (fun k => windrowref06_Spots.l2 k (G P T R (16 + t * (5 + R))) t P T R) (G P T R (cl P T R)) := by
  intro d
  induction d with
  | zero =>
    intro t ht
    refine (l5_ev h 3 0 (by omega)).round fun k => ?_
    simp only [windrowref06_Spots.l2]
    rw [if_neg (by omega)]
    obtain rfl : t = T := by omega
    rfl
  | succ d ih =>
    intro t ht
    refine (l3_ev h (show t < T by omega) (ih (t + 1) (by omega)) 5 0 (by omega)).round fun k => ?_
    simp only [windrowref06_Spots.l2]
    rw [if_pos (by omega)]
    rfl

theorem l1_ev : ∀ d i : Nat, i + d = 8 → Eo (fun k => windrowref06_Spots.l1 k (G P T R (8 + i)) i P T R) (G P T R (cl P T R)) := by
  intro d
  induction d with
  | zero =>
    intro i hi
    obtain rfl : i = 8 := by omega
    refine (l2_ev h T 0 (by omega)).round fun k => ?_
    simp only [windrowref06_Spots.l1]
    rw [if_neg (by omega)]
    simp
  | succ d ih =>
    intro i hi
    refine (ih (i + 1) (by omega)).round fun k => ?_
    simp only [windrowref06_Spots.l1]
    rw [if_pos (by omega), if_pos (by rw [G_length]; omega), w64 (by omega) (by omega), G_snoc]
    · rfl
    · unfold spotAt
      rw [if_neg (by omega), if_neg (by omega), if_neg (by omega), if_pos (by omega)]
      congr 1 <;> omega

theorem l0_ev : ∀ d i : Nat, i + d = 7 → 1 ≤ i → Eo (fun k => windrowref06_Spots.l0 k (G P T R i) i P T R) (G P T R (cl P T R)) := by
  intro d
  induction d with
  | zero =>
    intro i hi _
    obtain rfl : i = 7 := by omega
    refine (l1_ev h 8 0 (by omega)).round fun k => ?_
    simp only [windrowref06_Spots.l0]
    rw [if_neg (by omega), if_pos (by rw [G_length]; omega), G_snoc]
    · rfl
    · unfold spotAt; simp
  | succ d ih =>
    intro i hi h1
    refine (ih (i + 1) (by omega) (by omega)).round fun k => ?_
    simp only [windrowref06_Spots.l0]
    rw [if_pos (by omega), if_pos (by rw [G_length]; omega), w64 (by omega) (by omega), G_snoc]
    · rfl
    · unfold spotAt
      rw [if_neg (by omega), if_pos (by omega)]

theorem right_true : windrowref06_Right.f P T R = some true := by
  obtain ⟨h1, h2, h3, h4, h5, h6⟩ := h
  unfold windrowref06_Right.f
  rw [if_pos (by omega), if_pos (by omega), if_pos (by omega), if_pos (by omega), if_pos (by omega)]
  simp; omega

theorem plan_right_true : layout_Plan_right.f P T R = some true := by
  obtain ⟨h1, h2, h3, h4, h5, h6⟩ := h
  unfold layout_Plan_right.f
  rw [if_pos (by omega), if_pos (by omega), if_pos (by omega), if_pos (by omega), if_pos (by omega)]
  simp; omega

/-- THE REFERENCE's LIST, cell by cell. -/
theorem spots_ev : Eo (fun k => windrowref06_Spots.f k P T R) (G P T R (cl P T R)) := by
  refine (l0_ev h 6 1 (by omega) (by omega)).congr fun k => ?_
  unfold windrowref06_Spots.f
  rw [right_true h]
  simp only [Option.bind_some, if_true]
  rw [if_pos (by simp)]
  rfl
end

theorem G_get {P T R n : Nat} (i : Nat) (hi : i < n) : rd_T100 (G P T R n) i = spotAt P T R i := by
  simp [rd_T100, G, List.getD_eq_getElem?_getD, hi]

/-! ### Where -/
section
variable {P T R : Nat} (h : right P T R)
include h

theorem where_l0_found {a b c : Int} (ha : a ≠ 0) {pos : Nat} (hp : pos < cl P T R) (hat : spotAt P T R pos = ⟨a, b, c⟩) (hu : ∀ m, m < pos → spotAt P T R m ≠ ⟨a, b, c⟩) :
    ∀ d i : Nat, i + d = pos → Eo (fun k => windrowref06_Where.l0 k (G P T R (cl P T R)) i a b c) (pos : Int) := by
  have hc := cl_le h
  intro d
  induction d with
  | zero =>
    intro i hi
    obtain rfl : i = pos := by omega
    refine Eo.step (g := fun _ => some (i : Int)) (Eo.of fun _ => rfl) fun k _ => ?_
    simp only [windrowref06_Where.l0, G_length]
    rw [if_pos (by omega), if_neg ha, if_pos (by omega), G_get i hp, hat]
    simp
  | succ d ih =>
    intro i hi
    refine (ih (i + 1) (by omega)).round fun k => ?_
    simp only [windrowref06_Where.l0, G_length]
    rw [if_pos (by omega), if_neg ha, if_pos (by omega), G_get i (by omega), if_neg, w64 (by omega) (by omega)]
    · rfl
    · intro e
      simp only [Bool.and_eq_true, beq_iff_eq] at e
      apply hu i (by omega)
      obtain ⟨e1, e2, e3⟩ := e
      rw [← e1, ← e2, ← e3]

theorem where_found {a b c : Int} (ha : a ≠ 0) {pos : Nat} (hp : pos < cl P T R) (hat : spotAt P T R pos = ⟨a, b, c⟩) (hu : ∀ m, m < pos → spotAt P T R m ≠ ⟨a, b, c⟩) :
    Eo (fun k => windrowref06_Where.f k P T R a b c) (pos : Int) := by
  have := Eo.bind (f := fun x k => windrowref06_Where.l0 k x 0 a b c) (spots_ev h) (where_l0_found h ha hp hat hu pos 0 (by omega))
  exact this.congr fun k => rfl

end

/-- What a cell's spot says of where it stands. -/
theorem spot_inv {P T R : Nat} (h : right P T R) {m : Nat} (hm : m < cl P T R) {a b c : Int} (e : spotAt P T R m = ⟨a, b, c⟩) :
    a = 0 ∨ (a = 1 ∧ 1 ≤ b ∧ b ≤ 6 ∧ c = 0 ∧ (m : Int) = b) ∨ (a = 2 ∧ 0 ≤ b ∧ b < 8 ∧ c = 0 ∧ (m : Int) = 8 + b) ∨
    (a = 3 ∧ 0 ≤ b ∧ b < T ∧ 0 ≤ c ∧ c < 5 ∧ (m : Int) = 16 + b * (5 + R) + c) ∨ (a = 4 ∧ 0 ≤ b ∧ b < T ∧ 0 ≤ c ∧ c < R ∧ (m : Int) = 16 + b * (5 + R) + 5 + c) ∨
    (a = 5 ∧ 0 ≤ b ∧ b < P ∧ c = 0 ∧ (m : Int) = tb T R + b) ∨ (a = 6 ∧ 0 ≤ b ∧ b < P ∧ c = 0 ∧ (m : Int) = tb T R + P + b) ∨ (a = 7 ∧ 0 ≤ b ∧ b < P ∧ c = 0 ∧ (m : Int) = tb T R + 2 * P + b) ∨
    (a = 8 ∧ 0 ≤ b ∧ b < P ∧ 0 ≤ c ∧ c < 64 ∧ (m : Int) = bs P T R + 64 * b + c) := by
  have h16 : 16 ≤ tb T R := by unfold tb; omega
  have hb := bs_ge P T R
  unfold cl at hm
  unfold spotAt at e
  split at e
  · injection e with e1 e2 e3; exact .inl e1.symm
  split at e
  · injection e with e1 e2 e3; exact .inr (.inl ⟨by omega, by omega, by omega, by omega, by omega⟩)
  split at e
  · injection e with e1 e2 e3; exact .inl e1.symm
  split at e
  · injection e with e1 e2 e3; exact .inr (.inr (.inl ⟨by omega, by omega, by omega, by omega, by omega⟩))
  split at e
  · rename_i h1 h2 h3 h4 h5
    have hdm := Nat.div_add_mod (m - 16) (5 + R)
    have hml := Nat.mod_lt (m - 16) (show 0 < 5 + R by omega)
    have hdl : (m - 16) / (5 + R) < T := by
      rw [Nat.div_lt_iff_lt_mul (by omega)]
      unfold tb at h5; omega
    have hcast : ((((m - 16) / (5 + R) : Nat) : Int)) * (5 + (R : Int)) = (((5 + R) * ((m - 16) / (5 + R)) : Nat) : Int) := by
      rw [Nat.mul_comm]; push_cast; rfl
    split at e
    · injection e with e1 e2 e3
      subst e1 e2 e3
      exact .inr (.inr (.inr (.inl ⟨rfl, Int.natCast_nonneg _, by omega, by omega, by omega, by rw [hcast]; omega⟩)))
    · injection e with e1 e2 e3
      subst e1 e2 e3
      exact .inr (.inr (.inr (.inr (.inl ⟨rfl, Int.natCast_nonneg _, by omega, by omega, by omega, by rw [hcast]; omega⟩))))
  split at e
  · injection e with e1 e2 e3; exact .inr (.inr (.inr (.inr (.inr (.inl ⟨by omega, by omega, by omega, by omega, by omega⟩)))))
  split at e
  · injection e with e1 e2 e3; exact .inr (.inr (.inr (.inr (.inr (.inr (.inl ⟨by omega, by omega, by omega, by omega, by omega⟩))))))
  split at e
  · injection e with e1 e2 e3; exact .inr (.inr (.inr (.inr (.inr (.inr (.inr (.inl ⟨by omega, by omega, by omega, by omega, by omega⟩)))))))
  split at e
  · injection e with e1 e2 e3; exact .inl e1.symm
  · injection e with e1 e2 e3; exact .inr (.inr (.inr (.inr (.inr (.inr (.inr (.inr ⟨by omega, by omega, by omega, by omega, by omega, by omega⟩)))))))

theorem tm {a b : Int} (h : 0 ≤ a) : Int.tmod a b = a % b := Int.tmod_eq_emod_of_nonneg h

theorem mul_le' {t T R : Nat} (ht : t ≤ T) (hT : T ≤ 6) (hR : R ≤ 16) : t * (5 + R) ≤ 126 := by
  have : t * (5 + R) ≤ 6 * 21 := Nat.mul_le_mul (by omega) (by omega)
  omega

section
variable {P T R : Nat} (h : right P T R)
include h

theorem p_each : layout_Plan_each.f P T R = some (((5 + R : Nat)) : Int) := by
  obtain ⟨h1, h2, h3, h4, h5, h6⟩ := h
  unfold layout_Plan_each.f
  rw [w64 (by omega) (by omega)]; simp

theorem p_of {i w : Int} (hw : 0 ≤ w) (hw2 : w ≤ 100) : layout_Plan_of.f P T R i w = some (if 0 ≤ i ∧ i < T then 16 + i * (5 + R) + w else -1) := by
  have hr := plan_right_true h
  have he := p_each h
  obtain ⟨h1, h2, h3, h4, h5, h6⟩ := h
  unfold layout_Plan_of.f
  rw [hr]
  simp only [Option.bind_some, if_true]
  by_cases hi : 0 ≤ i ∧ i < T
  · rw [if_neg (by omega), if_neg (by omega), he, if_pos hi]
    simp only [Option.bind_some]
    obtain ⟨t, rfl⟩ : ∃ t : Nat, i = t := ⟨i.toNat, by omega⟩
    have hm := mul_le' (show t ≤ T by omega) h4 h6
    have e : (t : Int) * ((5 + R : Nat) : Int) = ((t * (5 + R) : Nat) : Int) := by push_cast; rfl
    have e' : (t : Int) * (5 + (R : Int)) = ((t * (5 + R) : Nat) : Int) := by push_cast; rfl
    rw [e, e']
    simp (disch := omega) only [w64]
  · rw [if_neg hi]
    by_cases h0 : i < 0
    · rw [if_pos h0]
    · rw [if_neg h0, if_pos (by omega)]

theorem p_head {i : Int} : layout_Plan_Head.f P T R i = some (if 0 ≤ i ∧ i < T then 16 + i * (5 + R) + 3 else -1) := by unfold layout_Plan_Head.f; rw [p_of h (by omega) (by omega)]; rfl
theorem p_tail {i : Int} : layout_Plan_Tail.f P T R i = some (if 0 ≤ i ∧ i < T then 16 + i * (5 + R) + 4 else -1) := by unfold layout_Plan_Tail.f; rw [p_of h (by omega) (by omega)]; rfl
theorem p_slot {i n : Int} (h0 : 0 ≤ n) (hn : n ≤ 18446744073709551615) : layout_Plan_Slot.f P T R i n = some (if 0 ≤ i ∧ i < T then 16 + i * (5 + R) + 5 + n % R else -1) := by
  unfold layout_Plan_Slot.f
  rw [p_of h (by omega) (by omega)]
  obtain ⟨h1, h2, h3, h4, h5, h6⟩ := h
  simp only [Option.bind_some]
  by_cases hi : 0 ≤ i ∧ i < T
  · rw [if_pos hi, if_pos hi]
    obtain ⟨t, rfl⟩ : ∃ t : Nat, i = t := ⟨i.toNat, by omega⟩
    have hm := mul_le' (show t ≤ T by omega) h4 h6
    have e' : (t : Int) * (5 + (R : Int)) = ((t * (5 + R) : Nat) : Int) := by push_cast; rfl
    have hb := Int.emod_lt_of_pos n (show (0 : Int) < R by omega)
    have hb0 := Int.emod_nonneg n (show (R : Int) ≠ 0 by omega)
    rw [e', if_neg (by omega), u64i (by omega) (by omega), if_neg (by omega), tm h0]
    simp (disch := omega) only [w64]
  · rw [if_neg hi, if_neg hi, if_pos (by omega)]

end

theorem spot_base (P T R : Nat) : spotAt P T R (bs P T R) = ⟨8, 0, 0⟩ := by
  have hb := bs_ge P T R
  have h16 : 16 ≤ tb T R := by unfold tb; omega
  unfold spotAt
  rw [if_neg (by omega), if_neg (by omega), if_neg (by omega), if_neg (by omega), if_neg (by omega), if_neg (by omega), if_neg (by omega), if_neg (by omega), if_neg (by omega)]
  simp

theorem spot_5 {P T R i : Nat} (hi : i < P) : spotAt P T R (tb T R + i) = ⟨5, i, 0⟩ := by
  have h16 : 16 ≤ tb T R := by unfold tb; omega
  unfold spotAt
  rw [if_neg (by omega), if_neg (by omega), if_neg (by omega), if_neg (by omega), if_neg (by omega), if_pos (by omega)]
  congr 1; omega
/-! ### the plan that the chapter draws -/
theorem spot_head {P T R : Nat} {m : Nat} (hm : m < bs P T R) : spotAt P T R m ≠ ⟨8, 0, 0⟩ := by
  intro e
  unfold spotAt at e
  repeat' split at e
  all_goals first | (simp only [S100.mk.injEq] at e; omega) | omega
theorem draw_ev {P T R : Nat} (h : right P T R) : Eo (fun k => windrowref06_Draw.f k P T R) ((P : Int), (T : Int), (R : Int), ((bs P T R : Nat) : Int), ((tb T R : Nat) : Int), ((cl P T R : Nat) : Int)) := by
  have hb := bs_ge P T R
  have hP := h.1
  have hcl : cl P T R = bs P T R + 64 * P := rfl
  have h16 : 16 ≤ tb T R := by unfold tb; omega
  obtain ⟨K1, e1⟩ := where_found h (a := 8) (b := 0) (c := 0) (by decide) (pos := bs P T R) (by omega) (spot_base P T R) (fun m hm => spot_head hm)
  obtain ⟨K2, e2⟩ := where_found h (a := 5) (b := 0) (c := 0) (by decide) (pos := tb T R) (by omega) (spot_5 (i := 0) (by omega)) (fun m hm e => by
    have := spot_inv h (show m < cl P T R by omega) e
    omega)
  obtain ⟨K3, e3⟩ := spots_ev h
  refine ⟨K1 + K2 + K3, fun k hk => ?_⟩
  show windrowref06_Draw.f k P T R = _
  unfold windrowref06_Draw.f windrowref06_Base.f windrowref06_Cells.f
  have f1 : windrowref06_Where.f k P T R 8 0 0 = some ((bs P T R : Nat) : Int) := e1 k (by omega)
  have f2 : windrowref06_Where.f k P T R 5 0 0 = some ((tb T R : Nat) : Int) := e2 k (by omega)
  have f3 : windrowref06_Spots.f k P T R = some (G P T R (cl P T R)) := e3 k (by omega)
  rw [right_true h, f1, f2, f3]
  simp only [Option.bind_some, if_true, G_length]
theorem cells_ev {P T R : Nat} (h : right P T R) : Eo (fun k => windrowref06_Cells.f k P T R) ((cl P T R : Nat) : Int) := by
  obtain ⟨K3, e3⟩ := spots_ev h
  refine ⟨K3, fun k hk => ?_⟩
  show windrowref06_Cells.f k P T R = _
  unfold windrowref06_Cells.f
  have f3 : windrowref06_Spots.f k P T R = some (G P T R (cl P T R)) := e3 k hk
  rw [f3]
  simp only [Option.bind_some, G_length]
end Go.Proofs.Ytdcikbhfoplkmaa.Lay
