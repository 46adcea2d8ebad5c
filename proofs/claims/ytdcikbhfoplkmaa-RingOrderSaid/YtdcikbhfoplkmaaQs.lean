/- A queue at a ring: what holds behind each step of either side. -/
import Derived.Test.YtdcikbhfoplkmaaWw
namespace Go.Proofs.Ytdcikbhfoplkmaa.Ar
open Go Go.RowKit Go.Proofs.Ytdcikbhfoplkmaa.Hp Go.Proofs.Ytdcikbhfoplkmaa.PH
set_option linter.unusedVariables false
set_option linter.unusedSimpArgs false

def run (g : Int → Int) (a : Int) (n : Nat) : List Int := (List.range n).map fun (i : Nat) => g (a + i)
theorem run_succ (g : Int → Int) (a : Int) (n : Nat) : run g a (n + 1) = run g a n ++ [g (a + n)] := by
  unfold run
  rw [List.range_succ, List.map_append]
  rfl
theorem run_len (g : Int → Int) (a : Int) (n : Nat) : (run g a n).length = n := by simp [run]
theorem run_next {g : Int → Int} {a b : Int} (h : a ≤ b) : run g a (b + 1 - a).toNat = run g a (b - a).toNat ++ [g b] := by
  rw [show (b + 1 - a).toNat = (b - a).toNat + 1 by omega, run_succ, show a + ((b - a).toNat : Int) = b by omega]
theorem ports_set {ps : List (Nat × Int × Bool)} {i j c p : Nat} {who1 who2 : Int} {b1 b2 : Bool} (h1 : ps[i]? = some (c, who2, b2)) (h2 : ps[j]? = some (p, who1, b1)) (bx by_ : Bool) :
    (∃ b, ((ps.set i (c, who2, bx)).set i (c, who2, by_))[i]? = some (c, who2, b)) ∧ (∃ b, ((ps.set i (c, who2, bx)).set i (c, who2, by_))[j]? = some (p, who1, b)) := by
  rw [List.set_set]
  refine ⟨⟨by_, set_get2 h1⟩, ?_⟩
  by_cases e : i = j
  · subst e
    rw [h1] at h2
    injection h2 with h2
    injection h2 with e1 h2
    injection h2 with e2 h2
    subst e1 e2
    exact ⟨by_, set_get2 h1⟩
  · exact ⟨b1, by rw [List.getElem?_set_ne e]; exact h2⟩
theorem Vw.congr {s : AS} {R h t h' t' : Int} {f f' : Int → Int} (v : Vw s R h t f) (eh : h = h') (et : t = t') (ef : ∀ j, 0 ≤ j → j < R → f j = f' j) : Vw s R h' t' f' :=
  ⟨v.len, v.hd.trans eh, v.tl.trans et, fun j j0 j1 => (v.sl j j0 j1).trans (ef j j0 j1), v.nof⟩

theorem mod_ne {t n R : Int} (hR : 0 < R) (h1 : n < t) (h2 : t - n < R) : t % R ≠ n % R := by
  intro e
  have h3 : (t - n) % R = 0 := Int.emod_eq_emod_iff_emod_sub_eq_zero.1 e
  rw [Int.emod_eq_of_lt (by omega) h2] at h3
  omega
def PuOk (P T R nx t h : Int) (f : Int → Int) (ym : Option PS) : Prop :=
  ym = none ∨ (∃ hd, ym = some ⟨P, T, R, 0, nx, 1, hd, t, false⟩) ∨ (∃ hd, ym = some ⟨P, T, R, 0, nx, 2, hd, t, false⟩ ∧ t - h < R) ∨ (∃ hd, ym = some ⟨P, T, R, 0, nx, 3, hd, t, false⟩ ∧ t - h < R ∧ f (t % R) = nx)
def PoOk (P T R h t gh : Int) (yo : Option OS) : Prop :=
  yo = none ∨ yo = some ⟨P, T, R, 0, 1, h, 0, 0, false⟩ ∨ (∃ tl, yo = some ⟨P, T, R, 0, 2, h, tl, 0, false⟩ ∧ h < t) ∨ (∃ tl, yo = some ⟨P, T, R, 0, 3, h, tl, gh, false⟩ ∧ h < t)
def kU : Option PS → Int | none => 0 | some y => y.at_
def kO : Option OS → Int | none => 0 | some y => y.at_

/-- A queue at a ring. g: the words; h0, t0: the counts at first; h, t: the counts now. -/
structure QX (B : Nat) (w : World) (a cc x p c i j : Nat) (who1 who2 P T R : Int) (g : Int → Int) (h0 t0 h t : Int) (ym : Option PS) (yo : Option OS) (L : Nat) (s : AS) (f : Int → Int) (ps : List (Nat × Int × Bool)) (pu po : Option Nat) (vp vt : Value) : Prop where
  sys : Sys B w a cc s ps
  que : IsQ B w x p c cc pu po (g t) (run g t0 (t - t0).toNat) (run g h0 (h - h0).toNat) true vp vt
  vw : Vw s R h t f
  log : s.log.length ≤ L
  hp : (∃ b, ps[i]? = some (c, who2, b)) ∧ (∃ b, ps[j]? = some (p, who1, b))
  mu : (ym = none ∧ pu = none) ∨ ∃ m y, ym = some y ∧ pu = some m ∧ B ≤ m ∧ IsPush w m y
  mo : (yo = none ∧ po = none) ∨ ∃ m y, yo = some y ∧ po = some m ∧ B ≤ m ∧ IsPop w m y
  ok : plOk P T R
  rng : h0 ≤ h ∧ h ≤ t ∧ t ≤ h + R ∧ t0 ≤ t ∧ t ≤ t0 + L ∧ 0 ≤ h0 ∧ h0 ≤ t0 ∧ t0 ≤ 4611686018427387920 ∧ t0 ≤ h0 + R
  wrd : ∀ n, h ≤ n → n < t → f (n % R) = g n
  puk : PuOk P T R (g t) t h f ym
  pok : PoOk P T R h t (g h) yo
  gok : ∀ n, t0 ≤ n → n ≤ t0 + 200000 → 0 < g n ∧ g n < 9223372036854775807 ∧ g (n + 1) = g n + 1
def QS (B : Nat) (w : World) (a cc x p c i j : Nat) (who1 who2 P T R : Int) (g : Int → Int) (h0 t0 h t : Int) (ym : Option PS) (yo : Option OS) (L : Nat) : Prop :=
  ∃ s f ps pu po vp vt, QX B w a cc x p c i j who1 who2 P T R g h0 t0 h t ym yo L s f ps pu po vp vt

section
variable {B : Nat} {w w' : World} {a cc x p c i j : Nat} {who1 who2 P T R : Int} {g : Int → Int} {h0 t0 h t : Int} {ym : Option PS} {yo : Option OS} {L : Nat} {s : AS} {f : Int → Int} {ps : List (Nat × Int × Bool)} {pu po : Option Nat} {vp vt : Value}
theorem QX.pl (q : QX B w a cc x p c i j who1 who2 P T R g h0 t0 h t ym yo L s f ps pu po vp vt) : plOk P T R ∧ (0 : Int) ≤ 0 ∧ 0 < T := ⟨q.ok, by omega, by have := q.ok; unfold plOk at this; omega⟩
theorem QX.right (q : QX B w a cc x p c i j who1 who2 P T R g h0 t0 h t ym yo L s f ps pu po vp vt) : ring_right.f P T R 0 = some true := by rw [rp_ring, decide_eq_true q.pl]
theorem QX.aT (q : QX B w a cc x p c i j who1 who2 P T R g h0 t0 h t ym yo L s f ps pu po vp vt) : layout_Plan_Tail.f P T R 0 = some 20 := by have := rp_tail q.pl; simpa using this
theorem QX.aH (q : QX B w a cc x p c i j who1 who2 P T R g h0 t0 h t ym yo L s f ps pu po vp vt) : layout_Plan_Head.f P T R 0 = some 19 := by have := (rp_head q.pl).1; simpa using this
theorem QX.aS (q : QX B w a cc x p c i j who1 who2 P T R g h0 t0 h t ym yo L s f ps pu po vp vt) {n : Int} (hn : 0 ≤ n) : layout_Plan_Slot.f P T R 0 n = some (21 + n % R) := by have := rp_slot q.pl hn; simpa using this
theorem QX.hR (q : QX B w a cc x p c i j who1 who2 P T R g h0 t0 h t ym yo L s f ps pu po vp vt) : 1 ≤ R ∧ R ≤ 16 := by have := q.ok; unfold plOk at this; omega

/-- Behind a step of the side that takes. -/
theorem QX.afterT (q : QX B w a cc x p c i j who1 who2 P T R g h0 t0 h t ym yo L s f ps pu po vp vt) {s' : AS} {y' : OS} {ov : Bool} {h' : Int} {yo' : Option OS}
    (hA : AfterT B w a cc s' ((ps.set i (c, who2, true)).set i (c, who2, false)) x p c pu (g t) (run g t0 (t - t0).toNat) (run g h0 (h - h0).toNat) true vp y' ov w')
    (hv : Vw s' R h' t f) (hl : s'.log.length ≤ s.log.length + 1) (hh : h ≤ h' ∧ h' ≤ t)
    (htk : (if ov = true ∧ y'.empty = false then run g h0 (h - h0).toNat ++ [y'.v] else run g h0 (h - h0).toNat) = run g h0 (h' - h0).toNat)
    (hyo : (ov = true ∧ yo' = none) ∨ (ov = false ∧ yo' = some y')) (hpo : PoOk P T R h' t (g h') yo') :
    QS B w' a cc x p c i j who1 who2 P T R g h0 t0 h' t ym yo' (L + 1) := by
  obtain ⟨⟨po', vt', hq, hm⟩, hs, hb, hk⟩ := hA
  rw [htk] at hq
  obtain ⟨⟨b1, e1⟩, b2, e2⟩ := q.hp
  have r := q.rng
  refine ⟨s', f, _, pu, po', vp, vt', hs, hq, hv, Nat.le_trans hl (by have := q.log; omega), ports_set e1 e2 _ _, ?_, ?_, q.ok, ⟨by omega, hh.2, by omega, r.2.2.2.1, by push_cast; omega, r.2.2.2.2.2⟩, fun n n0 n1 => q.wrd n (by omega) n1, ?_, hpo, q.gok⟩
  · rcases q.mu with h1 | ⟨m, y, h1, h2, h3, h4⟩
    · exact .inl h1
    · exact .inr ⟨m, y, h1, h2, h3, hk m y h4⟩
  · rcases hm with ⟨h1, h2⟩ | ⟨h1, m, h2, h3, h4⟩
    · rcases hyo with ⟨_, h5⟩ | ⟨h5, _⟩
      · exact .inl ⟨h5, h2⟩
      · rw [h1] at h5; cases h5
    · rcases hyo with ⟨h5, _⟩ | ⟨_, h5⟩
      · rw [h1] at h5; cases h5
      · exact .inr ⟨m, y', h5, h2, h3, h4⟩
  · rcases q.puk with h1 | ⟨hd, h1⟩ | ⟨hd, h1, h2⟩ | ⟨hd, h1, h2, h3⟩
    · exact .inl h1
    · exact .inr (.inl ⟨hd, h1⟩)
    · exact .inr (.inr (.inl ⟨hd, h1, by omega⟩))
    · exact .inr (.inr (.inr ⟨hd, h1, by omega, h3⟩))

theorem QS.takes (hq : QS B w a cc x p c i j who1 who2 P T R g h0 t0 h t ym yo L) (hL : L ≤ 90000) :
    Calls Try.prog 18 #[.pointer (some ⟨x, 0, none⟩), .agg #[.int .i64 P, .int .i64 T, .int .i64 R]] w fun e w' => e = .returned (.tuple #[]) ∧ (∃ h' yo', QS B w' a cc x p c i j who1 who2 P T R g h0 t0 h' t ym yo' (L + 1) ∧ h ≤ h' ∧ h' ≤ t ∧ (h < t → 4 * (t - h') - kO yo' = 4 * (t - h) - kO yo - 1) ∧ (h = t → h' = t)) ∧ Below B w w' := by
  obtain ⟨s, f, ps, pu, po, vp, vt, q⟩ := hq
  have r := q.rng
  have hR := q.hR
  have hlg := q.log
  have hlen : (run g h0 (h - h0).toNat).length ≤ 100000 := by
    rw [run_len]
    omega
  have hL2 : s.log.length ≤ 1000000 := by omega
  obtain ⟨⟨b, hi⟩, hj⟩ := q.hp
  rcases q.pok with rfl | rfl | ⟨tl, rfl, ht⟩ | ⟨tl, rfl, ht⟩
  · rcases q.mo with ⟨_, rfl⟩ | ⟨m, y, h1, _⟩
    · refine (takes_nil (T := T) (R := R) (P := P) q.sys i hi q.que ⟨P, T, R, 0, 0, 0, 0, 0, false⟩ ⟨P, T, R, 0, 1, h, 0, 0, false⟩ (s.acc true who2 1 19 0 0).1 ((ps.set i (c, who2, true)).set i (c, who2, false)) false rfl q.right hlen (fun wx m hm hs hp => ?_) (by simp)).mono ?_
      · have := pop_step0 hs i (set_get2 hi) m hp hm q.aH hL2
        rw [q.vw.head hR.1] at this
        exact this
      · rintro e w' ⟨rfl, hA⟩
        exact ⟨rfl, ⟨h, _, q.afterT hA (q.vw.load (by omega) (by omega) _ _ _) (acc_len2 _ _ _ _ _ _ _) ⟨Int.le_refl _, r.2.1⟩ (if_neg (by simp)) (.inr ⟨rfl, rfl⟩) (.inr (.inl rfl)), Int.le_refl _, r.2.1, fun _ => by show 4 * (t - h) - 1 = 4 * (t - h) - 0 - 1; omega, fun z => z⟩, hA.2.2.1⟩
    · cases h1
  · rcases q.mo with ⟨h1, _⟩ | ⟨m, y, h1, rfl, hm, hp⟩
    · cases h1
    · obtain rfl := Option.some.inj h1
      by_cases hz : h = t
      · refine (takes_some (T := T) (R := R) (P := P) q.sys i hi q.que _ ⟨P, T, R, 0, 4, h, t, 0, true⟩ (s.acc true who2 1 20 0 0).1 ((ps.set i (c, who2, true)).set i (c, who2, false)) true hm hp q.right hlen (fun wx m hm hs hp => ?_) (fun _ => rfl)).mono ?_
        · have e := q.vw.tail hR.1 who2 0 0
          have := pop_step1full hs i (set_get2 hi) m hp hm q.aT hL2 (by rw [e]; exact hz)
          rw [e] at this
          exact this
        · rintro e w' ⟨rfl, hA⟩
          exact ⟨rfl, ⟨h, none, q.afterT hA (q.vw.load (by omega) (by omega) _ _ _) (acc_len2 _ _ _ _ _ _ _) ⟨Int.le_refl _, r.2.1⟩ (if_neg (by simp)) (.inl ⟨rfl, rfl⟩) (.inl rfl), Int.le_refl _, r.2.1, fun z => absurd hz (by omega), fun z => z⟩, hA.2.2.1⟩
      · refine (takes_some (T := T) (R := R) (P := P) q.sys i hi q.que _ ⟨P, T, R, 0, 2, h, t, 0, false⟩ (s.acc true who2 1 20 0 0).1 ((ps.set i (c, who2, true)).set i (c, who2, false)) false hm hp q.right hlen (fun wx m hm hs hp => ?_) (by simp)).mono ?_
        · have e := q.vw.tail hR.1 who2 0 0
          have := pop_step1room hs i (set_get2 hi) m hp hm q.aT hL2 (by rw [e]; exact hz)
          rw [e] at this
          exact this
        · rintro e w' ⟨rfl, hA⟩
          exact ⟨rfl, ⟨h, _, q.afterT hA (q.vw.load (by omega) (by omega) _ _ _) (acc_len2 _ _ _ _ _ _ _) ⟨Int.le_refl _, r.2.1⟩ (if_neg (by simp)) (.inr ⟨rfl, rfl⟩) (.inr (.inr (.inl ⟨_, rfl, by omega⟩))), Int.le_refl _, r.2.1, fun _ => by show 4 * (t - h) - 2 = 4 * (t - h) - 1 - 1; omega, fun z => z⟩, hA.2.2.1⟩
  · rcases q.mo with ⟨h1, _⟩ | ⟨m, y, h1, rfl, hm, hp⟩
    · cases h1
    · obtain rfl := Option.some.inj h1
      have j0 := Int.emod_nonneg h (show R ≠ 0 by omega)
      have j1 := Int.emod_lt_of_pos h (show 0 < R by omega)
      refine (takes_some (T := T) (R := R) (P := P) q.sys i hi q.que _ ⟨P, T, R, 0, 3, h, tl, g h, false⟩ (s.acc true who2 1 (21 + h % R) 0 0).1 ((ps.set i (c, who2, true)).set i (c, who2, false)) false hm hp q.right hlen (fun wx m hm hs hp => ?_) (by simp)).mono ?_
      · have e := q.vw.slot j0 j1 who2 0 0
        rw [q.wrd h (Int.le_refl _) ht] at e
        have := pop_step2 hs i (set_get2 hi) m hp hm (q.aS (by omega)) hL2
        rw [e] at this
        exact this
      · rintro e w' ⟨rfl, hA⟩
        exact ⟨rfl, ⟨h, _, q.afterT hA (q.vw.load (by omega) (by omega) _ _ _) (acc_len2 _ _ _ _ _ _ _) ⟨Int.le_refl _, r.2.1⟩ (if_neg (by simp)) (.inr ⟨rfl, rfl⟩) (.inr (.inr (.inr ⟨_, rfl, ht⟩))), Int.le_refl _, r.2.1, fun _ => by show 4 * (t - h) - 3 = 4 * (t - h) - 2 - 1; omega, fun z => z⟩, hA.2.2.1⟩
  · rcases q.mo with ⟨h1, _⟩ | ⟨m, y, h1, rfl, hm, hp⟩
    · cases h1
    · obtain rfl := Option.some.inj h1
      refine (takes_some (T := T) (R := R) (P := P) q.sys i hi q.que _ ⟨P, T, R, 0, 4, h, tl, g h, false⟩ (s.acc true who2 2 19 0 (IntKind.u64.wrap (h + 1))).1 ((ps.set i (c, who2, true)).set i (c, who2, false)) true hm hp q.right hlen (fun wx m hm hs hp => ?_) (fun _ => rfl)).mono ?_
      · exact pop_step3 hs i (set_get2 hi) m hp hm q.aH hL2
      · rintro e w' ⟨rfl, hA⟩
        refine ⟨rfl, ⟨h + 1, none, q.afterT hA ((q.vw.store (by omega) (by omega) _ _).congr ?_ (if_neg (by omega)) (fun j _ _ => if_neg (by omega))) (acc_len2 _ _ _ _ _ _ _) ⟨by omega, by omega⟩ ?_ (.inl ⟨rfl, rfl⟩) (.inl rfl), by omega, by omega, fun _ => by show 4 * (t - (h + 1)) - 0 = 4 * (t - h) - 3 - 1; omega, fun z => by omega⟩, hA.2.2.1⟩
        · rw [if_pos rfl]; exact u64_big (by omega) (by omega)
        · rw [if_pos ⟨rfl, rfl⟩]; exact (run_next r.1).symm

/-- Behind a step of the side that puts. -/
theorem QX.afterP (q : QX B w a cc x p c i j who1 who2 P T R g h0 t0 h t ym yo L s f ps pu po vp vt) {s' : AS} {y' : PS} {ov : Bool} {t' : Int} {f' : Int → Int} {ym' : Option PS}
    (hA : AfterP B w a cc s' ((ps.set j (p, who1, true)).set j (p, who1, false)) x p c po (g t) (run g t0 (t - t0).toNat) (run g h0 (h - h0).toNat) true vt y' ov w')
    (hv : Vw s' R h t' f') (hl : s'.log.length ≤ s.log.length + 1) (hh : t ≤ t' ∧ t' ≤ h + R ∧ t' ≤ t + 1)
    (hnx : (if ov = true ∧ y'.full = false then IntKind.u64.wrap (g t + 1) else g t) = g t')
    (hpt : (if ov = true ∧ y'.full = false then run g t0 (t - t0).toNat ++ [g t] else run g t0 (t - t0).toNat) = run g t0 (t' - t0).toNat)
    (hym : (ov = true ∧ ym' = none) ∨ (ov = false ∧ ym' = some y')) (hpu : PuOk P T R (g t') t' h f' ym') (hw : ∀ n, h ≤ n → n < t' → f' (n % R) = g n) :
    QS B w' a cc x p c i j who1 who2 P T R g h0 t0 h t' ym' yo (L + 1) := by
  obtain ⟨⟨pu', vp', hq, hm⟩, hs, hb, hk⟩ := hA
  rw [hnx, hpt] at hq
  obtain ⟨⟨b1, e1⟩, b2, e2⟩ := q.hp
  have r := q.rng
  have hps := ports_set e2 e1 true false
  refine ⟨s', f', _, pu', po, vp', vt, hs, hq, hv, Nat.le_trans hl (by have := q.log; omega), ⟨hps.2, hps.1⟩, ?_, ?_, q.ok, ⟨r.1, by omega, by omega, by omega, by push_cast; omega, r.2.2.2.2.2⟩, hw, hpu, ?_, q.gok⟩
  · rcases hm with ⟨h1, h2⟩ | ⟨h1, m, h2, h3, h4⟩
    · rcases hym with ⟨_, h5⟩ | ⟨h5, _⟩
      · exact .inl ⟨h5, h2⟩
      · rw [h1] at h5; cases h5
    · rcases hym with ⟨h5, _⟩ | ⟨_, h5⟩
      · rw [h1] at h5; cases h5
      · exact .inr ⟨m, y', h5, h2, h3, h4⟩
  · rcases q.mo with h1 | ⟨m, y, h1, h2, h3, h4⟩
    · exact .inl h1
    · exact .inr ⟨m, y, h1, h2, h3, hk m y h4⟩
  · rcases q.pok with h1 | h1 | ⟨tl, h1, h2⟩ | ⟨tl, h1, h2⟩
    · exact .inl h1
    · exact .inr (.inl h1)
    · exact .inr (.inr (.inl ⟨tl, h1, by omega⟩))
    · exact .inr (.inr (.inr ⟨tl, h1, by omega⟩))

theorem QS.puts (hq : QS B w a cc x p c i j who1 who2 P T R g h0 t0 h t ym yo L) (hL : L ≤ 90000) :
    Calls Try.prog 19 #[.pointer (some ⟨x, 0, none⟩), .agg #[.int .i64 P, .int .i64 T, .int .i64 R]] w fun e w' => e = .returned (.tuple #[]) ∧ (∃ t' ym', QS B w' a cc x p c i j who1 who2 P T R g h0 t0 h t' ym' yo (L + 1) ∧ ((ym' = none ∧ (t' = t + 1 ∧ kU ym = 3 ∨ t' = t ∧ t - h = R ∧ kU ym = 1)) ∨ (t' = t ∧ ym' ≠ none ∧ kU ym' = kU ym + 1 ∧ kU ym ≤ 2 ∧ (kU ym = 1 → t - h < R)))) ∧ Below B w w' := by
  obtain ⟨s, f, ps, pu, po, vp, vt, q⟩ := hq
  have r := q.rng
  have hR := q.hR
  have hlg := q.log
  have hlen : (run g t0 (t - t0).toNat).length ≤ 100000 := by
    rw [run_len]
    omega
  have hL2 : s.log.length ≤ 1000000 := by omega
  obtain ⟨hi, b, hj⟩ := q.hp
  have hg := q.gok t (by omega) (by omega)
  have eR : IntKind.u64.wrap R = R := u64_small (by omega) (by omega)
  rcases q.puk with rfl | ⟨hd, rfl⟩ | ⟨hd, rfl, ht⟩ | ⟨hd, rfl, ht, hf⟩
  · rcases q.mu with ⟨_, rfl⟩ | ⟨m, y, h1, _⟩
    · refine (puts_nil (T := T) (R := R) (P := P) q.sys j hj q.que ⟨P, T, R, 0, g t, 0, 0, 0, false⟩ ⟨P, T, R, 0, g t, 1, 0, t, false⟩ (s.acc true who1 1 20 0 0).1 ((ps.set j (p, who1, true)).set j (p, who1, false)) false rfl q.right (by omega) hlen (fun wx m hm hs hp => ?_)).mono ?_
      · have := push_step0 hs j (set_get2 hj) m hp hm q.aT hL2
        rw [q.vw.tail hR.1] at this
        exact this
      · rintro e w' ⟨rfl, hA⟩
        exact ⟨rfl, ⟨t, _, q.afterP hA (q.vw.load (by omega) (by omega) _ _ _) (acc_len2 _ _ _ _ _ _ _) ⟨Int.le_refl _, r.2.2.1, by omega⟩ (if_neg (by simp)) (if_neg (by simp)) (.inr ⟨rfl, rfl⟩) (.inr (.inl ⟨_, rfl⟩)) q.wrd, .inr ⟨rfl, by simp, rfl, by decide, fun z => by cases z⟩⟩, hA.2.2.1⟩
    · cases h1
  · rcases q.mu with ⟨h1, _⟩ | ⟨m, y, h1, rfl, hm, hp⟩
    · cases h1
    · obtain rfl := Option.some.inj h1
      have e := q.vw.head hR.1 who1 0 0
      have eD : IntKind.u64.wrap (t - h) = t - h := u64_big (by omega) (by omega)
      by_cases hz : R ≤ t - h
      · refine (puts_some (T := T) (R := R) (P := P) q.sys j hj q.que _ ⟨P, T, R, 0, g t, 4, h, t, true⟩ (s.acc true who1 1 19 0 0).1 ((ps.set j (p, who1, true)).set j (p, who1, false)) true hm hp q.right (by omega) hlen (fun wx m hm hs hp => ?_)).mono ?_
        · have := push_step1full hs j (set_get2 hj) m hp hm q.aH hL2 (by rw [e, eR, eD]; exact hz)
          rw [e] at this
          exact this
        · rintro e w' ⟨rfl, hA⟩
          exact ⟨rfl, ⟨t, none, q.afterP hA (q.vw.load (by omega) (by omega) _ _ _) (acc_len2 _ _ _ _ _ _ _) ⟨Int.le_refl _, r.2.2.1, by omega⟩ (if_neg (by simp)) (if_neg (by simp)) (.inl ⟨rfl, rfl⟩) (.inl rfl) q.wrd, .inl ⟨rfl, .inr ⟨rfl, by omega, rfl⟩⟩⟩, hA.2.2.1⟩
      · refine (puts_some (T := T) (R := R) (P := P) q.sys j hj q.que _ ⟨P, T, R, 0, g t, 2, h, t, false⟩ (s.acc true who1 1 19 0 0).1 ((ps.set j (p, who1, true)).set j (p, who1, false)) false hm hp q.right (by omega) hlen (fun wx m hm hs hp => ?_)).mono ?_
        · have := push_step1room hs j (set_get2 hj) m hp hm q.aH hL2 (by rw [e, eR, eD]; exact hz)
          rw [e] at this
          exact this
        · rintro e w' ⟨rfl, hA⟩
          exact ⟨rfl, ⟨t, _, q.afterP hA (q.vw.load (by omega) (by omega) _ _ _) (acc_len2 _ _ _ _ _ _ _) ⟨Int.le_refl _, r.2.2.1, by omega⟩ (if_neg (by simp)) (if_neg (by simp)) (.inr ⟨rfl, rfl⟩) (.inr (.inr (.inl ⟨_, rfl, by omega⟩))) q.wrd, .inr ⟨rfl, by simp, rfl, by show (1 : Int) ≤ 2; decide, fun _ => by omega⟩⟩, hA.2.2.1⟩
  · rcases q.mu with ⟨h1, _⟩ | ⟨m, y, h1, rfl, hm, hp⟩
    · cases h1
    · obtain rfl := Option.some.inj h1
      have j0 := Int.emod_nonneg t (show R ≠ 0 by omega)
      have j1 := Int.emod_lt_of_pos t (show 0 < R by omega)
      refine (puts_some (T := T) (R := R) (P := P) q.sys j hj q.que _ ⟨P, T, R, 0, g t, 3, hd, t, false⟩ (s.acc true who1 2 (21 + t % R) 0 (g t)).1 ((ps.set j (p, who1, true)).set j (p, who1, false)) false hm hp q.right (by omega) hlen (fun wx m hm hs hp => ?_)).mono ?_
      · exact push_step2 hs j (set_get2 hj) m hp hm (q.aS (by omega)) hL2
      · rintro e w' ⟨rfl, hA⟩
        refine ⟨rfl, ⟨t, _, q.afterP hA ((q.vw.store (by omega) (by omega) _ _).congr (if_neg (by omega)) (if_neg (by omega)) (fun j _ _ => rfl)) (acc_len2 _ _ _ _ _ _ _) ⟨Int.le_refl _, r.2.2.1, by omega⟩ (if_neg (by simp)) (if_neg (by simp)) (.inr ⟨rfl, rfl⟩) (.inr (.inr (.inr ⟨_, rfl, ht, if_pos rfl⟩))) ?_, .inr ⟨rfl, by simp, rfl, by show (2 : Int) ≤ 2; decide, fun z => by cases z⟩⟩, hA.2.2.1⟩
        intro n n0 n1
        have hne : t % R ≠ n % R := mod_ne (by omega) n1 (by omega)
        show (if 21 + t % R = 21 + n % R then g t else f (n % R)) = g n
        rw [if_neg (by omega)]
        exact q.wrd n n0 n1
  · rcases q.mu with ⟨h1, _⟩ | ⟨m, y, h1, rfl, hm, hp⟩
    · cases h1
    · obtain rfl := Option.some.inj h1
      refine (puts_some (T := T) (R := R) (P := P) q.sys j hj q.que _ ⟨P, T, R, 0, g t, 4, hd, t, false⟩ (s.acc true who1 2 20 0 (IntKind.u64.wrap (t + 1))).1 ((ps.set j (p, who1, true)).set j (p, who1, false)) true hm hp q.right (by omega) hlen (fun wx m hm hs hp => ?_)).mono ?_
      · exact push_step3 hs j (set_get2 hj) m hp hm q.aT hL2
      · rintro e w' ⟨rfl, hA⟩
        refine ⟨rfl, ⟨t + 1, none, q.afterP hA ((q.vw.store (by omega) (by omega) _ _).congr (if_neg (by omega)) ?_ (fun j _ _ => if_neg (by omega))) (acc_len2 _ _ _ _ _ _ _) ⟨by omega, by omega, by omega⟩ ?_ ?_ (.inl ⟨rfl, rfl⟩) (.inl rfl) ?_, .inl ⟨rfl, .inl ⟨rfl, rfl⟩⟩⟩, hA.2.2.1⟩
        · rw [if_pos rfl]; exact u64_big (by omega) (by omega)
        · rw [if_pos ⟨rfl, rfl⟩, u64_big (by omega) (by omega)]; exact hg.2.2.symm
        · rw [if_pos ⟨rfl, rfl⟩]; exact (run_next r.2.2.2.1).symm
        · intro n n0 n1
          by_cases hn : n < t
          · exact q.wrd n n0 hn
          · obtain rfl : n = t := by omega
            exact hf
end
theorem row_slice {B e size n n1 : Nat} {w : World} {v : Value} {xs : List Value} (h : w.ownsRow B e size v n xs) (hn : n = n1) : ∃ A cap, v = .slice A n1 cap := by
  subst hn
  rcases h.2 with ⟨rfl, rfl⟩ | ⟨g, cap, cur, rfl, _⟩
  · exact ⟨none, 0, rfl⟩
  · exact ⟨_, cap, rfl⟩
theorem QX.below {B : Nat} {w w' : World} {a cc x p c i j : Nat} {who1 who2 P T R : Int} {g : Int → Int} {h0 t0 h t : Int} {ym : Option PS} {yo : Option OS} {L : Nat} {s : AS} {f : Int → Int} {ps : List (Nat × Int × Bool)} {pu po : Option Nat} {vp vt : Value}
    (q : QX B w a cc x p c i j who1 who2 P T R g h0 t0 h t ym yo L s f ps pu po vp vt) (hb : Below w.heap.size w w') : QX B w' a cc x p c i j who1 who2 P T R g h0 t0 h t ym yo L s f ps pu po vp vt :=
  ⟨q.sys.below hb, q.que.below hb, q.vw, q.log, q.hp, q.mu.imp id (fun ⟨m, y, h1, h2, h3, h4⟩ => ⟨m, y, h1, h2, h3, blk_below h4 hb⟩), q.mo.imp id (fun ⟨m, y, h1, h2, h3, h4⟩ => ⟨m, y, h1, h2, h3, blk_below h4 hb⟩), q.ok, q.rng, q.wrd, q.puk, q.pok, q.gok⟩
theorem QS.up {B : Nat} {w : World} {a cc x p c i j : Nat} {who1 who2 P T R : Int} {g : Int → Int} {h0 t0 h t : Int} {ym : Option PS} {yo : Option OS} {L L' : Nat} (hq : QS B w a cc x p c i j who1 who2 P T R g h0 t0 h t ym yo L) (hL : L ≤ L') : QS B w a cc x p c i j who1 who2 P T R g h0 t0 h t ym yo L' := by
  obtain ⟨s, f, ps, pu, po, vp, vt, q⟩ := hq
  have r := q.rng
  exact ⟨s, f, ps, pu, po, vp, vt, q.sys, q.que, q.vw, Nat.le_trans q.log hL, q.hp, q.mu, q.mo, q.ok, ⟨r.1, r.2.1, r.2.2.1, r.2.2.2.1, by omega, r.2.2.2.2.2⟩, q.wrd, q.puk, q.pok, q.gok⟩
theorem run_get (g : Int → Int) (a : Int) (n i : Nat) (h : i < n) : (run g a n).getD i 0 = g (a + i) := by
  unfold run
  rw [List.getD_eq_getElem?_getD, List.getElem?_map, List.getElem?_range h]
  rfl
theorem QS.ku {B : Nat} {w : World} {a cc x p c i j : Nat} {who1 who2 P T R : Int} {g : Int → Int} {h0 t0 h t : Int} {ym : Option PS} {yo : Option OS} {L : Nat} (hq : QS B w a cc x p c i j who1 who2 P T R g h0 t0 h t ym yo L) : ym = none ∨ (((0 : Nat) : Int) + 1 ≤ kU ym ∧ kU ym ≤ 3) := by
  obtain ⟨s, f, ps, pu, po, vp, vt, q⟩ := hq
  rcases q.puk with h1 | ⟨hd, rfl⟩ | ⟨hd, rfl, _⟩ | ⟨hd, rfl, _⟩
  · exact .inl h1
  · exact .inr ⟨by simp [kU], by simp [kU]⟩
  · exact .inr ⟨by simp [kU], by simp [kU]⟩
  · exact .inr ⟨by simp [kU], by simp [kU]⟩
theorem QS.ko {B : Nat} {w : World} {a cc x p c i j : Nat} {who1 who2 P T R : Int} {g : Int → Int} {h0 t0 h t : Int} {ym : Option PS} {yo : Option OS} {L : Nat} (hq : QS B w a cc x p c i j who1 who2 P T R g h0 t0 h t ym yo L) : 0 ≤ kO yo ∧ kO yo ≤ 3 ∧ h ≤ t ∧ t ≤ h + R := by
  obtain ⟨s, f, ps, pu, po, vp, vt, q⟩ := hq
  refine ⟨?_, ?_, q.rng.2.1, q.rng.2.2.1⟩
  · rcases q.pok with rfl | rfl | ⟨tl, rfl, _⟩ | ⟨tl, rfl, _⟩ <;> simp [kO]
  · rcases q.pok with rfl | rfl | ⟨tl, rfl, _⟩ | ⟨tl, rfl, _⟩ <;> simp [kO]
end Go.Proofs.Ytdcikbhfoplkmaa.Ar
