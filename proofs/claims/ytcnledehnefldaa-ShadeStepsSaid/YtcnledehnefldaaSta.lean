/- One thread's shade, and its mark, with their tapes: what they are in memory; a step of each. -/
import Derived.Test.YtcnledehnefldaaStp
import Derived.Test.YtcnledehnefldaaDuo
import Derived.Test.YtcnledehnefldaaPHx6
import Derived.RangeFuncNested
import Derived.RangeFuncFrom
import Derived.RangeFuncBound
import Derived.RangeFuncCalls
import Derived.RangeFuncLeaves
import Derived.RangeFuncBox
import Derived.Shelf.Abstract
import Derived.OwnWalkIn
import Derived.TacticsInMore
import Derived.LoopNIn
import Derived.LoopIn
import Derived.Shelf.RegionOpen
import Derived.Test.YtcnledehnefldaaRk
import Derived.Maps.AppendAt
namespace Go.Proofs.Ytcnledehnefldaa.Dd
open Go Go.RowKit Go.Proofs.Ytcnledehnefldaa.Hp Go.Proofs.Ytcnledehnefldaa.PH Go.Proofs.Ytcnledehnefldaa.Ar Go.Proofs.Ytcnledehnefldaa.Eo
set_option linter.unusedVariables false
set_option linter.unusedSimpArgs false
set_option linter.unusedSectionVars false

theorem held_eq {P T R b t : Nat} {ref : Int} {x : SS} {H : List Int} (hx : SOk P T R ref t x) (h : TR R b x H) : (if x.at_ = 1 ∨ x.at_ = 2 then x.ms.ref else 0) = bif x.fresh && !(decide (x.at_ = 3)) then ref else 0 := by
  have er : x.ms.ref = ref := hx.er
  rw [er]
  rcases h with ⟨h0, _, hf, _⟩ | ⟨h3, hf, _⟩ | ⟨hf, o, K, _, _, _, h⟩
  · rw [hf, h0]; rfl
  · rw [hf, h3]; rfl
  · rw [hf]
    rcases h with ⟨a1, _⟩ | ⟨a1, _⟩ | ⟨a1, _⟩ | ⟨a1, _⟩ | ⟨a1, _⟩ | ⟨a1, _⟩ | ⟨a1, _⟩ <;> rw [a1] <;> rfl
theorem mark_z (P T R B0 T0 C0 : Int) (H : List Int) (n1 n2 n3 n4 n5 n6 n7 : Int) : windrowref08_Mark.f 100 H 0 n1 n2 n3 n4 n5 n6 n7 false P T R B0 T0 C0 0 = some (true, false, 0, n1, n2, n3, n4, n5, n6, n7, false) := by
  unfold windrowref08_Mark.f
  rw [if_pos rfl]
theorem shade_z (P T R B0 T0 C0 t : Int) (H : List Int) (n1 n2 n3 n4 n5 n6 n7 : Int) : windrowref08_Shade.f 100 H 0 n1 n2 n3 n4 n5 n6 n7 false P T R B0 T0 C0 t 0 = some (true, false, false, 0, n1, n2, n3, n4, n5, n6, n7, false) := by
  unfold windrowref08_Shade.f
  rw [mark_z, Option.bind_some]
  refine (if_pos rfl).trans ?_
  show windrowref08_Shade.j0 (99 + 1) _ _ _ _ _ _ _ _ _ _ _ _ _ _ _ _ _ _ _ _ _ = _
  simp only [windrowref08_Shade.j0]
  exact if_pos (by first | trivial | rfl)

/-- A thread's shade. -/
def ShP (B c cc P T R t : Nat) (w : World) (v0 v2 v4 : Value) (O : Nat → Prop) : Prop :=
  v0 = .pointer none ∨ ∃ (m mk gt : Nat) (A : Option Addr) (cp : Nat) (H : List Int) (pos : Int) (n : Nx) (stop : Bool) (ref : Int), v0 = .pointer (some ⟨m, 0, none⟩) ∧ v2 = .pointer (some ⟨gt, 0, none⟩) ∧ v4 = .int .u64 ref ∧
    IsTp B w c cc gt A cp H pos n stop ∧ O m ∧ O mk ∧ (∀ k, TpOwn gt A cp H.length k → O k) ∧
    ((ref = 0 ∧ H = [] ∧ ShB w m mk none 3 false ∧ IsMark w mk ⟨P, T, R, 0, true, false⟩) ∨
     ∃ (pu pg b : Nat) (x : SS), pg < P ∧ b < 64 ∧ ref = ((Lay.bs P T R + 64 * pg + b : Nat) : Int) ∧ IsShade w m mk pu x ∧ SOk P T R ref t x ∧ TR R b x H ∧ (B ≤ m ∧ B ≤ mk ∧ B ≤ pu) ∧ O pu)
/-- A thread's mark. -/
def MkP (B c cc P T R : Nat) (w : World) (v0 v2 v4 : Value) (O : Nat → Prop) : Prop :=
  v0 = .pointer none ∨ ∃ (m gt : Nat) (A : Option Addr) (cp : Nat) (H : List Int) (pos : Int) (n : Nx) (stop : Bool) (ref : Int) (x : MS), v0 = .pointer (some ⟨m, 0, none⟩) ∧ v2 = .pointer (some ⟨gt, 0, none⟩) ∧ v4 = .int .u64 ref ∧
    IsTp B w c cc gt A cp H pos n stop ∧ O m ∧ (∀ k, TpOwn gt A cp H.length k → O k) ∧ IsMark w m x ∧ B ≤ m ∧
    ((ref = 0 ∧ H = [] ∧ x = ⟨P, T, R, 0, true, false⟩) ∨ ∃ (pg b : Nat), pg < P ∧ b < 64 ∧ ref = ((Lay.bs P T R + 64 * pg + b : Nat) : Int) ∧ TM b x H ∧ x.P = P ∧ x.T = T ∧ x.R = R ∧ x.ref = ref)
/-- What may be new. -/
def Up (O : Nat → Prop) (w w' : World) (k : Nat) : Prop := O k ∨ (w.heap.size ≤ k ∧ k < w'.heap.size)
section
variable {B : Nat} {w w' : World} {a c am cc p P T R t : Nat} {s s2 : AS} {ps qs : List (Nat × Int × Bool)} {v0 v2 v4 : Value} {O O' D : Nat → Prop}
theorem ShP.mono (h : ShP B c cc P T R t w v0 v2 v4 O) (hO : ∀ k, O k → O' k) : ShP B c cc P T R t w v0 v2 v4 O' := by
  rcases h with h | ⟨m, mk, gt, A, cp, H, pos, n, stop, ref, h0, h1, h2, h3, h4, h5, h6, h7⟩
  · exact .inl h
  · refine .inr ⟨m, mk, gt, A, cp, H, pos, n, stop, ref, h0, h1, h2, h3, hO _ h4, hO _ h5, fun k hk => hO _ (h6 k hk), ?_⟩
    rcases h7 with h7 | ⟨pu, pg, b, x, g1, g2, g3, g4, g5, g6, g7, g8⟩
    · exact .inl h7
    · exact .inr ⟨pu, pg, b, x, g1, g2, g3, g4, g5, g6, g7, hO _ g8⟩
theorem MkP.mono (h : MkP B c cc P T R w v0 v2 v4 O) (hO : ∀ k, O k → O' k) : MkP B c cc P T R w v0 v2 v4 O' := by
  rcases h with h | ⟨m, gt, A, cp, H, pos, n, stop, ref, x, h0, h1, h2, h3, h4, h6, h7⟩
  · exact .inl h
  · exact .inr ⟨m, gt, A, cp, H, pos, n, stop, ref, x, h0, h1, h2, h3, hO _ h4, fun k hk => hO _ (h6 k hk), h7⟩
theorem ShP.fr (h : ShP B c cc P T R t w v0 v2 v4 O) (hd : Duo B w a c s ps am cc s2 qs) (hF : Fr (fun k => D k ∨ TouchD c cc w k) w w') (hD : ∀ k, O k → ¬ D k) : ShP B c cc P T R t w' v0 v2 v4 O := by
  rcases h with h | ⟨m, mk, gt, A, cp, H, pos, n, stop, ref, h0, h1, h2, h3, h4, h5, h6, h7⟩
  · exact .inl h
  · refine .inr ⟨m, mk, gt, A, cp, H, pos, n, stop, ref, h0, h1, h2, h3.fr hF (fun k hk z => z.elim (hD k (h6 k hk)) (h3.free hd k hk)), h4, h5, h6, ?_⟩
    rcases h7 with ⟨g1, g2, g3, g4⟩ | ⟨pu, pg, b, x, g1, g2, g3, g4, g5, g6, g7, g8⟩
    · exact .inl ⟨g1, g2, hF.blk g3 (fun z => z.elim (hD m h4) (duo_nt hd g3 (by decide))), hF.blk g4 (fun z => z.elim (hD mk h5) (duo_nt hd g4 (by decide)))⟩
    · have hf := g4.freeD hd
      exact .inr ⟨pu, pg, b, x, g1, g2, g3, g4.fr hF (fun z => z.elim (hD m h4) hf.1) (fun z => z.elim (hD mk h5) hf.2.1) (fun z => z.elim (hD pu g8) hf.2.2), g5, g6, g7, g8⟩
theorem MkP.fr (h : MkP B c cc P T R w v0 v2 v4 O) (hd : Duo B w a c s ps am cc s2 qs) (hF : Fr (fun k => D k ∨ TouchD c cc w k) w w') (hD : ∀ k, O k → ¬ D k) : MkP B c cc P T R w' v0 v2 v4 O := by
  rcases h with h | ⟨m, gt, A, cp, H, pos, n, stop, ref, x, h0, h1, h2, h3, h4, h6, h7, h8⟩
  · exact .inl h
  · exact .inr ⟨m, gt, A, cp, H, pos, n, stop, ref, x, h0, h1, h2, h3.fr hF (fun k hk z => z.elim (hD k (h6 k hk)) (h3.free hd k hk)), h4, h6, hF.blk h7 (fun z => z.elim (hD m h4) (duo_nt hd h7 (by decide))), h8⟩
end
/-- Behind a step. -/
structure Went (w0 w w' : World) (a c am cc p : Nat) (n : Nat) (s : AS) (O : Nat → Prop) (s' : AS) : Prop where
  duo : Duo w0.heap.size w' a c s' [(p, 9, false)] am cc s' []
  ok : ArOk n s'
  len : s'.log.length ≤ s.log.length + 1
  bel : Below w0.heap.size w0 w'
  fr : Fr (fun k => O k ∨ TouchD c cc w k) w w'
section
variable {w0 w : World} {a c am cc p sb o m gt P T R t : Nat} {s : AS} {arr : Array Value} {v2 v4 : Value} {O : Nat → Prop}
set_option maxHeartbeats 1000000 in
theorem ShP.step (hr : Lay.right P T R) (ht : t < T) (bare : Bool) (h : ShP w0.heap.size c cc P T R t w (.pointer (some ⟨m, 0, none⟩)) v2 v4 O) (hd : Duo w0.heap.size w a c s [(p, 9, false)] am cc s []) (hB : Below w0.heap.size w0 w) (hc : ArOk (Lay.cl P T R) s) (hl : s.log.length ≤ 1000)
    (hS : w.heap[sb]? = some (.cells arr 73 (0, 0))) (e0 : arr[o]? = some (.pointer (some ⟨m, 0, none⟩))) (e2 : arr[o + 2]? = some v2) (e4 : arr[o + 4]? = some v4) :
    Calls Try.prog 32 #[.pointer (some ⟨sb, o, none⟩), .pointer (some ⟨p, 0, none⟩), .pointer (some ⟨am, 0, none⟩), .agg #[.int .i64 P, .int .i64 T, .int .i64 R, .int .i64 (Lay.bs P T R : Nat), .int .i64 (Lay.tb T R : Nat), .int .i64 (Lay.cl P T R : Nat)], .int .i64 t, .bool bare] w fun e w' => e = .returned (.bool true) ∧ ∃ s', Went w0 w w' a c am cc p (Lay.cl P T R) s O s' ∧ ShP w0.heap.size c cc P T R t w' (.pointer (some ⟨m, 0, none⟩)) v2 v4 (Up O w w') := by
  rcases h with h | ⟨m', mk, gt, A, cp, H, pos, n, stop, ref, h0, rfl, rfl, hT, o1, o2, o3, h7⟩
  · simp at h
  have em : m = m' := by simpa using h0
  subst em
  -- nothing is stepped: the tape alone is written
  have still : ∀ (ov fr lo : Bool) (pos2 : Int) (n2 : Nx) (stop2 : Bool), windrowref08_Shade.f 100 H 0 n.who n.kind n.at_ n.want n.put n.seen n.left false P T R (Lay.bs P T R : Nat) (Lay.tb T R : Nat) (Lay.cl P T R : Nat) t ref = some (ov, fr, lo, pos2, n2.who, n2.kind, n2.at_, n2.want, n2.put, n2.seen, n2.left, stop2) → (ov || bare) = true →
      (∀ w1, Fr (fun k => TpOwn gt A cp H.length k) w w1 → (Calls Try.prog 17 #[.pointer (some ⟨m, 0, none⟩), .pointer (some ⟨p, 0, none⟩)] w1 fun e w2 => e = .returned (.bool ov) ∧ w2 = w1) ∧ (Calls Try.prog 18 #[.pointer (some ⟨m, 0, none⟩)] w1 fun e w2 => e = .returned (.bool ov) ∧ w2 = w1) ∧ (Calls Try.prog 19 #[.pointer (some ⟨m, 0, none⟩)] w1 fun e w2 => e = .returned (.bool fr) ∧ w2 = w1) ∧ (Calls Try.prog 20 #[.pointer (some ⟨m, 0, none⟩)] w1 fun e w2 => e = .returned (.bool lo) ∧ w2 = w1) ∧ (Calls Try.prog 21 #[.pointer (some ⟨m, 0, none⟩)] w1 fun e w2 => e = .returned (.int .u64 (bif fr && !ov then ref else 0)) ∧ w2 = w1)) →
      Calls Try.prog 32 #[.pointer (some ⟨sb, o, none⟩), .pointer (some ⟨p, 0, none⟩), .pointer (some ⟨am, 0, none⟩), .agg #[.int .i64 P, .int .i64 T, .int .i64 R, .int .i64 (Lay.bs P T R : Nat), .int .i64 (Lay.tb T R : Nat), .int .i64 (Lay.cl P T R : Nat)], .int .i64 t, .bool bare] w fun e w' => e = .returned (.bool true) ∧ ∃ s', Went w0 w w' a c am cc p (Lay.cl P T R) s O s' ∧ ShP w0.heap.size c cc P T R t w' (.pointer (some ⟨m, 0, none⟩)) (.pointer (some ⟨gt, 0, none⟩)) (.int .u64 ref) (Up O w w') := by
    intro ov fr lo pos2 n2 stop2 hs1 hob hask
    refine (shades_still (a := a) (s := s) (p := p) (am := am) bare hB hT hS e0 e2 e4 hs1 hob hask).mono ?_
    rintro e w' ⟨rfl, hT', hb, hF⟩
    have hFw : Fr (fun k => O k ∨ TouchD c cc w k) w w' := hF.mono fun k _ hk => .inl (o3 k hk)
    refine ⟨rfl, s, ⟨hd.fr hF (fun k _ hk => hT.free hd k hk), hc, Nat.le_succ _, hb, hFw⟩, .inr ⟨m, mk, gt, A, cp, H, pos2, n2, stop2, ref, rfl, rfl, rfl, hT', .inl o1, .inl o2, fun k hk => .inl (o3 k hk), ?_⟩⟩
    rcases h7 with ⟨g1, g2, g3, g4⟩ | ⟨pu, pg, b, x, g1, g2, g3, g4, g5, g6, g7, g8⟩
    · exact .inl ⟨g1, g2, hF.blk g3 (tp_not hT g3 (by decide)), hF.blk g4 (tp_not hT g4 (by decide))⟩
    · exact .inr ⟨pu, pg, b, x, g1, g2, g3, g4.fr hF (tp_not hT g4.blk (by decide)) (tp_not hT g4.mrk (by decide)) (tp_not hT g4.psh (by decide)), g5, g6, g7, .inl g8⟩
  rcases h7 with ⟨rfl, rfl, g3, g4⟩ | ⟨pu, pg, b, x, g1, g2, g3, g4, g5, g6, g7, g8⟩
  · exact still true false false 0 ⟨n.who, n.kind, n.at_, n.want, n.put, n.seen, n.left⟩ false (shade_z _ _ _ _ _ _ _ _ _ _ _ _ _ _ _) rfl (fun w1 hF => by
      have k3 := hF.blk g3 (tp_not hT g3 (by decide))
      have k4 := hF.blk g4 (tp_not hT g4 (by decide))
      exact ⟨shade_step_over _ m mk _ _ _ k3, shade_over _ m mk _ _ _ k3, shade_fresh _ m mk _ _ _ k3 _ k4, shade_lost _ m mk _ _ _ k3, shade_held _ m mk _ _ _ k3 _ k4⟩)
  obtain ⟨pos2, n2, stop2, hs1, hs2⟩ := shade_tells hr g1 g2 g3 ht g5 g6 n.who n.kind n.at_ n.want n.put n.seen n.left
  have hhv := held_eq g5 g6
  by_cases h3 : x.at_ = 3
  · rw [decide_eq_true h3] at hs1 hhv
    refine still true x.fresh x.lost pos2 n2 stop2 hs1 rfl (fun w1 hF => ?_)
    have k3 := hF.blk g4.blk (tp_not hT g4.blk (by decide))
    have k4 := hF.blk g4.mrk (tp_not hT g4.mrk (by decide))
    refine ⟨shade_step_over _ m mk _ _ _ (h3 ▸ k3), ?_, shade_fresh _ m mk _ _ _ k3 _ k4, shade_lost _ m mk _ _ _ k3, ?_⟩
    · have h := shade_over _ m mk _ _ _ k3
      rwa [show (x.at_ == 3) = true from beq_iff_eq.2 h3] at h
    · have h := shade_held _ m mk _ _ _ k3 _ k4
      rwa [hhv] at h
  rw [decide_eq_false h3] at hs1 hhv
  cases bare with
  | true =>
    refine still false x.fresh x.lost pos2 n2 stop2 hs1 rfl (fun w1 hF => ?_)
    have k3 := hF.blk g4.blk (tp_not hT g4.blk (by decide))
    have k4 := hF.blk g4.mrk (tp_not hT g4.mrk (by decide))
    refine ⟨shade_step_shut (hd.fr hF (fun k _ hk => hT.free hd k hk)) 0 rfl m mk _ _ _ k3 h3, ?_, shade_fresh _ m mk _ _ _ k3 _ k4, shade_lost _ m mk _ _ _ k3, ?_⟩
    · have h := shade_over _ m mk _ _ _ k3
      rwa [show (x.at_ == 3) = false by simpa using h3] at h
    · have h := shade_held _ m mk _ _ _ k3 _ k4
      rwa [hhv] at h
  | false =>
    obtain ⟨q, q1, q2, q3, q4, q5⟩ := nxt_in hr g1 g2 g3 ht g5
    have hnx := hs2 h3
    have hq : n2.kind = (nxt (onL P T R pg b t) x).1 ∧ n2.at_ = (nxt (onL P T R pg b t) x).2.1 ∧ n2.want = (nxt (onL P T R pg b t) x).2.2.1 ∧ n2.put = (nxt (onL P T R pg b t) x).2.2.2 := by rw [← hnx]; exact ⟨rfl, rfl, rfl, rfl⟩
    obtain ⟨hst, htr⟩ := shade_ans (pg := pg) g5 g6 h3 hc.cw 9
    have hso := sok_step (n := 0) (pg := pg) (b := b) g5 h3 hc.cw 9
    have hko := acc_kept hc q2 9 (nxt (onL P T R pg b t) x).1 (nxt (onL P T R pg b t) x).2.2.2 q3.2 q5
    rw [← q1, ← q4] at hko
    rw [← hq.1, ← hq.2.1, ← hq.2.2.1, ← hq.2.2.2] at hst htr hko
    have hpl := one_pl hr g1 g2 g3 ht g5
    have hsl := one_slot hr g1 g2 g3 ht g5
    obtain ⟨sa, hsa⟩ : ∃ sa, s.acc true 9 n2.kind n2.at_ n2.want n2.put = sa := ⟨_, rfl⟩
    rw [hsa] at hst htr hko
    obtain ⟨x1, hx1⟩ : ∃ x1, (shStep (onL P T R pg b t) 9 s x).2 = x1 := ⟨_, rfl⟩
    rw [hx1] at htr hso
    obtain ⟨pos3, n3, stop3, ht1, -⟩ := shade_tells hr g1 g2 g3 ht hso htr n2.who n2.kind n2.at_ n2.want n2.put n2.seen n2.left
    have hhv1 := held_eq hso htr
    refine (shades_go (p := p) (am := am) (w0 := w0) hB hT hS e0 e2 e4 hd (fun w1 => IsShade w1 m mk pu x) (fun w1 => IsShade w1 m mk pu x1) (fun k => k = m ∨ k = mk ∨ k = pu) g4
      (fun w1 w2 S h hF hS => h.fr hF (fun z => hS _ z (.inl rfl)) (fun z => hS _ z (.inr (.inl rfl))) (fun z => hS _ z (.inr (.inr rfl))))
      (fun w1 h k hk => by
        rcases hk with rfl | rfl | rfl
        · exact ⟨_, _, h.blk, .inl rfl⟩
        · exact ⟨_, _, h.mrk, .inr (.inl rfl)⟩
        · exact ⟨_, _, h.psh, .inr (.inr rfl)⟩)
      hs1 (by rw [hq.1]; omega) sa hsa ht1 (by omega) (Nat.le_trans g6.len (by decide))
      (fun w1 hd1 hx1' => ?_) (fun w1 hX1 => ?_)).mono ?_
    · have hm := shade_step hd1 0 rfl hx1' g7 g5.ok h3 hpl (fun _ _ => hsl) (by omega)
      rw [hx1, hst] at hm
      refine hm.mono ?_
      rintro e w2 ⟨rfl, k1, k2, k3, k4⟩
      exact ⟨rfl, k1, k2, k3, k4.mono fun k _ z => by
        rcases z with z | z | z | z
        · exact .inl (.inl z)
        · exact .inl (.inr (.inl z))
        · exact .inl (.inr (.inr z))
        · exact .inr z⟩
    · refine ⟨?_, shade_fresh _ m mk _ _ _ hX1.blk _ hX1.mrk, shade_lost _ m mk _ _ _ hX1.blk, ?_⟩
      · have h := shade_over _ m mk _ _ _ hX1.blk
        rwa [show (x1.at_ == 3) = decide (x1.at_ = 3) from rfl] at h
      · have h := shade_held _ m mk _ _ _ hX1.blk _ hX1.mrk
        rwa [hhv1] at h
    · rintro e w' ⟨rfl, k1, k2, k3, k4, A', cp', k5, k6⟩
      refine ⟨rfl, sa.1, ⟨k1, hko.1, hko.2, k3, k4.mono fun k _ z => ?_⟩, .inr ⟨m, mk, gt, A', cp', _, pos3, n3, stop3, ref, rfl, rfl, rfl, k5, .inl o1, .inl o2, fun k hk => ?_, .inr ⟨pu, pg, b, x1, g1, g2, g3, k2, hso, htr, g7, .inl g8⟩⟩⟩
      · rcases z with z | z | z
        · rcases z with rfl | rfl | rfl
          · exact .inl o1
          · exact .inl o2
          · exact .inl g8
        · exact .inl (o3 k z)
        · exact .inr z
      · rcases k6 k hk with z | z
        · exact .inl (o3 k z)
        · refine .inr ⟨z, ?_⟩
          rcases hk with rfl | hk
          · exact blk_lt k5.blk
          · obtain ⟨⟨cs, h1⟩, _⟩ := own_touch2 k5.row k hk
            exact blk_lt h1
/-- Where a reference's mark stands. -/
theorem mark_pl (hr : Lay.right P T R) {pg b : Nat} {ref : Int} (hpg : pg < P) (hb : b < 64) (href : ref = ((Lay.bs P T R + 64 * pg + b : Nat) : Int)) (ht : t < T) : ∃ pg', layout_Plan_Place.f P T R (IntKind.i64.wrap ref) = some (pg', (b : Int)) ∧ layout_Plan_Mark.f P T R pg' = some ((Lay.tb T R + 2 * P + pg : Nat) : Int) :=
  (one_pl hr hpg hb href ht (x := ⟨P, T, R, t, ref, 0, false, false, false, 0, 0, 0, false⟩) ⟨rfl, rfl, rfl, rfl, rfl, .inl ⟨rfl, rfl, rfl, rfl⟩, fun h => by simp at h, fun _ => rfl, fun h => absurd rfl h, ⟨Int.le_refl 0, (by show (0 : Int) < 18446744073709551616; decide)⟩⟩).pl
set_option maxHeartbeats 1000000 in
theorem MkP.step (hr : Lay.right P T R) (ht : t < T) (bare : Bool) (h : MkP w0.heap.size c cc P T R w (.pointer (some ⟨m, 0, none⟩)) v2 v4 O) (hd : Duo w0.heap.size w a c s [(p, 9, false)] am cc s []) (hB : Below w0.heap.size w0 w) (hc : ArOk (Lay.cl P T R) s) (hl : s.log.length ≤ 1000)
    (hS : w.heap[sb]? = some (.cells arr 73 (0, 0))) (e0 : arr[o + 1]? = some (.pointer (some ⟨m, 0, none⟩))) (e2 : arr[o + 3]? = some v2) (e4 : arr[o + 5]? = some v4) :
    Calls Try.prog 33 #[.pointer (some ⟨sb, o, none⟩), .pointer (some ⟨p, 0, none⟩), .pointer (some ⟨am, 0, none⟩), .agg #[.int .i64 P, .int .i64 T, .int .i64 R, .int .i64 (Lay.bs P T R : Nat), .int .i64 (Lay.tb T R : Nat), .int .i64 (Lay.cl P T R : Nat)], .bool bare] w fun e w' => e = .returned (.bool true) ∧ ∃ s', Went w0 w w' a c am cc p (Lay.cl P T R) s O s' ∧ MkP w0.heap.size c cc P T R w' (.pointer (some ⟨m, 0, none⟩)) v2 v4 (Up O w w') := by
  rcases h with h | ⟨m', gt, A, cp, H, pos, n, stop, ref, x, h0, rfl, rfl, hT, o1, o3, g4, gB, h7⟩
  · simp at h
  have em : m = m' := by simpa using h0
  subst em
  have still : ∀ (pos2 : Int) (n2 : Nx) (stop2 : Bool), windrowref08_Mark.f 100 H 0 n.who n.kind n.at_ n.want n.put n.seen n.left false P T R (Lay.bs P T R : Nat) (Lay.tb T R : Nat) (Lay.cl P T R : Nat) ref = some (x.done, x.fresh, pos2, n2.who, n2.kind, n2.at_, n2.want, n2.put, n2.seen, n2.left, stop2) → (x.done || bare) = true →
      (∀ w1, Fr (fun k => TpOwn gt A cp H.length k) w w1 → (Calls Try.prog 14 #[.pointer (some ⟨m, 0, none⟩), .pointer (some ⟨p, 0, none⟩)] w1 fun e w2 => e = .returned (.bool x.done) ∧ w2 = w1)) →
      Calls Try.prog 33 #[.pointer (some ⟨sb, o, none⟩), .pointer (some ⟨p, 0, none⟩), .pointer (some ⟨am, 0, none⟩), .agg #[.int .i64 P, .int .i64 T, .int .i64 R, .int .i64 (Lay.bs P T R : Nat), .int .i64 (Lay.tb T R : Nat), .int .i64 (Lay.cl P T R : Nat)], .bool bare] w fun e w' => e = .returned (.bool true) ∧ ∃ s', Went w0 w w' a c am cc p (Lay.cl P T R) s O s' ∧ MkP w0.heap.size c cc P T R w' (.pointer (some ⟨m, 0, none⟩)) (.pointer (some ⟨gt, 0, none⟩)) (.int .u64 ref) (Up O w w') := by
    intro pos2 n2 stop2 hs1 hob hask
    refine (marks_still (a := a) (s := s) (p := p) (am := am) bare hB hT hS e0 e2 e4 hs1 hob (fun w1 hF => ⟨hask w1 hF, ?_⟩)).mono ?_
    · have k := hF.blk g4 (tp_not hT g4 (by decide))
      exact ⟨mark_over _ m _ k, mark_fresh _ m _ k⟩
    · rintro e w' ⟨rfl, hT', hb, hF⟩
      have hFw : Fr (fun k => O k ∨ TouchD c cc w k) w w' := hF.mono fun k _ hk => .inl (o3 k hk)
      exact ⟨rfl, s, ⟨hd.fr hF (fun k _ hk => hT.free hd k hk), hc, Nat.le_succ _, hb, hFw⟩, .inr ⟨m, gt, A, cp, H, pos2, n2, stop2, ref, x, rfl, rfl, rfl, hT', .inl o1, fun k hk => .inl (o3 k hk), hF.blk g4 (tp_not hT g4 (by decide)), gB, h7⟩⟩
  rcases h7 with ⟨rfl, rfl, rfl⟩ | ⟨pg, b, g1, g2, g3, g6, eP, eT, eR, er⟩
  · exact still 0 ⟨n.who, n.kind, n.at_, n.want, n.put, n.seen, n.left⟩ false (mark_z _ _ _ _ _ _ _ _ _ _ _ _ _ _) rfl (fun w1 hF => mark_step_over _ m _ _ (hF.blk g4 (tp_not hT g4 (by decide))) rfl)
  obtain ⟨pos2, n2, stop2, hs1, hs2⟩ := mark_tells hr g1 g2 g3 g6 n.who n.kind n.at_ n.want n.put n.seen n.left
  by_cases h3 : x.done = true
  · exact still pos2 n2 stop2 hs1 (by rw [h3]; rfl) (fun w1 hF => by rw [h3]; exact mark_step_over _ m _ _ (hF.blk g4 (tp_not hT g4 (by decide))) h3)
  have h3f : x.done = false := by simpa using h3
  cases bare with
  | true => exact still pos2 n2 stop2 hs1 (by rw [h3f]; rfl) (fun w1 hF => by rw [h3f]; exact mark_step_shut (hd.fr hF (fun k _ hk => hT.free hd k hk)) 0 rfl m _ (hF.blk g4 (tp_not hT g4 (by decide))) h3f)
  | false =>
    have hnx := hs2 h3f
    have hq : n2.kind = 5 ∧ n2.at_ = ((Lay.tb T R + 2 * P + pg : Nat) : Int) ∧ n2.want = 0 ∧ n2.put = bitOf (b : Int) := by
      simp only [Prod.mk.injEq] at hnx
      exact hnx
    have hlt := (q_lt (P := P) (b := b) hr g1 g2 (j := 4) ht (by omega)).2.1
    have hko := acc_kept hc hlt 9 5 (bitOf (b : Int)) (.inr (.inr rfl)) (by rw [bitOf_eq g2]; exact pow_lt g2)
    have hrg := acc_range hc.cw true 9 5 ((Lay.tb T R + 2 * P + pg : Nat) : Int) 0 (bitOf (b : Int))
    obtain ⟨pg', hp1, hp2⟩ := mark_pl hr g1 g2 g3 ht
    obtain ⟨sa, hsa⟩ : ∃ sa, s.acc true 9 5 ((Lay.tb T R + 2 * P + pg : Nat) : Int) 0 (bitOf (b : Int)) = sa := ⟨_, rfl⟩
    rw [hsa] at hko hrg
    obtain ⟨xP, xT, xR, xref, xd, xf⟩ := x
    simp only at eP eT eR er h3f
    subst eP eT eR er h3f
    have hHe : H = [] ∧ xf = false := by
      rcases g6 with ⟨_, h2, h3⟩ | ⟨h1, _⟩
      · exact ⟨h3, h2⟩
      · simp at h1
    obtain ⟨rfl, rfl⟩ := hHe
    have htm : TM b ⟨P, T, R, xref, true, bitIn sa.2 (b : Int)⟩ ([] ++ [sa.2]) := .inr ⟨rfl, sa.2, rfl, hrg, rfl⟩
    obtain ⟨pos3, n3, stop3, ht1, -⟩ := mark_tells hr g1 g2 g3 htm n2.who n2.kind n2.at_ n2.want n2.put n2.seen n2.left
    refine (marks_go (p := p) (am := am) (w0 := w0) hB hT hS e0 e2 e4 hd (fun w1 => IsMark w1 m ⟨P, T, R, xref, false, false⟩) (fun w1 => IsMark w1 m ⟨P, T, R, xref, true, bitIn sa.2 (b : Int)⟩) (fun k => k = m) g4
      (fun w1 w2 S h hF hS => hF.blk h (fun z => hS _ z rfl)) (fun w1 h k hk => by subst hk; exact ⟨_, _, h, .inr (.inl rfl)⟩)
      hs1 (by rw [hq.1]; decide) sa (by rw [hq.1, hq.2.1, hq.2.2.1, hq.2.2.2]; exact hsa) ht1 (by omega) (by simp)
      (fun w1 hd1 hx1' => ?_) (fun w1 hX1 => ⟨mark_over _ m _ hX1, mark_fresh _ m _ hX1⟩)).mono ?_
    · have hm := mark_step_go hd1 0 rfl m hx1' gB hp1 (Int.natCast_nonneg _) hp2 (by omega)
      rw [hsa] at hm
      refine hm.mono ?_
      rintro e w2 ⟨rfl, k1, k2, k3, k4⟩
      exact ⟨rfl, k1, k2, k3, k4⟩
    · rintro e w' ⟨rfl, k1, k2, k3, k4, A', cp', k5, k6⟩
      refine ⟨rfl, sa.1, ⟨k1, hko.1, hko.2, k3, k4.mono fun k _ z => ?_⟩, .inr ⟨m, gt, A', cp', _, pos3, n3, stop3, xref, _, rfl, rfl, rfl, k5, .inl o1, fun k hk => ?_, k2, gB, .inr ⟨pg, b, g1, g2, g3, htm, rfl, rfl, rfl, rfl⟩⟩⟩
      · rcases z with rfl | z | z
        · exact .inl o1
        · exact .inl (o3 k z)
        · exact .inr z
      · rcases k6 k hk with z | z
        · exact .inl (o3 k z)
        · refine .inr ⟨z, ?_⟩
          rcases hk with rfl | hk
          · exact blk_lt k5.blk
          · obtain ⟨⟨cs, h1⟩, _⟩ := own_touch2 k5.row k hk
            exact blk_lt h1
end
end Go.Proofs.Ytcnledehnefldaa.Dd
/- What the walk of ShadeSteps rests on, in plain words (some of ShadeOne's lemmas). -/
namespace Go.Proofs.Ytcnledehnefldaa.Dd
open Go Go.RowKit Go.Proofs.Ytcnledehnefldaa.Hp Go.Proofs.Ytcnledehnefldaa.PH Go.Proofs.Ytcnledehnefldaa.Ar Go.Proofs.Ytcnledehnefldaa.Eo
open Go.Proofs.YtcnledehnefldaaW.PrintLast (i64_w)
set_option linter.unusedVariables false
set_option linter.unusedSimpArgs false

theorem cut8 (x : Int) {m : Int} (h0 : 0 < m) (h1 : m ≤ 1000) : ∃ n : Nat, (n : Int) < m ∧ wrap64 (Int.tmod (IntKind.u64.wrap x) m) = n := by
  have hx : 0 ≤ IntKind.u64.wrap x := by rw [u64w]; omega
  rw [Lay.tm hx]
  have hb := Int.emod_lt_of_pos (IntKind.u64.wrap x) h0
  have hb0 := Int.emod_nonneg (IntKind.u64.wrap x) (show m ≠ 0 by omega)
  exact ⟨(IntKind.u64.wrap x % m).toNat, by omega, by rw [w64 (by omega) (by omega)]; omega⟩

theorem small_yes (P0 T0 R0 : Int) : ∃ P T R : Nat, Lay.right P T R ∧ P ≤ 3 ∧ T ≤ 4 ∧ windrowlaw08_small.f P0 T0 R0 = some ((P : Int), (T : Int), (R : Int)) := by
  obtain ⟨p, hp, ep⟩ := cut8 P0 (show (0 : Int) < 3 by omega) (by omega)
  obtain ⟨t, ht, et⟩ := cut8 T0 (show (0 : Int) < 4 by omega) (by omega)
  obtain ⟨r, hr, er⟩ := cut8 R0 (show (0 : Int) < 3 by omega) (by omega)
  refine ⟨1 + p, 1 + t, 1 + r, by unfold Lay.right; omega, by omega, by omega, ?_⟩
  unfold windrowlaw08_small.f
  rw [ep, et, er, w64 (by omega) (by omega), w64 (by omega) (by omega), w64 (by omega) (by omega)]
  congr 1

/-- The object: a page of the heap and a word of it. -/
theorem refers_yes {P T R : Nat} (hr : Lay.right P T R) {x : Int} (h0 : x ≠ 0) (h : 0 ≤ x ∧ x < 18446744073709551616) : ∃ pg b : Nat, pg < P ∧ b < 64 ∧
    windrowlaw08_refers.f P T R (Lay.bs P T R : Nat) (Lay.tb T R : Nat) (Lay.cl P T R : Nat) x = some ((Lay.bs P T R + 64 * pg + b : Nat) : Int) ∧
    windrowref06_Map_Heap.f P T R (Lay.bs P T R : Nat) (Lay.tb T R : Nat) (Lay.cl P T R : Nat) (wrap64 ((Lay.bs P T R + 64 * pg + b : Nat) : Int)) = some ((pg : Int), (b : Int)) := by
  have hc := Lay.cl_le hr
  have hcb : Lay.cl P T R = Lay.bs P T R + 64 * P := rfl
  have hP := hr.1
  have key : ∀ m : Nat, m < 64 * P → ∃ pg b : Nat, pg < P ∧ b < 64 ∧ m = 64 * pg + b := fun m hm => ⟨m / 64, m % 64, by omega, Nat.mod_lt _ (by omega), by omega⟩
  have heap : ∀ pg b : Nat, pg < P → b < 64 → windrowref06_Map_Heap.f P T R (Lay.bs P T R : Nat) (Lay.tb T R : Nat) (Lay.cl P T R : Nat) (wrap64 ((Lay.bs P T R + 64 * pg + b : Nat) : Int)) = some ((pg : Int), (b : Int)) := fun pg b hp hb => by
    unfold windrowref06_Map_Heap.f
    rw [w64 (by omega) (by omega), if_neg (by omega), if_neg (by omega), if_neg (by omega), w64 (x := _ - _) (by omega) (by omega), Lay.td (by omega), Lay.tm (by omega), w64 (by omega) (by omega)]
    congr 1
    rw [Prod.mk.injEq]; omega
  by_cases hin : (Lay.bs P T R : Int) ≤ x ∧ x < Lay.cl P T R
  · obtain ⟨n, rfl⟩ := Int.eq_ofNat_of_zero_le h.1
    obtain ⟨pg, b, hp, hb, e⟩ := key (n - Lay.bs P T R) (by omega)
    refine ⟨pg, b, hp, hb, ?_, heap pg b hp hb⟩
    unfold windrowlaw08_refers.f windrowref08_Ref.f
    rw [if_neg h0, if_pos (by omega), u64i (by omega) (by omega), u64i (by omega) (by omega), if_pos (by omega), decide_eq_true (by omega)]
    simp only [Option.bind_some, if_true]
    congr 1
    omega
  · have hm : 0 ≤ x % ((64 * P : Nat) : Int) ∧ x % ((64 * P : Nat) : Int) < ((64 * P : Nat) : Int) := ⟨Int.emod_nonneg _ (by omega), Int.emod_lt_of_pos _ (by omega)⟩
    obtain ⟨pg, b, hp, hb, e⟩ := key (x % ((64 * P : Nat) : Int)).toNat (by omega)
    refine ⟨pg, b, hp, hb, ?_, heap pg b hp hb⟩
    have e2 : ((Lay.cl P T R : Nat) : Int) - ((Lay.bs P T R : Nat) : Int) = ((64 * P : Nat) : Int) := by rw [hcb]; push_cast; omega
    have hnot : windrowref08_Ref.f P T R (Lay.bs P T R : Nat) (Lay.tb T R : Nat) (Lay.cl P T R : Nat) x = some false := by
      unfold windrowref08_Ref.f
      rw [if_pos (by omega), u64i (by omega) (by omega), u64i (by omega) (by omega)]
      by_cases h1 : (Lay.bs P T R : Int) ≤ x
      · rw [if_pos (by omega), decide_eq_false (by omega)]
      · rw [if_neg (by omega)]
    unfold windrowlaw08_refers.f
    rw [if_neg h0, hnot]
    simp only [Option.bind_some, Bool.false_eq_true, if_false]
    rw [e2, w64 (x := ((64 * P : Nat) : Int)) (by omega) (by omega), u64i (x := ((64 * P : Nat) : Int)) (by omega) (by omega), if_neg (by omega), Lay.tm h.1, u64i (x := ((Lay.bs P T R : Nat) : Int)) (by omega) (by omega), u64i (by omega) (by omega)]
    congr 1
    omega

theorem one_cl {P T R : Nat} (hr : Lay.right P T R) : 1 ≤ Lay.cl P T R ∧ Lay.cl P T R ≤ 4096 := by
  have hc := Lay.cl_le hr
  have hcb : Lay.cl P T R = Lay.bs P T R + 64 * P := rfl
  have := hr.1
  omega

/-- What NewShade asks. -/
theorem one_new {P T R pg b t : Nat} {ref : Int} (hr : Lay.right P T R) (hpg : pg < P) (hb : b < 64) (href : ref = ((Lay.bs P T R + 64 * pg + b : Nat) : Int)) (ht : t < T) :
    layout_Plan_Status.f P T R t = some ((16 + t * (5 + R) : Nat) : Int) ∧ layout_Plan_Base.f P T R = some ((Lay.bs P T R : Nat) : Int) ∧ ref ≠ 0 ∧ layout_Plan_Ref.f P T R ref = some true ∧ ring_right.f P T R t = some true := by
  have hbs := Lay.bs_ge P T R
  have h16 : 16 ≤ Lay.tb T R := by unfold Lay.tb; omega
  have hcb : Lay.cl P T R = Lay.bs P T R + 64 * P := rfl
  have e1 : layout_Plan_Status.f P T R t = some ((16 + t * (5 + R) : Nat) : Int) := by
    rw [Lay.p_status hr, if_pos (by omega)]; congr 1
  refine ⟨e1, Lay.p_base hr, by omega, by rw [Lay.p_ref hr (by omega), decide_eq_true (by omega)], ?_⟩
  unfold ring_right.f; rw [e1]; simp only [Option.bind_some]; exact congrArg some (decide_eq_true (by omega))

/-- Which shade takes the step. -/
theorem idx_of (x : Int) {T : Nat} (h1 : 1 ≤ T) (h2 : T ≤ 6) : ∃ k : Nat, k < T ∧ wrap64 (Int.tmod (IntKind.u64.wrap x) (T : Int)) = k := by
  obtain ⟨k, hk, e⟩ := cut8 x (m := (T : Int)) (by omega) (by omega)
  exact ⟨k, by omega, e⟩
theorem refers_zero (P T R B0 T0 C0 : Int) : windrowlaw08_refers.f P T R B0 T0 C0 0 = some 0 := by
  unfold windrowlaw08_refers.f
  rw [if_pos rfl]
end Go.Proofs.Ytcnledehnefldaa.Dd
/- ShadeSteps: what holds at the head of its loop; what a step, or a new machine, leaves of it. -/
namespace Go.Proofs.Ytcnledehnefldaa.Dd
open Go Go.RowKit Go.Proofs.Ytcnledehnefldaa.Hp Go.Proofs.Ytcnledehnefldaa.PH Go.Proofs.Ytcnledehnefldaa.Ar Go.Proofs.Ytcnledehnefldaa.Eo
set_option linter.unusedVariables false
set_option linter.unusedSimpArgs false
set_option linter.unusedSectionVars false

/-- The blocks that the law holds beside the machines: the sides, the plan, the drawn plan, the answer. -/
structure Fx where
  a : Nat
  c : Nat
  am : Nat
  cc : Nat
  p : Nat
  sb : Nat
  qb : Nat
  db : Nat
  rb : Nat
  fb : Nat
def mapC (P T R : Nat) : Array Value := #[.int .i64 P, .int .i64 T, .int .i64 R, .int .i64 (Lay.bs P T R : Nat), .int .i64 (Lay.tb T R : Nat), .int .i64 (Lay.cl P T R : Nat)]
structure Bx (w : World) (f : Fx) (P T R : Nat) (arr : Array Value) : Prop where
  sd : w.heap[f.sb]? = some (.cells arr 73 (0, 0))
  qk : w.heap[f.qb]? = some (.cells #[.int .i64 P, .int .i64 T, .int .i64 R] 23 (0, 0))
  dk : w.heap[f.db]? = some (.cells (mapC P T R) 28 (0, 0))
  rk : w.heap[f.rb]? = some (.cells #[.bool false] 4 (0, 0))
structure PartS (B : Nat) (w : World) (f : Fx) (P T R : Nat) (arr : Array Value) (O : Nat → Nat → Prop) (t : Nat) (v0 v1 v2 v3 v4 v5 : Value) : Prop where
  e0 : arr[t * 6]? = some v0
  e1 : arr[t * 6 + 1]? = some v1
  e2 : arr[t * 6 + 2]? = some v2
  e3 : arr[t * 6 + 3]? = some v3
  e4 : arr[t * 6 + 4]? = some v4
  e5 : arr[t * 6 + 5]? = some v5
  sh : ShP B f.c f.cc P T R t w v0 v2 v4 (O (2 * t))
  mp : MkP B f.c f.cc P T R w v1 v3 v5 (O (2 * t + 1))
structure Inv (w0 w : World) (f : Fx) (P T R : Nat) (s : AS) (O : Nat → Nat → Prop) (arr : Array Value) : Prop where
  duo : Duo w0.heap.size w f.a f.c s [(f.p, 9, false)] f.am f.cc s []
  ok : ArOk (Lay.cl P T R) s
  bel : Below w0.heap.size w0 w
  bx : Bx w f P T R arr
  siz : arr.size = T * 6
  part : ∀ t, t < T → ∃ v0 v1 v2 v3 v4 v5, PartS w0.heap.size w f P T R arr O t v0 v1 v2 v3 v4 v5
  dis : ∀ i j, i ≠ j → ∀ k, O i k → ¬ O j k
  rng : ∀ i k, O i k → f.fb ≤ k ∧ k < w.heap.size
  low : f.sb < f.fb ∧ f.qb < f.fb ∧ f.db < f.fb ∧ f.rb < f.fb ∧ f.fb ≤ w.heap.size
  base : w0.heap.size ≤ f.sb
section
variable {w0 w w' : World} {f : Fx} {P T R t : Nat} {s s' : AS} {O : Nat → Nat → Prop} {arr : Array Value} {D : Nat → Prop}
theorem Bx.fr {B : Nat} {ps qs : List (Nat × Int × Bool)} {s2 : AS} (h : Bx w f P T R arr) (hd : Duo B w f.a f.c s ps f.am f.cc s2 qs) (hF : Fr (fun k => D k ∨ TouchD f.c f.cc w k) w w') (hD : ¬ D f.sb ∧ ¬ D f.qb ∧ ¬ D f.db ∧ ¬ D f.rb) : Bx w' f P T R arr :=
  ⟨hF.blk h.sd (fun z => z.elim hD.1 (duo_nt hd h.sd (by decide))), hF.blk h.qk (fun z => z.elim hD.2.1 (duo_nt hd h.qk (by decide))), hF.blk h.dk (fun z => z.elim hD.2.2.1 (duo_nt hd h.dk (by decide))), hF.blk h.rk (fun z => z.elim hD.2.2.2 (duo_nt hd h.rk (by decide)))⟩
theorem Inv.far (h : Inv w0 w f P T R s O arr) (i : Nat) : ¬ O i f.sb ∧ ¬ O i f.qb ∧ ¬ O i f.db ∧ ¬ O i f.rb := by
  obtain ⟨h1, h2, h3, h4, _⟩ := h.low
  refine ⟨fun z => ?_, fun z => ?_, fun z => ?_, fun z => ?_⟩ <;> (have := (h.rng i _ z).1; omega)
theorem Inv.still (h : Inv w0 w f P T R s O arr) (hF : Fr (fun _ => False) w w') : Inv w0 w' f P T R s O arr := by
  have hF' : Fr (fun k => (fun _ => False) k ∨ TouchD f.c f.cc w k) w w' := hF.mono fun _ _ z => z.elim
  refine ⟨h.duo.still hF, h.ok, h.bel.trans ((Fr.toBelow (Below.refl _ w) (Nat.le_refl _) hF (fun _ z => z.elim)).mono h.bel.size), h.bx.fr h.duo hF' ⟨id, id, id, id⟩, h.siz, fun t ht => ?_, h.dis, fun i k hk => ⟨(h.rng i k hk).1, Nat.lt_of_lt_of_le (h.rng i k hk).2 hF.size⟩, ⟨h.low.1, h.low.2.1, h.low.2.2.1, h.low.2.2.2.1, Nat.le_trans h.low.2.2.2.2 hF.size⟩, h.base⟩
  obtain ⟨v0, v1, v2, v3, v4, v5, q⟩ := h.part t ht
  exact ⟨v0, v1, v2, v3, v4, v5, q.e0, q.e1, q.e2, q.e3, q.e4, q.e5, q.sh.fr h.duo hF' (fun _ _ => id), q.mp.fr h.duo hF' (fun _ _ => id)⟩
theorem Inv.below (h : Inv w0 w f P T R s O arr) (hb : Below w.heap.size w w') : Inv w0 w' f P T R s O arr := h.still ((Fr.refl _ w).below hb)
theorem Inv.drew (h : Inv w0 w f P T R s O arr) : Inv w0 w.drew f P T R s O arr := h.still ((Fr.refl _ w).drew)
/-- A step of one machine. -/
theorem Inv.went (h : Inv w0 w f P T R s O arr) {j : Nat} (hw : Went w0 w w' f.a f.c f.am f.cc f.p (Lay.cl P T R) s (O j) s')
    (hS : ∀ t v0 v1 v2 v3 v4 v5, t < T → PartS w0.heap.size w f P T R arr O t v0 v1 v2 v3 v4 v5 → 2 * t = j → ShP w0.heap.size f.c f.cc P T R t w' v0 v2 v4 (Up (O j) w w'))
    (hM : ∀ t v0 v1 v2 v3 v4 v5, t < T → PartS w0.heap.size w f P T R arr O t v0 v1 v2 v3 v4 v5 → 2 * t + 1 = j → MkP w0.heap.size f.c f.cc P T R w' v1 v3 v5 (Up (O j) w w')) :
    Inv w0 w' f P T R s' (fun i => if i = j then Up (O j) w w' else O i) arr := by
  have hlow := h.low
  have hsz := hw.fr.size
  have hO : ∀ i k, (if i = j then Up (O j) w w' else O i) k → O i k ∨ (i = j ∧ w.heap.size ≤ k ∧ k < w'.heap.size) := fun i k hk => by
    by_cases e : i = j
    · subst e; rw [if_pos rfl] at hk; exact hk.imp id (fun z => ⟨rfl, z⟩)
    · rw [if_neg e] at hk; exact .inl hk
  refine ⟨hw.duo, hw.ok, hw.bel, h.bx.fr h.duo hw.fr (h.far j), h.siz, fun t ht => ?_, fun i i' hne k h1 h2 => ?_, fun i k hk => ?_, ⟨hlow.1, hlow.2.1, hlow.2.2.1, hlow.2.2.2.1, Nat.le_trans hlow.2.2.2.2 hsz⟩, h.base⟩
  · obtain ⟨v0, v1, v2, v3, v4, v5, q⟩ := h.part t ht
    refine ⟨v0, v1, v2, v3, v4, v5, q.e0, q.e1, q.e2, q.e3, q.e4, q.e5, ?_, ?_⟩
    · by_cases e : 2 * t = j
      · rw [if_pos e]; exact hS t _ _ _ _ _ _ ht q e
      · rw [if_neg e]; exact q.sh.fr h.duo hw.fr (fun k h1 h2 => h.dis _ _ e k h1 h2)
    · by_cases e : 2 * t + 1 = j
      · rw [if_pos e]; exact hM t _ _ _ _ _ _ ht q e
      · rw [if_neg e]; exact q.mp.fr h.duo hw.fr (fun k h1 h2 => h.dis _ _ e k h1 h2)
  · rcases hO _ _ h1 with a1 | ⟨a1, a2, a3⟩ <;> rcases hO _ _ h2 with b1 | ⟨b1, b2, b3⟩
    · exact h.dis i i' hne k a1 b1
    · have := (h.rng _ _ a1).2; omega
    · have := (h.rng _ _ b1).2; omega
    · exact hne (a1.trans b1.symm)
  · rcases hO _ _ hk with a1 | ⟨a1, a2, a3⟩
    · exact ⟨(h.rng _ _ a1).1, Nat.lt_of_lt_of_le (h.rng _ _ a1).2 hsz⟩
    · exact ⟨by omega, a3⟩
/-- The shade of a thread makes a step. -/
theorem Inv.stepS (h : Inv w0 w f P T R s O arr) (hr : Lay.right P T R) (ht : t < T) (bare : Bool) {m : Nat} (e0 : arr[t * 6]? = some (.pointer (some ⟨m, 0, none⟩))) (hl : s.log.length ≤ 1000) :
    Calls Try.prog 32 #[.pointer (some ⟨f.sb, t * 6, none⟩), .pointer (some ⟨f.p, 0, none⟩), .pointer (some ⟨f.am, 0, none⟩), .agg (mapC P T R), .int .i64 t, .bool bare] w fun e w' => e = .returned (.bool true) ∧ ∃ s' O', Inv w0 w' f P T R s' O' arr ∧ s'.log.length ≤ s.log.length + 1 := by
  obtain ⟨v0, v1, v2, v3, v4, v5, q⟩ := h.part t ht
  obtain rfl : v0 = .pointer (some ⟨m, 0, none⟩) := Option.some.inj (q.e0.symm.trans e0)
  refine (ShP.step hr ht bare q.sh h.duo h.bel h.ok hl h.bx.sd e0 q.e2 q.e4).mono ?_
  rintro e w' ⟨rfl, s', hw, hp⟩
  refine ⟨rfl, s', _, h.went hw (fun t' u0 u1 u2 u3 u4 u5 ht' q' e => ?_) (fun t' u0 u1 u2 u3 u4 u5 ht' q' e => by omega), hw.len⟩
  · obtain rfl : t' = t := by omega
    obtain rfl := Option.some.inj (q'.e0.symm.trans e0)
    obtain rfl := Option.some.inj (q'.e2.symm.trans q.e2)
    obtain rfl := Option.some.inj (q'.e4.symm.trans q.e4)
    exact hp
theorem Inv.stepM (h : Inv w0 w f P T R s O arr) (hr : Lay.right P T R) (ht : t < T) (bare : Bool) {m : Nat} (e0 : arr[t * 6 + 1]? = some (.pointer (some ⟨m, 0, none⟩))) (hl : s.log.length ≤ 1000) :
    Calls Try.prog 33 #[.pointer (some ⟨f.sb, t * 6, none⟩), .pointer (some ⟨f.p, 0, none⟩), .pointer (some ⟨f.am, 0, none⟩), .agg (mapC P T R), .bool bare] w fun e w' => e = .returned (.bool true) ∧ ∃ s' O', Inv w0 w' f P T R s' O' arr ∧ s'.log.length ≤ s.log.length + 1 := by
  obtain ⟨v0, v1, v2, v3, v4, v5, q⟩ := h.part t ht
  obtain rfl : v1 = .pointer (some ⟨m, 0, none⟩) := Option.some.inj (q.e1.symm.trans e0)
  refine (MkP.step hr ht bare q.mp h.duo h.bel h.ok hl h.bx.sd e0 q.e3 q.e5).mono ?_
  rintro e w' ⟨rfl, s', hw, hp⟩
  refine ⟨rfl, s', _, h.went hw (fun t' u0 u1 u2 u3 u4 u5 ht' q' e => by omega) (fun t' u0 u1 u2 u3 u4 u5 ht' q' e => ?_), hw.len⟩
  · obtain rfl : t' = t := by omega
    obtain rfl := Option.some.inj (q'.e1.symm.trans e0)
    obtain rfl := Option.some.inj (q'.e3.symm.trans q.e3)
    obtain rfl := Option.some.inj (q'.e5.symm.trans q.e5)
    exact hp
end
end Go.Proofs.Ytcnledehnefldaa.Dd
/- ShadeSteps: a new machine is put beside the others; the beginning. -/
namespace Go.Proofs.Ytcnledehnefldaa.Dd
open Go Go.RowKit Go.Proofs.Ytcnledehnefldaa.Hp Go.Proofs.Ytcnledehnefldaa.PH Go.Proofs.Ytcnledehnefldaa.Ar Go.Proofs.Ytcnledehnefldaa.Eo
set_option linter.unusedVariables false
set_option linter.unusedSimpArgs false
set_option linter.unusedSectionVars false

theorem set3_get (arr : Array Value) (a b c : Nat) (x y z : Value) (ha : a < arr.size) (hb : b < arr.size) (hc : c < arr.size) (j : Nat) :
    (((arr.setIfInBounds a x).setIfInBounds b y).setIfInBounds c z)[j]? = if j = c then some z else if j = b then some y else if j = a then some x else arr[j]? := by
  by_cases e1 : j = c
  · subst e1; rw [if_pos rfl, Array.getElem?_setIfInBounds_self_of_lt (by simpa using hc)]
  · rw [if_neg e1, Array.getElem?_setIfInBounds_ne (fun e => e1 e.symm)]
    by_cases e2 : j = b
    · subst e2; rw [if_pos rfl, Array.getElem?_setIfInBounds_self_of_lt (by simpa using hb)]
    · rw [if_neg e2, Array.getElem?_setIfInBounds_ne (fun e => e2 e.symm)]
      by_cases e3 : j = a
      · subst e3; rw [if_pos rfl, Array.getElem?_setIfInBounds_self_of_lt ha]
      · rw [if_neg e3, Array.getElem?_setIfInBounds_ne (fun e => e3 e.symm)]
section
variable {w0 w1 w : World} {f : Fx} {P T R t d : Nat} {s : AS} {O : Nat → Nat → Prop} {arr : Array Value} {x y z : Value}
set_option maxHeartbeats 1000000 in
theorem Inv.put (h1 : Inv w0 w1 f P T R s O arr) (hF : Fr (fun _ => False) w1 w) (ht : t < T) (hd : d ≤ 1)
    (hS : d = 0 → ShP w0.heap.size f.c f.cc P T R t w x y z (fun k => w1.heap.size ≤ k ∧ k < w.heap.size)) (hM : d = 1 → MkP w0.heap.size f.c f.cc P T R w x y z (fun k => w1.heap.size ≤ k ∧ k < w.heap.size)) :
    ∃ O', Inv w0 (((w.setCell ⟨f.sb, t * 6 + d, none⟩ x).setCell ⟨f.sb, t * 6 + 2 + d, none⟩ y).setCell ⟨f.sb, t * 6 + 4 + d, none⟩ z) f P T R s O' (((arr.setIfInBounds (t * 6 + d) x).setIfInBounds (t * 6 + 2 + d) y).setIfInBounds (t * 6 + 4 + d) z) := by
  have h := h1.still hF
  have hlow := h.low
  have hlow1 := h1.low
  have hw1 := hF.size
  have g := set3_get arr (t * 6 + d) (t * 6 + 2 + d) (t * 6 + 4 + d) x y z (by rw [h.siz]; omega) (by rw [h.siz]; omega) (by rw [h.siz]; omega)
  have hFs : Fr (fun k => k = f.sb) w (((w.setCell ⟨f.sb, t * 6 + d, none⟩ x).setCell ⟨f.sb, t * 6 + 2 + d, none⟩ y).setCell ⟨f.sb, t * 6 + 4 + d, none⟩ z) := (((Fr.refl (fun k => k = f.sb) w).setCell ⟨f.sb, t * 6 + d, none⟩ x (.inl rfl)).setCell ⟨f.sb, t * 6 + 2 + d, none⟩ y (.inl rfl)).setCell ⟨f.sb, t * 6 + 4 + d, none⟩ z (.inl rfl)
  have hsz : (((w.setCell ⟨f.sb, t * 6 + d, none⟩ x).setCell ⟨f.sb, t * 6 + 2 + d, none⟩ y).setCell ⟨f.sb, t * 6 + 4 + d, none⟩ z).heap.size = w.heap.size := by simp [World.setCell]
  have hsd : (((w.setCell ⟨f.sb, t * 6 + d, none⟩ x).setCell ⟨f.sb, t * 6 + 2 + d, none⟩ y).setCell ⟨f.sb, t * 6 + 4 + d, none⟩ z).heap[f.sb]? = some (.cells (((arr.setIfInBounds (t * 6 + d) x).setIfInBounds (t * 6 + 2 + d) y).setIfInBounds (t * 6 + 4 + d) z) 73 (0, 0)) :=
    Hp.blk_set (Hp.blk_set (Hp.blk_set h.bx.sd _ _) _ _) _ _
  generalize (((w.setCell ⟨f.sb, t * 6 + d, none⟩ x).setCell ⟨f.sb, t * 6 + 2 + d, none⟩ y).setCell ⟨f.sb, t * 6 + 4 + d, none⟩ z) = w' at hFs hsz hsd ⊢
  have hF' : Fr (fun k => k = f.sb ∨ TouchD f.c f.cc w k) w w' := hFs.mono fun k _ e => .inl e
  refine ⟨fun i k => O i k ∨ (i = 2 * t + d ∧ w1.heap.size ≤ k ∧ k < w.heap.size), h.duo.fr hFs (fun k _ e => by subst e; exact duo_nt h.duo h.bx.sd (by decide)), h.ok, Fr.toBelow h.bel h.bel.size hFs (fun k e => by rw [e]; exact h.base), ?_, ?_, fun t' ht' => ?_, ?_, ?_, by rw [hsz]; exact hlow, h.base⟩
  · refine ⟨hsd, hFs.blk h.bx.qk (fun e => blk_ne h.bx.qk h.bx.sd (by decide) e), hFs.blk h.bx.dk (fun e => blk_ne h.bx.dk h.bx.sd (by decide) e), hFs.blk h.bx.rk (fun e => blk_ne h.bx.rk h.bx.sd (by decide) e)⟩
  · rw [Array.size_setIfInBounds, Array.size_setIfInBounds, Array.size_setIfInBounds]; exact h.siz
  · obtain ⟨v0, v1, v2, v3, v4, v5, q⟩ := h.part t' ht'
    have oS : ShP w0.heap.size f.c f.cc P T R t' w' v0 v2 v4 (fun k => O (2 * t') k ∨ (2 * t' = 2 * t + d ∧ w1.heap.size ≤ k ∧ k < w.heap.size)) := (q.sh.fr h.duo hF' (fun k hk e => (h.far _).1 (e ▸ hk))).mono fun k hk => .inl hk
    have oM : MkP w0.heap.size f.c f.cc P T R w' v1 v3 v5 (fun k => O (2 * t' + 1) k ∨ (2 * t' + 1 = 2 * t + d ∧ w1.heap.size ≤ k ∧ k < w.heap.size)) := (q.mp.fr h.duo hF' (fun k hk e => (h.far _).1 (e ▸ hk))).mono fun k hk => .inl hk
    by_cases et : t' = t
    · subst et
      obtain rfl | rfl : d = 0 ∨ d = 1 := by omega
      · refine ⟨x, v1, y, v3, z, v5, ?_, ?_, ?_, ?_, ?_, ?_, ((hS rfl).fr h.duo hF' (fun k hk e => ?_)).mono fun k hk => .inr ⟨rfl, hk⟩, oM⟩
        · rw [g, if_neg (by omega), if_neg (by omega), if_pos (by omega)]
        · rw [g, if_neg (by omega), if_neg (by omega), if_neg (by omega)]; exact q.e1
        · rw [g, if_neg (by omega), if_pos (by omega)]
        · rw [g, if_neg (by omega), if_neg (by omega), if_neg (by omega)]; exact q.e3
        · rw [g, if_pos (by omega)]
        · rw [g, if_neg (by omega), if_neg (by omega), if_neg (by omega)]; exact q.e5
        · have := hk.1; omega
      · refine ⟨v0, x, v2, y, v4, z, ?_, ?_, ?_, ?_, ?_, ?_, oS, ((hM rfl).fr h.duo hF' (fun k hk e => ?_)).mono fun k hk => .inr ⟨rfl, hk⟩⟩
        · rw [g, if_neg (by omega), if_neg (by omega), if_neg (by omega)]; exact q.e0
        · rw [g, if_neg (by omega), if_neg (by omega), if_pos (by omega)]
        · rw [g, if_neg (by omega), if_neg (by omega), if_neg (by omega)]; exact q.e2
        · rw [g, if_neg (by omega), if_pos (by omega)]
        · rw [g, if_neg (by omega), if_neg (by omega), if_neg (by omega)]; exact q.e4
        · rw [g, if_pos (by omega)]
        · have := hk.1; omega
    · refine ⟨v0, v1, v2, v3, v4, v5, ?_, ?_, ?_, ?_, ?_, ?_, oS, oM⟩
      · rw [g, if_neg (by omega), if_neg (by omega), if_neg (by omega)]; exact q.e0
      · rw [g, if_neg (by omega), if_neg (by omega), if_neg (by omega)]; exact q.e1
      · rw [g, if_neg (by omega), if_neg (by omega), if_neg (by omega)]; exact q.e2
      · rw [g, if_neg (by omega), if_neg (by omega), if_neg (by omega)]; exact q.e3
      · rw [g, if_neg (by omega), if_neg (by omega), if_neg (by omega)]; exact q.e4
      · rw [g, if_neg (by omega), if_neg (by omega), if_neg (by omega)]; exact q.e5
  · intro i j hne k h1' h2'
    rcases h1' with a1 | ⟨a1, a2, a3⟩ <;> rcases h2' with b1 | ⟨b1, b2, b3⟩
    · exact h.dis i j hne k a1 b1
    · have := (h1.rng _ _ a1).2; omega
    · have := (h1.rng _ _ b1).2; omega
    · exact hne (a1.trans b1.symm)
  · intro i k hk
    rw [hsz]
    rcases hk with a1 | ⟨a1, a2, a3⟩
    · exact h.rng _ _ a1
    · exact ⟨by omega, a3⟩
end
/-- A reference that a machine may be made of. -/
def RefOk (P T R : Nat) (ref : Int) : Prop := ref = 0 ∨ ∃ pg b : Nat, pg < P ∧ b < 64 ∧ ref = ((Lay.bs P T R + 64 * pg + b : Nat) : Int)
theorem tape_new {B c cc g : Nat} {w : World} (h : w.heap[g]? = some (.cells #[.slice none 0 0, .int .i64 0, .int .i64 0, .int .i64 0, .int .i64 0, .int .u64 0, .int .u64 0, .int .u64 0, .int .u64 0, .bool false] 77 (0, 0))) (hB : B ≤ g) : IsTp B w c cc g none 0 [] 0 ⟨0, 0, 0, 0, 0, 0, 0⟩ false :=
  ⟨h, World.ownsRow_nil _ _ _ _, fun k hk => by simp [Value.ownBlock] at hk, hB⟩
theorem tape_own {g k : Nat} (h : TpOwn g none 0 ([] : List Int).length k) : k = g := by
  rcases h with h | h
  · exact h
  · simp [Value.ownBlock] at h
section
variable {P T R t : Nat} {ref : Int}
/-- What NewShade has made. -/
def MadeS (P T R t : Nat) (ref : Int) (w w' : World) (m : Nat) : Prop :=
  ∃ mk, w.heap.size ≤ m ∧ w.heap.size ≤ mk ∧ ((ref = 0 ∧ ShB w' m mk none 3 false ∧ IsMark w' mk ⟨P, T, R, 0, true, false⟩) ∨ ∃ pu pg b : Nat, w.heap.size ≤ pu ∧ pg < P ∧ b < 64 ∧ ref = ((Lay.bs P T R + 64 * pg + b : Nat) : Int) ∧ IsShade w' m mk pu ⟨P, T, R, t, ref, 0, false, false, false, 0, 0, 0, false⟩)
theorem MadeS.still {w w1 w2 : World} {m : Nat} (h : MadeS P T R t ref w w1 m) (hF : Fr (fun _ => False) w1 w2) : MadeS P T R t ref w w2 m := by
  obtain ⟨mk, h1, h2, h3⟩ := h
  refine ⟨mk, h1, h2, ?_⟩
  rcases h3 with ⟨a1, a2, a3⟩ | ⟨pu, pg, b, a1, a2, a3, a4, a5⟩
  · exact .inl ⟨a1, hF.blk a2 id, hF.blk a3 id⟩
  · exact .inr ⟨pu, pg, b, a1, a2, a3, a4, a5.fr hF id id id⟩
theorem newShade_any (hr : Lay.right P T R) (ht : t < T) (h : RefOk P T R ref) (w : World) :
    Calls Try.prog 12 #[.agg #[.int .i64 P, .int .i64 T, .int .i64 R], .int .i64 t, .int .u64 ref] w fun e w' => ∃ m, e = .returned (.tuple #[.pointer (some ⟨m, 0, none⟩), .int .i64 0]) ∧ MadeS P T R t ref w w' m ∧ Below w.heap.size w w' := by
  rcases h with rfl | ⟨pg, b, h1, h2, h3⟩
  · have e1 := Lay.p_status (i := (t : Int)) hr
    rw [if_pos (by omega)] at e1
    refine (newShade_zero w P T R t _ e1 (by have : (0 : Int) ≤ (t : Int) * (5 + (R : Int)) := Int.mul_nonneg (by omega) (by omega); omega) _ (Lay.p_base hr) (Int.natCast_nonneg _)).mono ?_
    rintro e w' ⟨m, mk, rfl, k1, k2, k3, k4, k5⟩
    exact ⟨m, rfl, ⟨mk, k1, k2, .inl ⟨rfl, k3, k4⟩⟩, k5⟩
  · obtain ⟨n1, n2, n3, n4, n5⟩ := one_new hr h1 h2 h3 ht
    refine (newShade_yes w P T R t ref _ n1 (Int.natCast_nonneg _) _ n2 (Int.natCast_nonneg _) n3 n4 n5).mono ?_
    rintro e w' ⟨m, mk, pu, rfl, k1, k2, k3⟩
    exact ⟨m, rfl, ⟨mk, k1.1, k1.2.1, .inr ⟨pu, pg, b, k1.2.2, h1, h2, h3, k2⟩⟩, k3⟩
theorem MadeS.part {B c cc : Nat} {w w' : World} {m g : Nat} (h : MadeS P T R t ref w w' m) (hB : B ≤ w.heap.size) (hg : w.heap.size ≤ g) (hb : w'.heap[g]? = some (.cells #[.slice none 0 0, .int .i64 0, .int .i64 0, .int .i64 0, .int .i64 0, .int .u64 0, .int .u64 0, .int .u64 0, .int .u64 0, .bool false] 77 (0, 0))) :
    ShP B c cc P T R t w' (.pointer (some ⟨m, 0, none⟩)) (.pointer (some ⟨g, 0, none⟩)) (.int .u64 ref) (fun k => w.heap.size ≤ k ∧ k < w'.heap.size) := by
  obtain ⟨mk, h1, h2, h3⟩ := h
  have hT := tape_new (c := c) (cc := cc) hb (Nat.le_trans hB hg)
  have hO : ∀ k, TpOwn g none 0 ([] : List Int).length k → w.heap.size ≤ k ∧ k < w'.heap.size := fun k hk => by rw [tape_own hk]; exact ⟨hg, blk_lt hb⟩
  rcases h3 with ⟨a1, a2, a3⟩ | ⟨pu, pg, b, a1, a2, a3, a4, a5⟩
  · exact .inr ⟨m, mk, g, none, 0, [], 0, _, false, ref, rfl, rfl, rfl, hT, ⟨h1, blk_lt a2⟩, ⟨h2, blk_lt a3⟩, hO, .inl ⟨a1, rfl, a2, a3⟩⟩
  · exact .inr ⟨m, mk, g, none, 0, [], 0, _, false, ref, rfl, rfl, rfl, hT, ⟨h1, blk_lt a5.blk⟩, ⟨h2, blk_lt a5.mrk⟩, hO, .inr ⟨pu, pg, b, _, a2, a3, a4, a5, ⟨rfl, rfl, rfl, rfl, rfl, .inl ⟨rfl, rfl, rfl, rfl⟩, fun z => (by cases z), fun _ => rfl, fun z => absurd rfl z, ⟨Int.le_refl 0, (by show (0 : Int) < 18446744073709551616; decide)⟩⟩, .inl ⟨rfl, rfl, rfl, rfl⟩, ⟨by omega, by omega, by omega⟩, ⟨a1, blk_lt a5.psh⟩⟩⟩
/-- What NewMark has made. -/
def MadeM (P T R : Nat) (ref : Int) (w w' : World) (m : Nat) : Prop :=
  w.heap.size ≤ m ∧ ((ref = 0 ∧ IsMark w' m ⟨P, T, R, 0, true, false⟩) ∨ ∃ pg b : Nat, pg < P ∧ b < 64 ∧ ref = ((Lay.bs P T R + 64 * pg + b : Nat) : Int) ∧ IsMark w' m ⟨P, T, R, ref, false, false⟩)
theorem MadeM.still {w w1 w2 : World} {m : Nat} (h : MadeM P T R ref w w1 m) (hF : Fr (fun _ => False) w1 w2) : MadeM P T R ref w w2 m := by
  obtain ⟨h1, h3⟩ := h
  refine ⟨h1, ?_⟩
  rcases h3 with ⟨a1, a2⟩ | ⟨pg, b, a2, a3, a4, a5⟩
  · exact .inl ⟨a1, hF.blk a2 id⟩
  · exact .inr ⟨pg, b, a2, a3, a4, hF.blk a5 id⟩
theorem newMark_any (hr : Lay.right P T R) (ht : t < T) (h : RefOk P T R ref) (w : World) :
    Calls Try.prog 10 #[.agg #[.int .i64 P, .int .i64 T, .int .i64 R], .int .u64 ref] w fun e w' => ∃ m, e = .returned (.tuple #[.pointer (some ⟨m, 0, none⟩), .int .i64 0]) ∧ MadeM P T R ref w w' m ∧ Below w.heap.size w w' := by
  rcases h with rfl | ⟨pg, b, h1, h2, h3⟩
  · refine (newMark_zero w P T R 0 _ (Lay.p_base hr) (Int.natCast_nonneg _) rfl).mono ?_
    rintro e w' ⟨m, rfl, k1, k2, k3⟩
    exact ⟨m, rfl, ⟨k1, .inl ⟨rfl, k2⟩⟩, k3⟩
  · obtain ⟨n1, n2, n3, n4, n5⟩ := one_new hr h1 h2 h3 ht
    refine (newMark_yes w P T R ref _ n2 (Int.natCast_nonneg _) n3 n4).mono ?_
    rintro e w' ⟨m, rfl, k1, k2, k3⟩
    exact ⟨m, rfl, ⟨k1, .inr ⟨pg, b, h1, h2, h3, k2⟩⟩, k3⟩
theorem MadeM.part {B c cc : Nat} {w w' : World} {m g : Nat} (h : MadeM P T R ref w w' m) (hB : B ≤ w.heap.size) (hg : w.heap.size ≤ g) (hb : w'.heap[g]? = some (.cells #[.slice none 0 0, .int .i64 0, .int .i64 0, .int .i64 0, .int .i64 0, .int .u64 0, .int .u64 0, .int .u64 0, .int .u64 0, .bool false] 77 (0, 0))) :
    MkP B c cc P T R w' (.pointer (some ⟨m, 0, none⟩)) (.pointer (some ⟨g, 0, none⟩)) (.int .u64 ref) (fun k => w.heap.size ≤ k ∧ k < w'.heap.size) := by
  obtain ⟨h1, h3⟩ := h
  have hT := tape_new (c := c) (cc := cc) hb (Nat.le_trans hB hg)
  have hO : ∀ k, TpOwn g none 0 ([] : List Int).length k → w.heap.size ≤ k ∧ k < w'.heap.size := fun k hk => by rw [tape_own hk]; exact ⟨hg, blk_lt hb⟩
  rcases h3 with ⟨a1, a2⟩ | ⟨pg, b, a2, a3, a4, a5⟩
  · exact .inr ⟨m, g, none, 0, [], 0, _, false, ref, _, rfl, rfl, rfl, hT, ⟨h1, blk_lt a2⟩, hO, a2, by omega, .inl ⟨a1, rfl, rfl⟩⟩
  · exact .inr ⟨m, g, none, 0, [], 0, _, false, ref, _, rfl, rfl, rfl, hT, ⟨h1, blk_lt a5⟩, hO, a5, by omega, .inr ⟨pg, b, a2, a3, a4, .inl ⟨rfl, rfl, rfl⟩, rfl, rfl, rfl, rfl⟩⟩
end
end Go.Proofs.Ytcnledehnefldaa.Dd
/- Log: the accesses that were kept, one behind the other. -/
namespace Go.Proofs.Ytcnledehnefldaa.Ar
open Go Go.RowKit Go.Shelf Go.Proofs.Ytcnledehnefldaa.Hp
open Go.Proofs.YtcnledehnefldaaW.PrintWords (Kd Drawn0 rd LeO)
open Go.Proofs.Ytcnledehnefldaa.PH
set_option linter.unusedVariables false
set_option linter.unusedSimpArgs false
attribute [local go_sem] Oper.semAt_some

/-- A log in block b, as it is read. -/
def LogAt (W : World) (b : Nat) (log : List Acc) : Prop :=
  b < W.heap.size ∧ ∀ i x, log[i]? = some x → W.cell? ⟨b, i * 7, none⟩ = some (.int .i64 x.who) ∧ W.cell? ⟨b, i * 7 + 1, none⟩ = some (.int .i64 x.kind) ∧ W.cell? ⟨b, i * 7 + 2, none⟩ = some (.int .i64 x.at_) ∧
      W.cell? ⟨b, i * 7 + 3, none⟩ = some (.int .u64 x.want) ∧ W.cell? ⟨b, i * 7 + 4, none⟩ = some (.int .u64 x.put) ∧ W.cell? ⟨b, i * 7 + 5, none⟩ = some (.int .u64 x.seen) ∧ W.cell? ⟨b, i * 7 + 6, none⟩ = some (.int .u64 x.left)

theorem flat_get : ∀ (log : List Acc) (i : Nat) (x : Acc) (j : Nat), log[i]? = some x → j < 7 → (log.flatMap Acc.cells)[i * 7 + j]? = (Acc.cells x)[j]?
  | [], i, x, j, h, _ => by simp at h
  | y :: log, 0, x, j, h, hj => by
    simp at h; subst h
    rw [List.flatMap_cons, Nat.zero_mul, Nat.zero_add, List.getElem?_append_left (by simp [Acc.cells]; omega)]
  | y :: log, i + 1, x, j, h, hj => by
    rw [List.flatMap_cons, List.getElem?_append_right (by simp [Acc.cells]; omega)]
    rw [show (i + 1) * 7 + j - (Acc.cells y).length = i * 7 + j by simp [Acc.cells]; omega]
    exact flat_get log i x j (by simpa using h) hj

theorem logAt_of {B : Nat} {w : World} {lv : Value} {log : List Acc} (h : w.ownsRow B 75 7 lv log.length (log.flatMap Acc.cells)) : (lv = .slice none 0 0 ∧ log = []) ∨ ∃ b cap, lv = .slice (some ⟨b, 0, none⟩) log.length cap ∧ log.length ≤ cap ∧ LogAt w b log := by
  rcases h.2 with ⟨rfl, h2⟩ | ⟨g, cap, cur, rfl, h3, h4, h5, h6, h7, h8⟩
  · exact .inl ⟨rfl, List.length_eq_zero_iff.1 h2⟩
  · refine .inr ⟨g, cap, rfl, h5, blk_lt h4, fun i x hx => ?_⟩
    have hi : i < log.length := (List.getElem?_eq_some_iff.1 hx).1
    have key : ∀ j u, j < 7 → (Acc.cells x)[j]? = some u → w.cell? ⟨g, i * 7 + j, none⟩ = some u := by
      intro j u hj hu
      have e1 := congrArg (fun l => l[i * 7 + j]?) h8
      rw [List.getElem?_take_of_lt (by omega), flat_get log i x j hx hj, hu, Array.getElem?_toList] at e1
      simp [World.cell?, h4, e1]
    exact ⟨key 0 _ (by omega) rfl, key 1 _ (by omega) rfl, key 2 _ (by omega) rfl, key 3 _ (by omega) rfl, key 4 _ (by omega) rfl, key 5 _ (by omega) rfl, key 6 _ (by omega) rfl⟩
theorem LogAt.below {n₀ b : Nat} {A W : World} {log : List Acc} (h : LogAt A b log) (hb : Below n₀ A W) (hn : b < n₀) : LogAt W b log := by
  obtain ⟨hlt, hcell⟩ := h
  refine ⟨Nat.lt_of_lt_of_le hlt hb.size, fun i x hx => ?_⟩
  obtain ⟨a0, a1, a2, a3, a4, a5, a6⟩ := hcell i x hx
  exact ⟨(hb.cell (p := ⟨b, _, none⟩) hn).trans a0, (hb.cell (p := ⟨b, _, none⟩) hn).trans a1, (hb.cell (p := ⟨b, _, none⟩) hn).trans a2, (hb.cell (p := ⟨b, _, none⟩) hn).trans a3, (hb.cell (p := ⟨b, _, none⟩) hn).trans a4, (hb.cell (p := ⟨b, _, none⟩) hn).trans a5, (hb.cell (p := ⟨b, _, none⟩) hn).trans a6⟩

/-- What has come when k rounds are over. -/
def told (log : List Acc) (k : Nat) : List (Nat × Acc) := (log.take k).zipIdx.map fun x => (x.2, x.1)
theorem told_succ (log : List Acc) (k : Nat) (x : Acc) (h : log[k]? = some x) : told log (k + 1) = told log k ++ [(k, x)] := by
  have hk : k < log.length := (List.getElem?_eq_some_iff.1 h).1
  unfold told
  rw [List.take_add_one, h]
  simp [List.zipIdx_append, Nat.min_eq_left (Nat.le_of_lt hk)]
theorem told_length (log : List Acc) (k : Nat) (h : k ≤ log.length) : (told log k).length = k := by simp [told]; omega

def encAcc (x : Nat × Acc) : Array Value := #[.int .i64 x.1, .agg #[.int .i64 x.2.who, .int .i64 x.2.kind, .int .i64 x.2.at_, .int .u64 x.2.want, .int .u64 x.2.put, .int .u64 x.2.seen, .int .u64 x.2.left]]

set_option maxRecDepth 100000 in
set_option maxHeartbeats 4000000 in
theorem log1_in (n : Nat) (hn : 1 ≤ n) (l Bn n₀ a : Nat) (lv : Value) (log : List Acc) (J Jx : List (Nat × Acc) → World → Prop)
    (hY : ∀ pre x W, J pre W → pre.length < log.length → YieldAt Fence.wide (n - 1) Try.prog l (encAcc x) W fun e W' =>
      (e = .returned (.bool true) ∧ J (pre ++ [x]) W' ∧ Below n₀ W W') ∨ (e = .returned (.bool false) ∧ Jx (pre ++ [x]) W'))
    (hJ : ∀ pre W, J pre W → ∀ o : Obj, J pre (W.alloc o))
    (W : World) (hs : log.length ≤ 1000000) (hnW : n₀ ≤ W.heap.size) (hBn : W.cell? ⟨Bn, 0, none⟩ = some (.pointer (some ⟨a, 0, none⟩))) (hA : W.cell? ⟨a, 1, none⟩ = some lv) (hL : (lv = .slice none 0 0 ∧ log = []) ∨ ∃ b cap, lv = .slice (some ⟨b, 0, none⟩) log.length cap ∧ log.length ≤ cap ∧ b < n₀ ∧ LogAt W b log) (h0 : J [] W) :
    CallsIn Fence.wide n Try.prog 64 #[.func (.yield l) #[] #[], .pointer (some ⟨Bn, 0, none⟩)] W fun e W' => (∃ v, e = .returned v) ∧
      ((∃ ys, ys = told log log.length ∧ J ys W') ∨ (∃ pre, True ∧ Jx pre W')) := by
  refine callsIn_of_wp Try.func64 rfl trivial ?_ rfl
  simp only [Try.ntmps64, List.size_toArray, List.length_cons, List.length_nil, Nat.reduceAdd, Nat.reduceSub, Array.replicate_succ, Array.replicate_zero, List.push_toArray, List.append_toArray, List.nil_append, List.cons_append]
  rcases hL with ⟨rfl, rfl⟩ | ⟨b, cap, rfl, hc, hbn, hL⟩
  · clear hY hJ
    gi_wp2
    gi_loopw [12] (fun i wr => i = .int .i64 0 ∧ J [] wr) (fun i _ => 0)
    case atStart => exact ⟨rfl, h0⟩
    case round =>
      obtain ⟨rfl, hJs⟩ := hrel
      gi_wp2
      go_end0
      exact ⟨⟨_, rfl⟩, .inl ⟨[], rfl, hJs⟩⟩
  · have HL := Lib.hid hL
    clear hL
    gi_wp2
    gi_loopw [12] (fun i wr => ∃ k : Nat, k ≤ log.length ∧ i = .int .i64 k ∧ J (told log k) wr ∧ Below n₀ W wr) (fun i _ => log.length - (intOf i).toNat)
    case atStart => exact ⟨0, Nat.zero_le _, rfl, h0, Below.refl _ _⟩
    case round =>
      obtain ⟨k, hk, rfl, hJs, hBs⟩ := hrel
      by_cases hlt : k < log.length
      · obtain ⟨x, hx⟩ : ∃ x, log[k]? = some x := ⟨_, List.getElem?_eq_getElem hlt⟩
        obtain ⟨hbl, hcx⟩ := HL.out.below hBs hbn
        obtain ⟨a0, a1, a2, a3, a4, a5, a6⟩ := hcx k x hx
        have hts := told_succ log k x hx
        have htl := told_length log k hk
        obtain ⟨fn, tmps, assign, body, hy, hR⟩ := hY (told log k) (k, x) (wr.alloc (.cells #[.int .i64 x.who, .int .i64 x.kind, .int .i64 x.at_, .int .u64 x.want, .int .u64 x.put, .int .u64 x.seen, .int .u64 x.left] 75)) (hJ _ _ hJs _) (by omega)
        have HTS := Lib.hid hts
        have HX := Lib.hid hx
        clear hts hx hcx hY htl
        unfold encAcc at hy
        dsimp only at hy
        gi_wp2
        refine hR.mono ?_
        rintro e W3 (⟨rfl, hJ3, hk3⟩ | ⟨rfl, hJx3⟩)
        · gi_wp2
          go_roundw
          case rel => exact ⟨k + 1, by omega, by go_num, by rw [HTS.out]; exact hJ3, (hBs.alloc (Nat.le_trans hnW hBs.size) _).trans hk3⟩
          case measure => simp [intOf]; omega
        · gi_wp2
          refine bodyPost_ret (results_none rfl _ _ _) rfl ?_
          exact ⟨⟨_, rfl⟩, .inr ⟨_, trivial, hJx3⟩⟩
      · obtain rfl : k = log.length := by omega
        gi_wp2
        go_end0
        exact ⟨⟨_, rfl⟩, .inl ⟨_, rfl, hJs⟩⟩

theorem log_in (n a : Nat) (w : World) :
    CallsIn Fence.wide n Try.prog 35 #[.pointer (some ⟨a, 0, none⟩)] w fun e w' => e = .returned (.func (.func 64) #[] #[.pointer (some ⟨w.heap.size, 0, none⟩)]) ∧ w' = w.alloc (.cells #[.pointer (some ⟨a, 0, none⟩)] 48) := by
  refine callsIn_of_wp Try.func35 rfl trivial ?_ rfl
  simp only [Try.ntmps35, List.size_toArray, List.length_cons, List.length_nil, Nat.reduceAdd, Nat.reduceSub, Array.replicate_succ, Array.replicate_zero, List.push_toArray, List.append_toArray, List.nil_append, List.cons_append]
  gi_wp2
  go_ret
  exact ⟨rfl, rfl⟩

theorem log_stops (n Bn n₀ a : Nat) (hn : 1 ≤ n) (lv : Value) (log : List Acc) (w : World) (hs : log.length ≤ 1000000) (hBn : Bn < w.heap.size) (hn₀ : n₀ ≤ w.heap.size) (ha : a < n₀) (hc : w.cell? ⟨Bn, 0, none⟩ = some (.pointer (some ⟨a, 0, none⟩))) (hA : w.cell? ⟨a, 1, none⟩ = some lv)
    (hL : (lv = .slice none 0 0 ∧ log = []) ∨ ∃ b cap, lv = .slice (some ⟨b, 0, none⟩) log.length cap ∧ log.length ≤ cap ∧ b < n₀ ∧ LogAt w b log) :
    SeqStopsK Fence.wide n Try.prog 64 #[.pointer (some ⟨Bn, 0, none⟩)] encAcc (Below n₀) (fun ys => ys = told log log.length) (fun _ => True) log.length w := fun l J Jx W hW hJ _ hY h0 =>
  log1_in n hn l Bn n₀ a lv log J Jx hY (fun pre W1 h o => hJ pre W1 _ none h (World.grownBy_alloc W1 o none) (fun r e => by cases e)) W hs (Nat.le_trans hn₀ hW.size) ((hW.cell (p := ⟨Bn, 0, none⟩) hBn).trans hc) ((hW.cell (p := ⟨a, 1, none⟩) (Nat.lt_of_lt_of_le ha hn₀)).trans hA) (hL.imp_right fun ⟨b, cap, e, hc, hb, h⟩ => ⟨b, cap, e, hc, hb, h.below hW (by omega)⟩) h0
end Go.Proofs.Ytcnledehnefldaa.Ar
/- ShadeSteps: where it begins, and what its end asks: the sides as they are made, both arenas, the log as a row, the same log twice. -/
namespace Go.Proofs.Ytcnledehnefldaa.Dd
open Go Go.RowKit Go.Proofs.Ytcnledehnefldaa.Hp Go.Proofs.Ytcnledehnefldaa.PH Go.Proofs.Ytcnledehnefldaa.Ar Go.Proofs.Ytcnledehnefldaa.Eo
open Go.Proofs.YtcnledehnefldaaW.PrintWords (Kd)
set_option linter.unusedVariables false
set_option linter.unusedSimpArgs false
set_option linter.unusedSectionVars false

theorem infoSide : (Try.prog.info? 73).map (fun i => (i.zero, i.size, i.bytes)) = some (some (.agg #[.pointer none, .pointer none, .pointer none, .pointer none, .int .u64 0, .int .u64 0]), 6, 48) := by kernel_rfl
theorem own_full6 {B g n e k : Nat} {w : World} {xs : List Value} (h : w.ownsRow B e k (.slice (some ⟨g, 0, none⟩) n n) n xs) : w.heap[g]? = some (.cells xs.toArray e (0, 0)) := by
  rcases h.2 with ⟨h2, _⟩ | ⟨g', cap, cur, h2, _, h4, _, _, h5, h6⟩
  · simp at h2
  · simp only [Value.slice.injEq, Option.some.injEq, Addr.mk.injEq, and_true, true_and] at h2
    obtain ⟨rfl, rfl⟩ := h2
    rw [List.take_of_length_le (by rw [Array.length_toList, h5]; exact Nat.le_refl _)] at h6
    rw [h4, ← h6]
def side0 : Array Value := #[.pointer none, .pointer none, .pointer none, .pointer none, .int .u64 0, .int .u64 0]
theorem made_get (n j : Nat) (h : j < n) : (madeCells side0 n)[j]? = some (side0[j % 6]!) := by
  unfold madeCells
  rw [Array.getElem?_map, Array.getElem?_range, if_pos h]
  rfl
theorem Inv.start {w0 w : World} {f : Fx} {P T R : Nat} {s : AS} (hd : Duo w0.heap.size w f.a f.c s [(f.p, 9, false)] f.am f.cc s []) (hk : ArOk (Lay.cl P T R) s) (hb : Below w0.heap.size w0 w) (hx : Bx w f P T R (madeCells side0 (T * 6)))
    (hlow : f.sb < f.fb ∧ f.qb < f.fb ∧ f.db < f.fb ∧ f.rb < f.fb ∧ f.fb ≤ w.heap.size) (hbase : w0.heap.size ≤ f.sb) : Inv w0 w f P T R s (fun _ _ => False) (madeCells side0 (T * 6)) := by
  refine ⟨hd, hk, hb, hx, size_madeCells _ _, fun t ht => ?_, fun _ _ _ _ h => h.elim, fun _ _ h => h.elim, hlow, hbase⟩
  refine ⟨side0[(t * 6) % 6]!, side0[(t * 6 + 1) % 6]!, side0[(t * 6 + 2) % 6]!, side0[(t * 6 + 3) % 6]!, side0[(t * 6 + 4) % 6]!, side0[(t * 6 + 5) % 6]!, made_get _ _ (by omega), made_get _ _ (by omega), made_get _ _ (by omega), made_get _ _ (by omega), made_get _ _ (by omega), made_get _ _ (by omega), .inl ?_, .inl ?_⟩
  · rw [show (t * 6) % 6 = 0 by omega]; rfl
  · rw [show (t * 6 + 1) % 6 = 1 by omega]; rfl
theorem arok_start {P T R : Nat} (hr : Lay.right P T R) : ArOk (Lay.cl P T R) ⟨List.replicate (Lay.cl P T R) 0, [], true, 0, 0⟩ := by
  refine ⟨fun q => ?_, List.length_replicate, rfl, rfl⟩
  show 0 ≤ (List.replicate (Lay.cl P T R) (0 : Int)).getD q 0 ∧ (List.replicate (Lay.cl P T R) (0 : Int)).getD q 0 < _
  rw [List.getD_eq_getElem?_getD, List.getElem?_replicate]
  split <;> simp
/-- Both arenas, beginning. -/
theorem sys_duo {B : Nat} {w : World} {a c m c2 N : Nat} {s : AS} {ps : List (Nat × Int × Bool)} (h : Ar.Sys B w a c s ps) (hm : w.heap[m]? = some (.cells #[.slice (some ⟨c2, 0, none⟩) N N, .slice none 0 0, .int .i64 0] 66 (0, 0)))
    (hc : w.heap[c2]? = some (.cells ((List.replicate N (0 : Int)).map (Value.int .u64)).toArray 24 (0, 0))) (hN : N ≤ 4096) (hcc : c ≠ c2) (hB : B ≤ m ∧ B ≤ c2) :
    Duo B w a c s ps m c2 ⟨List.replicate N 0, [], true, 0, 0⟩ [] := by
  obtain ⟨lv, hA⟩ := h.ar
  exact ⟨⟨lv, .slice none 0 0, hA, ⟨by simpa using hm, hc, World.ownsRow_nil _ _ _ _, by simpa using hN, rfl⟩, fun k _ => by simp [Value.ownBlock]⟩, hcc, ⟨h.base.1, h.base.2.1, h.base.2.2, hB⟩, h.pt, h.nd, fun x hx => (by cases hx), by simp⟩
def toS (x : Acc) : S75 := ⟨x.who, x.kind, x.at_, x.want, x.put, x.seen, x.left⟩
theorem c75_of_own {B : Nat} {w : World} {v : Value} {log : List Acc} (h : w.ownsRow B 75 7 v log.length (log.flatMap Acc.cells)) (hl : log.length ≤ 1000) :
    ∃ A cap, v = .slice A log.length cap ∧ log.length ≤ cap ∧ Kd.C k75 w A (log.map toS).length (log.map toS) := by
  rcases logAt_of h with ⟨rfl, rfl⟩ | ⟨b, cap, rfl, hc, hb, hL⟩
  · exact ⟨none, 0, rfl, Nat.le_refl _, ⟨rfl, by simp, fun h => absurd h (by simp)⟩⟩
  · refine ⟨_, cap, rfl, hc, ⟨rfl, by simp; omega, fun _ => ⟨_, rfl, fun j p hp => ?_⟩⟩⟩
    rw [List.getElem?_map] at hp
    obtain ⟨x, hx, rfl⟩ := Option.map_eq_some_iff.1 hp
    obtain ⟨a0, a1, a2, a3, a4, a5, a6⟩ := hL j x hx
    refine ⟨_, rfl, k75_mk w (toS x), fun i u hu => ?_⟩
    have e2 : ∀ i, ((⟨b, 0, none⟩ : Addr).add (j * k75.sz + i)) = ⟨b, j * 7 + i, none⟩ := by
      intro i
      show Addr.add _ (j * 7 + i) = _
      unfold Addr.add
      split
      · rename_i h0
        rw [h0]
      · simp
    rw [e2]
    match i, hu with
    | 0, hu => have : Value.int .i64 x.who = u := by simpa [toS] using hu
               rw [← this]; exact a0
    | 1, hu => have : Value.int .i64 x.kind = u := by simpa [toS] using hu
               rw [← this]; exact a1
    | 2, hu => have : Value.int .i64 x.at_ = u := by simpa [toS] using hu
               rw [← this]; exact a2
    | 3, hu => have : Value.int .u64 x.want = u := by simpa [toS] using hu
               rw [← this]; exact a3
    | 4, hu => have : Value.int .u64 x.put = u := by simpa [toS] using hu
               rw [← this]; exact a4
    | 5, hu => have : Value.int .u64 x.seen = u := by simpa [toS] using hu
               rw [← this]; exact a5
    | 6, hu => have : Value.int .u64 x.left = u := by simpa [toS] using hu
               rw [← this]; exact a6
    | i + 7, hu => simp at hu
theorem log_same (l : List S75) (hl : l.length ≤ 1000) : ∃ k, windrowref03_SameLog.f k l l = some true := by
  have h : ∀ (d i : Nat), d = l.length - i → i ≤ l.length → windrowref03_SameLog.l0 (d + 1) l l (i : Int) = some true := by
    intro d
    induction d with
    | zero =>
      intro i hd hi
      simp only [windrowref03_SameLog.l0]
      rw [if_neg (by omega)]
    | succ d ih =>
      intro i hd hi
      rw [windrowref03_SameLog.l0, if_pos (by omega), if_pos (by omega), if_pos (by omega), if_neg (by simp), show wrap64 ((i : Int) + 1) = ((i + 1 : Nat) : Int) by unfold wrap64; omega]
      exact ih (i + 1) (by omega) (by omega)
  refine ⟨l.length + 1, ?_⟩
  unfold windrowref03_SameLog.f
  rw [if_pos rfl]
  exact h l.length 0 (by omega) (by omega)
end Go.Proofs.Ytcnledehnefldaa.Dd
