/- The chapter's tapes: a tape as a block and its row; Make: the access that a tape asks for is made in the chapter's arena, and answered. -/
import Derived.Test.YtdcikbhfoplkmaaDd
import Derived.Test.YtdcikbhfoplkmaaPTx7
namespace Go.Proofs.Ytdcikbhfoplkmaa.Dd
open Go Go.RowKit Go.Proofs.Ytdcikbhfoplkmaa.Hp Go.Proofs.Ytdcikbhfoplkmaa.PH Go.Proofs.Ytdcikbhfoplkmaa.Ar
open Go.Proofs.YtdcikbhfoplkmaaW.PrintWords (Kd)
set_option linter.unusedVariables false
set_option linter.unusedSimpArgs false

theorem own_touch2 {B : Nat} {w : World} {e : Nat} {size n : Nat} {lv : Value} {xs : List Value} (hl : w.ownsRow B e size lv n xs) (k : Nat) (hk : lv.ownBlock = some k) : (∃ cs, w.heap[k]? = some (.cells cs e (0, 0))) ∧ B ≤ k := by
  rcases hl.2 with ⟨rfl, _⟩ | ⟨g, cap, cur, rfl, hb, hg, _⟩
  · simp [Value.ownBlock] at hk
  · simp only [Value.ownBlock, Option.some.injEq] at hk
    subst hk
    exact ⟨⟨cur, hg⟩, hb⟩
/-- The next access that a tape asks for. -/
structure Nx where
  who : Int
  kind : Int
  at_ : Int
  want : Int
  put : Int
  seen : Int
  left : Int
structure IsTp (B : Nat) (w : World) (c cc g : Nat) (A : Option Addr) (cp : Nat) (H : List Int) (pos : Int) (n : Nx) (stop : Bool) : Prop where
  blk : w.heap[g]? = some (.cells #[.slice A H.length cp, .int .i64 pos, .int .i64 n.who, .int .i64 n.kind, .int .i64 n.at_, .int .u64 n.want, .int .u64 n.put, .int .u64 n.seen, .int .u64 n.left, .bool stop] 85 (0, 0))
  row : w.ownsRow B 24 1 (.slice A H.length cp) H.length (H.map (Value.int .u64))
  ne : ∀ k, (Value.slice A H.length cp).ownBlock = some k → k ≠ c ∧ k ≠ cc
  base : B ≤ g
/-- A tape's blocks. -/
def TpOwn (g : Nat) (A : Option Addr) (cp n k : Nat) : Prop := k = g ∨ (Value.slice A n cp).ownBlock = some k
section
variable {B : Nat} {w w' : World} {a c am cc g : Nat} {s t2 : AS} {ps qs : List (Nat × Int × Bool)} {A : Option Addr} {cp : Nat} {H : List Int} {pos : Int} {n : Nx} {stop : Bool}
theorem IsTp.fr {S : Nat → Prop} (h : IsTp B w c cc g A cp H pos n stop) (hF : Fr S w w') (hS : ∀ k, TpOwn g A cp H.length k → ¬ S k) : IsTp B w' c cc g A cp H pos n stop :=
  ⟨hF.blk h.blk (hS g (.inl rfl)), own_fr h.row hF (fun k hk => hS k (.inr hk)), h.ne, h.base⟩
theorem IsTp.below (h : IsTp B w c cc g A cp H pos n stop) (hb : Below w.heap.size w w') : IsTp B w' c cc g A cp H pos n stop := h.fr ((Fr.refl (fun _ => False) w).below hb) (fun _ _ => id)
theorem IsTp.free (h : IsTp B w c cc g A cp H pos n stop) (hd : Duo B w a c s ps am cc t2 qs) : ∀ k, TpOwn g A cp H.length k → ¬ TouchD c cc w k := by
  rintro k (rfl | hk)
  · exact duo_nt hd h.blk (by decide)
  · obtain ⟨⟨cs, h1⟩, _⟩ := own_touch2 h.row k hk
    exact not_touchD h1 (h.ne k hk) (by decide)
theorem IsTp.rowne (h : IsTp B w c cc g A cp H pos n stop) : ∀ k, (Value.slice A H.length cp).ownBlock = some k → k ≠ g := fun k hk => by
  obtain ⟨⟨cs, h1⟩, _⟩ := own_touch2 h.row k hk
  exact blk_ne h1 h.blk (by decide)
/-- As the printed texts say it. -/
theorem IsTp.to77 (h : IsTp B w c cc g A cp H pos n stop) {w0 : World} (h0 : w0.heap.size ≤ g) : IsS85 A cp w0 w g H pos n.who n.kind n.at_ n.want n.put n.seen n.left stop := by
  obtain ⟨A', c', e1, hr⟩ := Go.Proofs.YtdcikbhfoplkmaaW.PrintWords.own_reads h.row
  injection e1 with e1 _ _
  subst e1
  refine ⟨A, cp, h.blk, h0, ⟨Kd.C_of_reads (d := (0 : Int)) (h1 := fun _ => rfl) hr, fun ad e => ?_⟩, ⟨rfl, rfl⟩⟩
  subst e
  by_cases hk : (Value.slice (some ad) H.length cp).ownBlock = some ad.block
  · exact h.rowne _ hk
  · rcases h.row.2 with ⟨h2, _⟩ | ⟨g', cap, cur, h2, _⟩
    · simp at h2
    · simp only [Value.slice.injEq, Option.some.injEq] at h2
      obtain ⟨rfl, _⟩ := h2
      exact absurd rfl hk
theorem IsTp.of77 (h : IsTp B w c cc g A cp H pos n stop) {w0 : World} {r1 r2 r3 r4 r5 r6 r7 r8 : Int} {r9 : Bool} (h7 : IsS85 A cp w0 w' g H r1 r2 r3 r4 r5 r6 r7 r8 r9) (hF : Fr (fun k => k = g) w w') : IsTp B w' c cc g A cp H r1 ⟨r2, r3, r4, r5, r6, r7, r8⟩ r9 := by
  obtain ⟨A', c', hb, _, _, ⟨rfl, rfl⟩⟩ := h7
  exact ⟨hb, own_fr h.row hF (fun k hk => h.rowne k hk), h.ne, h.base⟩
/-- What the printed contracts leave as it was. -/
theorem keep_fr {w0 : World} (hb : Below w0.heap.size w0 w) (hb' : Below w0.heap.size w0 w') (hk : Go.Proofs.YtdcikbhfoplkmaaW.PrintWords.KeepBut w w' g none) : Fr (fun k => k = g) w w' :=
  ⟨hb'.os.trans hb.os.symm, hb'.tape.trans hb.tape.symm, hb'.output.trans hb.output.symm, hk.1, fun k h1 h2 => hk.2 k h1 h2 (by simp)⟩
/-- A new port of the chapter's. -/
theorem _root_.Go.Proofs.Ytdcikbhfoplkmaa.Ar.Duo.newQ (h : Duo B w a c s ps am cc t2 []) (who : Int) : Duo B (w.alloc (.cells #[.int .i64 who, .bool true] 127)) a c s ps am cc t2 [(w.heap.size, who, true)] := by
  have h2 := h.alloc (.cells #[.int .i64 who, .bool true] 127)
  exact ⟨h2.both, h2.cc, h2.base, h2.pt, h2.nd, fun x hx => by
    obtain rfl : x = (w.heap.size, who, true) := by simpa using hx
    exact ⟨Hp.blk_new w _, h.base.1⟩, by simp⟩
theorem _root_.Go.Proofs.Ytdcikbhfoplkmaa.Ar.Duo.noQ (h : Duo B w a c s ps am cc t2 qs) : Duo B w a c s ps am cc t2 [] := ⟨h.both, h.cc, h.base, h.pt, h.nd, fun x hx => (by cases hx), (by simp)⟩
end
theorem touchD_same {c cc k : Nat} {w w' : World} (hb : Below w.heap.size w w') (hk : k < w.heap.size) (h : TouchD c cc w' k) : TouchD c cc w k := by
  rcases h with e | e | ⟨cs, t, f, h1, h2⟩
  · exact .inl e
  · exact .inr (.inl e)
  · exact .inr (.inr ⟨cs, t, f, (hb.block k hk).symm.trans h1, h2⟩)
set_option maxHeartbeats 4000000 in
set_option maxRecDepth 100000 in
theorem make {B : Nat} {w : World} {a c am cc g : Nat} {s t2 : AS} {ps : List (Nat × Int × Bool)} {A : Option Addr} {cp : Nat} {H : List Int} {pos : Int} {n : Nx} {stop : Bool} (who : Int) (hd : Duo B w a c s ps am cc t2 []) (ht : IsTp B w c cc g A cp H pos n stop) (hk : 1 ≤ n.kind ∧ n.kind ≤ 6) (hl : t2.log.length ≤ 1000000) (hH : H.length ≤ 100) :
    Calls Try.prog 57 #[.pointer (some ⟨am, 0, none⟩), .pointer (some ⟨g, 0, none⟩), .int .i64 who] w fun e w' => e = .returned (.tuple #[]) ∧ ∃ A' cp', Duo B w' a c s ps am cc (t2.acc true who n.kind n.at_ n.want n.put).1 [] ∧ IsTp B w' c cc g A' cp' (H ++ [(t2.acc true who n.kind n.at_ n.want n.put).2]) pos n stop ∧
      (∀ k, TpOwn g A' cp' (H.length + 1) k → TpOwn g A cp H.length k ∨ w.heap.size ≤ k) ∧ Below B w w' ∧ Fr (fun k => TpOwn g A cp H.length k ∨ TouchD c cc w k) w w' := by
  have HD := Lib.hid hd
  have HT := Lib.hid ht
  have HK := Lib.hid hk
  have HL := Lib.hid hl
  have KB := Lib.hid ht.blk
  clear hd ht hk hl
  go_enter Try.func57, Try.ntmps57
  go_upto_region 1 with (fail)
  have hb0 : Below w.heap.size w (w.alloc (.cells #[.int .i64 who, .bool true] 127)) := (Below.refl _ w).alloc (Nat.le_refl _) _
  replace KB := Lib.hid (Hp.blk_alloc KB.out (.cells #[.int .i64 who, .bool true] 127))
  have HD1 := Lib.hid (HD.out.newQ who)
  have HT1 := Lib.hid (HT.out.below hb0)
  have HB := Lib.hid (hb0.mono HD.out.base.1)
  have HF : Hid (Fr (fun k => TpOwn g A cp H.length k ∨ TouchD c cc w k) w (w.alloc (.cells #[.int .i64 who, .bool true] 127))) := Lib.hid ((Fr.refl _ w).alloc _)
  have HW1 := Lib.hid hb0
  have HBs := Lib.hid HD.out.base.1
  clear hb0 HD
  generalize hw1 : w.alloc (.cells #[.int .i64 who, .bool true] 127) = w1 at KB HD1 HT1 HB HF HW1 ⊢
  clear hw1
  obtain ⟨q, hq⟩ : ∃ q, q = w.heap.size := ⟨_, rfl⟩
  rw [← hq] at HD1 ⊢
  clear hq
  obtain ⟨b2, -⟩ := Hp.blk_cell KB.out 2 rfl
  obtain ⟨b3, -⟩ := Hp.blk_cell KB.out 3 rfl
  obtain ⟨b4, -⟩ := Hp.blk_cell KB.out 4 rfl
  obtain ⟨b5, -⟩ := Hp.blk_cell KB.out 5 rfl
  obtain ⟨b6, -⟩ := Hp.blk_cell KB.out 6 rfl
  obtain ⟨b7, -⟩ := Hp.blk_cell KB.out 7 rfl
  obtain ⟨b8, -⟩ := Hp.blk_cell KB.out 8 rfl
  go_upto_region 2 with (fail)
  clear b2 b3 b4 b5 b6 b7 b8
  have hx := Hp.blk_new w1 (.cells #[.int .i64 n.who, .int .i64 n.kind, .int .i64 n.at_, .int .u64 n.want, .int .u64 n.put, .int .u64 n.seen, .int .u64 n.left] 83)
  have hb1 : Below w1.heap.size w1 (w1.alloc (.cells #[.int .i64 n.who, .int .i64 n.kind, .int .i64 n.at_, .int .u64 n.want, .int .u64 n.put, .int .u64 n.seen, .int .u64 n.left] 83)) := (Below.refl _ w1).alloc (Nat.le_refl _) _
  replace HD1 := Lib.hid (HD1.out.below hb1)
  replace HT1 := Lib.hid (HT1.out.below hb1)
  replace HB := Lib.hid (HB.out.trans (hb1.mono (Nat.le_trans HBs.out HB.out.size)))
  have HW : Hid (Below w.heap.size w (w1.alloc (.cells #[.int .i64 n.who, .int .i64 n.kind, .int .i64 n.at_, .int .u64 n.want, .int .u64 n.put, .int .u64 n.seen, .int .u64 n.left] 83))) := Lib.hid (HW1.out.trans (hb1.mono HW1.out.size))
  clear hb1 KB HF HW1
  generalize w1.heap.size = xb at hx ⊢
  generalize w1.alloc (.cells #[.int .i64 n.who, .int .i64 n.kind, .int .i64 n.at_, .int .u64 n.want, .int .u64 n.put, .int .u64 n.seen, .int .u64 n.left] 83) = w2 at hx HD1 HT1 HB HW ⊢
  obtain ⟨x1, -⟩ := Hp.blk_cell hx 1 rfl
  obtain ⟨x2, -⟩ := Hp.blk_cell hx 2 rfl
  obtain ⟨x3, -⟩ := Hp.blk_cell hx 3 rfl
  obtain ⟨x4, -⟩ := Hp.blk_cell hx 4 rfl
  clear hx
  go_upto_region 3 with (first
    | (go_at_call 71; ((with_reducible refine (HD1.out.do_ 0 (q := q) (who := who) (g := true) n.kind n.at_ n.want n.put rfl HL.out HK.out.1 HK.out.2).mono ?_); rintro e w3 ⟨rfl, hD⟩)))
  clear x1 x2 x3 x4
  have HT3 := Lib.hid (HT1.out.fr hD.fr (HT1.out.free HD1.out))
  have HF : Hid (Fr (fun k => TpOwn g A cp H.length k ∨ TouchD c cc w k) w w3) := Lib.hid (((Fr.refl _ w).below HW.out).then hD.fr (fun k hk ht => .inr (touchD_same HW.out hk ht)))
  replace HB := Lib.hid (HB.out.trans hD.bel)
  have HD3 := Lib.hid hD.duo.noQ
  have HSz : Hid (w.heap.size ≤ w3.heap.size) := HF.out.size |> Lib.hid
  clear hD HD1 HT1 HW
  obtain ⟨sn, hsn⟩ : ∃ sn, sn = (t2.acc true who n.kind n.at_ n.want n.put).2 := ⟨_, rfl⟩
  rw [← hsn]
  have HSN := Lib.hid hsn
  clear hsn
  have KB3 := Lib.hid HT3.out.blk
  obtain ⟨b0, -⟩ := Hp.blk_cell KB3.out 0 rfl
  obtain ⟨i0, hi0, hz0, hz1, hz2⟩ := info_parts infoU
  go_wp2_with (first
    | (at_builtin; (refine wpList_append_lies _ rfl _ _ 33 rfl B 24 i0 _ 1 8 Try.underlying33 hi0 hz0 hz1 hz2 rfl (by omega) (.slice A H.length cp) H.length (H.map (Value.int .u64)) rfl (own_fr HT3.out.row ((Fr.refl (fun _ => False) w3).alloc _) (fun _ _ => id)) ⟨w3.heap.size, 0, none⟩ 1 1 [.int .u64 sn] rfl rfl (World.news_of_block (Hp.blk_new w3 _)) (by simp [Value.oneCell']) (by omega) (by unfold maxLen; omega) (by omega) (by have := HD3.out.base.1; simp; omega) (w3.heap.size + 1) (by simp) ?_; intro g4 cap4 w4 own4 grow4 at4 lt4; (have e0 : Fr (fun k => (Value.slice A H.length cp).ownBlock = some k) w3 w4 := ((Fr.refl _ w3).alloc _).grown grow4 (fun k hk => .inl hk)); (have KB4 := Lib.hid (e0.blk KB3.out (fun z => HT3.out.rowne g z rfl))); (obtain ⟨d0, f0⟩ := Hp.blk_cell KB4.out 0 rfl))))
  first | go_end0 | ((try simp only [Exit.inBlock, Exit.then]); refine bodyPost_ret (results_none rfl _ _ _) rfl ?_)
  have hlen : (H ++ [sn]).length = H.length + 1 := by simp
  have hcs : c < w3.heap.size ∧ cc < w3.heap.size ∧ g < w3.heap.size := by
    obtain ⟨lv, lv2, hA, hM, _⟩ := HD3.out.both
    exact ⟨blk_lt hA.cel, blk_lt hM.cel, blk_lt KB3.out⟩
  have hg4 : g4 ≠ g ∧ g4 ≠ c ∧ g4 ≠ cc ∧ ((Value.slice A H.length cp).ownBlock = some g4 ∨ w.heap.size ≤ g4) := by
    rcases at4 with h | h
    · exact ⟨HT3.out.rowne g4 h, (HT3.out.ne g4 h).1, (HT3.out.ne g4 h).2, .inl h⟩
    · have := HSz.out
      exact ⟨by omega, by omega, by omega, .inr (by omega)⟩
  have hown4 : ∀ k, (Value.slice (some ⟨g4, 0, none⟩) (H.length + 1) cap4).ownBlock = some k → k = g4 := fun k hk => by
    simp only [Value.ownBlock, Option.some.injEq] at hk
    exact hk.symm
  have hfg : Fr (fun k => k = g) w4 (w4.setCell ⟨g, 0, none⟩ (.slice (some ⟨g4, 0, none⟩) (H.length + 1) cap4)) := (Fr.refl _ w4).setCell _ _ (.inl rfl)
  have hd4 : Duo B w4 a c s ps am cc (t2.acc true who n.kind n.at_ n.want n.put).1 [] := HD3.out.fr e0 (fun k _ hk => HT3.out.free HD3.out k (.inr hk))
  rw [← HSN.out]
  refine ⟨rfl, some ⟨g4, 0, none⟩, cap4, hd4.other (duo_nt hd4 KB4.out (by decide)) 0 _, ⟨?_, ?_, ?_, HT3.out.base⟩, ?_, (Fr.toBelow HB.out HD3.out.base.1 e0 (fun k hk => (own_touch2 HT3.out.row k hk).2)).setCell (p := ⟨g, 0, none⟩) HT3.out.base _, (HF.out.then e0 (fun k _ hk => .inl (.inr hk))).setCell ⟨g, 0, none⟩ _ (.inl (.inl (.inl rfl)))⟩
  · rw [hlen]; exact Hp.blk_set KB4.out 0 _
  · rw [hlen, List.map_append]
    exact own_fr own4 hfg (fun k hk => by rw [hown4 k hk]; exact hg4.1)
  · rw [hlen]
    exact fun k hk => by rw [hown4 k hk]; exact ⟨hg4.2.1, hg4.2.2.1⟩
  · rintro k (rfl | hk)
    · exact .inl (.inl rfl)
    · rw [hown4 k hk]
      rcases hg4.2.2.2 with h | h
      · exact .inl (.inr h)
      · exact .inr h
end Go.Proofs.Ytdcikbhfoplkmaa.Dd
