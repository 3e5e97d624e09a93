-- Laid by a program of this session's (xprint.py) over the print's text; contracts proved by hand stand among them. Lean checks it.
import Derived.Shelf.Abstract
import Derived.Shelf.RegionOpen
import Derived.OwnWalkIn
import Derived.TacticsInMore
import Derived.LoopNIn
import Derived.LoopIn
import Derived.Shelf.Bytes.SlIndexAt
import Derived.Lib.IndexLaws
import Derived.Test.YtmicgojonpdelaaXShelf
import Derived.Test.YtmicgojonpdelaaVLida
import Derived.Test.YtmicgojonpdelaaXStr
import Derived.Test.YtmicgojonpdelaaXLidx0
import Derived.Test.YtmicgojonpdelaaXLidx6
namespace Go.Proofs.Ytmicgojonpdelaa.XLid
open Go.RowKit Go.Proofs.YtmicgojonpdelaaW.PrintWords Go.Proofs.YtmicgojonpdelaaW.PrintLast Go.Proofs.YtmicgojonpdelaaW.PrintMore
attribute [local go_sem] max2_int min2_int max_two min_two max_three min_three max_four min_four   -- for this text's walks alone
set_option linter.unusedVariables false
set_option linter.unusedSimpArgs false

-- EXTPART
-- IMPORT Derived.Shelf.Abstract
-- IMPORT Derived.Shelf.RegionOpen
-- IMPORT Derived.OwnWalkIn
-- IMPORT Derived.TacticsInMore
-- IMPORT Derived.LoopNIn
-- IMPORT Derived.LoopIn
-- IMPORT Derived.Shelf.Bytes.SlIndexAt
-- IMPORT Derived.Lib.IndexLaws
-- IMPORT Derived.Test.YtmicgojonpdelaaXShelf
-- IMPORT Derived.Test.YtmicgojonpdelaaXSeq
-- IMPORT Derived.Test.YtmicgojonpdelaaXStr
/-! ### lines_Stuffed: function 30 (by hand; under way) -/
namespace StuffedY
open Go.Proofs.Ytmicgojonpdelaa.XSeq
attribute [local go_sem] Oper.semAt_some
/-- A stream cut behind each line feed. -/
def pieces : List Int → List (List Int)
  | [] => []
  | x :: l => if x.toNat.toUInt8 == 10 then [x] :: pieces l else match pieces l with
    | p :: ps => (x :: p) :: ps
    | [] => [[x]]
theorem pieces_cons (x : Int) (l : List Int) : pieces (x :: l) = if x.toNat.toUInt8 == 10 then [x] :: pieces l else match pieces l with
    | p :: ps => (x :: p) :: ps
    | [] => [[x]] := rfl
theorem pieces_none : ∀ S : List Int, S ≠ [] → Lib.indexByte (Lib.bytesOf S) 10 < 0 → pieces S = [S]
  | [], h, _ => absurd rfl h
  | x :: l, _, h => by
    have hb : Lib.bytesOf (x :: l) = x.toNat.toUInt8 :: Lib.bytesOf l := rfl
    rw [hb] at h
    unfold Lib.indexByte at h
    rw [pieces_cons]
    by_cases e : (x.toNat.toUInt8 == 10) = true
    · rw [if_pos e] at h; omega
    · rw [if_neg e] at h ⊢
      cases l with
      | nil => rfl
      | cons y l =>
        have h2 : Lib.indexByte (Lib.bytesOf (y :: l)) 10 < 0 := by
          by_cases e2 : (Lib.indexByte (Lib.bytesOf (y :: l)) 10 == -1) = true
          · have := beq_iff_eq.1 e2; omega
          · rw [if_neg e2] at h; have := Lib.indexByte_ge (Lib.bytesOf (y :: l)) 10; omega
        rw [pieces_none (y :: l) (by simp) h2]
theorem pieces_some : ∀ S : List Int, 0 ≤ Lib.indexByte (Lib.bytesOf S) 10 → pieces S = S.take ((Lib.indexByte (Lib.bytesOf S) 10).toNat + 1) :: pieces (S.drop ((Lib.indexByte (Lib.bytesOf S) 10).toNat + 1)) ∧ (Lib.indexByte (Lib.bytesOf S) 10).toNat < S.length
  | [], h => by simp [Lib.bytesOf, Lib.indexByte] at h
  | x :: l, h => by
    have hb : Lib.bytesOf (x :: l) = x.toNat.toUInt8 :: Lib.bytesOf l := rfl
    rw [hb] at h ⊢
    unfold Lib.indexByte at h ⊢
    rw [pieces_cons]
    by_cases e : (x.toNat.toUInt8 == 10) = true
    · simp only [if_pos e] at h ⊢
      exact ⟨by simp, by simp⟩
    · simp only [if_neg e] at h ⊢
      by_cases e2 : (Lib.indexByte (Lib.bytesOf l) 10 == -1) = true
      · rw [if_pos e2] at h; omega
      · rw [if_neg e2] at h
        simp only [if_neg e2]
        have hg := Lib.indexByte_ge (Lib.bytesOf l) 10
        have hn : Lib.indexByte (Lib.bytesOf l) 10 ≠ -1 := fun z => e2 (beq_iff_eq.2 z)
        obtain ⟨h1, h2⟩ := pieces_some l (by omega)
        have e3 : (Lib.indexByte (Lib.bytesOf l) 10 + 1).toNat = (Lib.indexByte (Lib.bytesOf l) 10).toNat + 1 := by omega
        rw [e3, h1]
        exact ⟨by simp, by simp; omega⟩
theorem pieces_len : ∀ S : List Int, (pieces S).length ≤ S.length
  | [] => Nat.le_refl _
  | x :: l => by
    have := pieces_len l
    unfold pieces
    split
    · simp; omega
    · split <;> simp_all <;> omega
theorem pieces_ne {S : List Int} (h : S ≠ []) : pieces S ≠ [] := by
  cases S with
  | nil => exact absurd rfl h
  | cons x l => unfold pieces; split; simp; split <;> simp
abbrev El := Option Addr × List Int
def toLs (l : List El) : List (List Int) := l.map (·.2)
/-- What came in lies as it lay. -/
def Same (wE W : World) : Prop := ∀ k, k < wE.heap.size → W.heap[k]? = wE.heap[k]?
def Head (J : List El → World → Prop) (wE : World) (b : List Int) (bs : Nat) (O : World → Nat → Prop) (W : World) (pre : List El) (A : Option Addr) (c : Nat) (rest : List Int) : Prop :=
  J pre W ∧ toLs pre ++ pieces rest = pieces b ∧ W.heap[bs]? = some (.cells #[.slice A rest.length c] 35 (0, 0)) ∧ Same wE W ∧ (∀ k, k = bs ∨ k < wE.heap.size → ¬ O W k) ∧ rest.length ≤ c ∧
    Kd.F (Kd.int .u8) wE (fun k => k < wE.heap.size) A rest.length rest ∧ rest.length ≤ b.length
theorem head_next {J : List El → World → Prop} {wE : World} {b : List Int} {bs : Nat} {O : World → Nat → Prop} {W1 W' : World} {pre : List El} {A : Option Addr} {c : Nat} {rest : List Int} (hj : J pre W') (hk : KeepS O W1 W') (hp : toLs pre ++ pieces rest = pieces b)
    (b1 : W1.heap[bs]? = some (.cells #[.slice A rest.length c] 35 (0, 0))) (hs : Same wE W1) (ho : ∀ k, k = bs ∨ k < wE.heap.size → ¬ O W1 k) (hlt : wE.heap.size ≤ bs) (hc : rest.length ≤ c)
    (hf : Kd.F (Kd.int .u8) wE (fun k => k < wE.heap.size) A rest.length rest) (hr : rest.length ≤ b.length) : Head J wE b bs O W' pre A c rest :=
  have l1 : bs < W1.heap.size := blk_lt b1
  ⟨hj, hp, (hk.block bs l1 (ho bs (.inl rfl))).trans b1, fun k hk1 => (hk.block k (by omega) (ho k (.inr hk1))).trans (hs k hk1),
    fun k hk1 h => by
      rcases hk.own k h with h | h
      · exact ho k hk1 h
      · rcases hk1 with rfl | hk1 <;> omega, hc, hf, hr⟩
theorem same_set {wE W : World} {bs : Nat} (h : Same wE W) (hlt : wE.heap.size ≤ bs) (u : Value) : Same wE (W.setCell ⟨bs, 0, none⟩ u) := fun k hk => (Below.heap_setCell _ _ _ _ (by show k ≠ bs; omega)).trans (h k hk)
theorem grown_set (W : World) (bs : Nat) (u : Value) : W.grownBy (W.setCell ⟨bs, 0, none⟩ u) (some bs) := ⟨rfl, rfl, rfl, by simp [World.setCell], fun k _ hk => Below.heap_setCell _ _ _ _ (fun e => hk (by rw [e]))⟩
theorem grown_setd (W : World) (bs : Nat) (u : Value) : W.grownBy ((W.setCell ⟨bs, 0, none⟩ u).drew) (some bs) := ⟨rfl, rfl, rfl, by simp [World.setCell, World.drew], fun k _ hk => Below.heap_setCell _ _ _ _ (fun e => hk (by rw [e]))⟩
def restOf (W : World) (bs : Nat) : Nat := match W.cell? ⟨bs, 0, none⟩ with | some (.slice _ n _) => n | _ => 0
theorem restOf_eq {W : World} {bs n c t : Nat} {A : Option Addr} (h : W.heap[bs]? = some (.cells #[.slice A n c] t (0, 0))) : restOf W bs = n := by
  unfold restOf; rw [blk_cell h 0]; rfl
def T4 : Bool × List (List Nat × List Nat) := (true, [([], []), ([], []), ([1], [1]), ([0, 2], [0, 2]), ([], []), ([], []), ([5], [5]), ([4, 6], [4, 6]), ([3, 0, 1, 2, 3], [3]), ([7, 8, 0, 1, 2, 3, 4, 5, 6, 7, 8], [7])])
theorem tab4 : rtab .any (opsOf Try.f40 4) = T4 := by kernel_rfl
set_option maxHeartbeats 4000000 in
set_option maxRecDepth 100000 in
theorem lines_seq (n : Nat) (hn : 2 ≤ n) (wE : World) (b : List Int) (A0 : Option Addr) (c0 : Nat) (hb : b.length ≤ 140737488355328) (hc0 : b.length ≤ c0) (hF : Kd.F (Kd.int .u8) wE (fun k => k < wE.heap.size) A0 b.length b) (n₀ bs : Nat) (w : World)
    (hbs : w.heap[bs]? = some (.cells #[.slice A0 b.length c0] 35 (0, 0))) (hsame : Same wE w) (hlt : wE.heap.size ≤ w.heap.size) (hn0 : n₀ ≤ bs) (hbE : wE.heap.size ≤ bs) :
    SeqS n Try.prog 40 #[.pointer (some ⟨bs, 0, none⟩)] (fun x : El => #[.slice x.1 x.2.length x.2.length]) n₀ (fun k => k = bs ∨ k < wE.heap.size) (fun xs => toLs xs = pieces b) (fun pre => toLs pre <+: pieces b) (b.length + 1)
      (fun x => x.2 ≠ [] ∧ x.2.length ≤ b.length ∧ Kd.F (Kd.int .u8) wE (fun k => k < wE.heap.size) x.1 x.2.length x.2) w := by
  intro O l J Jx W hW hO hJ hJx hOW hY h0
  refine callsIn_of_wp Try.func40 rfl trivial ?_ rfl
  simp only [Try.ntmps40, List.size_toArray, List.length_cons, List.length_nil, Nat.reduceAdd, Nat.reduceSub, Array.replicate_succ, Array.replicate_zero, List.push_toArray, List.append_toArray, List.nil_append, List.cons_append]
  have HH := Aside0.mk (show Head J wE b bs O W [] A0 c0 b from ⟨h0, by simp [toLs], blk_below hbs hW, fun k hk => (hW.block k (by omega)).trans (hsame k hk), hO, hc0, hF, Nat.le_refl _⟩)
  gi_wp2
  gi_loopw [3] (fun p wr => ∃ pre A c rest, Aside0 (Head J wE b bs O wr pre A c rest)) (fun p wr => restOf wr bs)
  case atStart => exact ⟨_, _, _, _, HH⟩
  case round =>
    clear HH
    obtain ⟨pre, A, c, rest, HH⟩ := hrel
    obtain ⟨hj, hp, b1, hs, ho, hrc, hf, hrb⟩ := HH.out
    have c1 := (blk_cell b1 0).trans rfl
    have f1 := blk_frozen b1 0
    have hlen : pre.length < b.length + 1 := by
      have h1 := congrArg List.length hp
      have h2 := pieces_len b
      rw [List.length_append] at h1
      simp only [toLs, List.length_map] at h1
      omega
    by_cases hr : rest = []
    · subst hr
      have hp' : toLs pre = pieces b := by rw [← hp]; show toLs pre = toLs pre ++ []; rw [List.append_nil]
      have HP := Aside0.mk hp'
      have HJ := Aside0.mk hj
      clear hp hp' hj ho hs hf HH
      gi_wp2
      go_end0
      exact ⟨⟨_, rfl⟩, .inl ⟨_, HP.out, HJ.out⟩⟩
    have hr0 : 0 < rest.length := List.length_pos_iff.2 hr
    have hC : Kd.C (Kd.int .u8) wr A rest.length rest := hf wr (fun k hk _ => hs k hk)
    obtain ⟨ad, rfl, _⟩ := Kd.at_int hC 0 (Int.le_refl _) (by omega)
    have hix := Try.bytes_IndexByte_at ad rest.length c rest 10 wr rfl (fun i hi => by
      obtain ⟨ad2, e2, hc⟩ := Kd.at_int hC (i : Int) (by omega) (by omega)
      cases e2
      simpa [rd] using hc)
    have hS1 := Aside0.mk (pieces_none rest hr)
    have hS2 := Aside0.mk (pieces_some rest)
    have e10 : (10 : Int).toNat.toUInt8 = (10 : UInt8) := rfl
    rw [e10] at hix
    have hpos : decide ((0 : Int) < (rest.length : Int)) = true := decide_eq_true (by omega)
    have hposP : ((0 : Int) < (rest.length : Int)) = True := eq_true (by omega)
    have hf36 : Fence.wide.fn 36 := trivial
    have hn1 : 1 ≤ n := by omega
    obtain ⟨i0, hi0, _, hsz0, _⟩ := info_parts info5
    have HP := Aside0.mk hp
    have HJ := Aside0.mk hj
    have HS := Aside0.mk hs
    have HO := Aside0.mk ho
    have HF := Aside0.mk hf
    have B1 := Aside0.mk b1
    have HIX := Aside0.mk hix
    clear hp hj hs ho hf hix HH hC
    by_cases hi : Lib.indexByte (Lib.bytesOf rest) 10 < 0
    · have hge : decide ((0 : Int) ≤ Lib.indexByte (Lib.bytesOf rest) 10) = false := decide_eq_false (by omega)
      have hst := hJ pre wr _ _ HJ.out (grown_set wr bs (.slice none 0 0)) (fun r e => by cases e; exact ⟨hn0, HO.out bs (.inl rfl)⟩)
      have b2 : (wr.setCell ⟨bs, 0, none⟩ (.slice none 0 0)).heap[bs]? = some (.cells #[.slice none ([] : List Int).length 0] 35 (0, 0)) := by
        have := blk_set B1.out 0 (.slice none 0 0)
        simpa using this
      have hsW := same_set (u := .slice none 0 0) HS.out hbE
      have hoW : ∀ k, k = bs ∨ k < wE.heap.size → ¬ O (wr.setCell ⟨bs, 0, none⟩ (.slice none 0 0)) k := fun k hk h => HO.out k hk (hst.2 k h)
      have hfin : toLs (pre ++ [(some ad, rest)]) ++ pieces [] = pieces b := by
        rw [← HP.out, hS1.out hi]
        simp [toLs, pieces]
      have HJ1 := Aside0.mk hst.1
      have B2 := Aside0.mk b2
      have HSW := Aside0.mk hsW
      have HOW := Aside0.mk hoW
      have HFIN := Aside0.mk hfin
      clear hst b2 hsW hoW hfin
      gi_wp2_with (gi_at_call 36; refine (callsIn_wide.2 (HIX.out)).mono ?_; rintro e w' ⟨rfl, rfl⟩; obtain ⟨fn, tmps, assign, body, hy, hR⟩ := hY pre (some ad, rest) _ HJ1.out hlen ⟨hr, hrb, HF.out⟩; try dsimp only at hy)
      refine hR.mono ?_
      rintro e W' (⟨rfl, hj, hk⟩ | ⟨rfl, hjx⟩)
      · have HN := Aside0.mk (head_next hj hk HFIN.out B2.out HSW.out HOW.out hbE (Nat.le_refl _) (Kd.F_nil _ _ _) (Nat.zero_le _))
        clear hj hk
        gi_wp2
        refine ⟨⟨_, _, _, _, HN⟩, ?_⟩
        have m1 := restOf_eq HN.out.2.2.1
        have m2 := restOf_eq B1.out
        have m3 : ([] : List Int).length < rest.length := hr0
        exact Nat.lt_of_lt_of_le (Nat.lt_of_le_of_lt (Nat.le_of_eq m1) m3) (Nat.le_of_eq m2.symm)
      · have HPF := Aside0.mk (show toLs (pre ++ [(some ad, rest)]) <+: pieces b by rw [← HFIN.out]; simp [pieces])
        gi_wp2
        refine bodyPost_ret (results_none rfl _ _ _) rfl ?_
        exact ⟨⟨_, rfl⟩, .inr ⟨_, HPF.out, hjx⟩⟩
    · have hi' : 0 ≤ Lib.indexByte (Lib.bytesOf rest) 10 := by omega
      obtain ⟨hq1, hq2⟩ := hS2.out hi'
      obtain ⟨i, hie⟩ := Int.eq_ofNat_of_zero_le hi'
      rw [hie] at hq1 hq2 HIX
      rw [Int.toNat_natCast] at hq1 hq2
      have HQ1 := Aside0.mk hq1
      have HQ2 := Aside0.mk hq2
      have hge : decide ((0 : Int) ≤ (i : Int)) = true := decide_eq_true (by omega)
      have hw1 : wrap64 ((i : Int) + 1) = ((i + 1 : Nat) : Int) := by unfold wrap64; omega
      have hw2 : IntKind.i64.wrap ((i : Int) + 1) = ((i + 1 : Nat) : Int) := (i64_w _).trans hw1
      have q0 : (0 : Int) ≤ ((i + 1 : Nat) : Int) := Int.natCast_nonneg _
      have q1 : ((i + 1 : Nat) : Int) ≤ (rest.length : Int) := Int.ofNat_le.2 hq2
      have Q3 := Aside0.mk (show (0 : Int) ≤ (i : Int) + 1 from q0)
      have Q4 := Aside0.mk (show (i : Int) + 1 ≤ (rest.length : Int) from q1)
      have Q5 := Aside0.mk (show (i : Int) + 1 ≤ (c : Int) from Int.le_trans q1 (Int.ofNat_le.2 hrc))
      have hcut := cut_to (P := Try.prog) 35 5 .i64 Try.underlying35 hi0 (some ad) rest.length c ((i + 1 : Nat) : Int) q0 q1 hrc
      have hcut2 := cut_from (P := Try.prog) 35 5 .i64 Try.underlying35 hi0 1 hsz0 (some ad) rest.length c ((i + 1 : Nat) : Int) q0 q1
      rw [Int.toNat_natCast] at hcut hcut2
      obtain ⟨A2, hA2⟩ : ∃ A2, A2 = (if c = i + 1 then (some ad : Option Addr) else (some ad : Option Addr).map (·.add ((i + 1) * 1))) := ⟨_, rfl⟩
      rw [← hA2] at hcut2
      have HA2 := Aside0.mk hA2
      have HH2 := Aside0.mk (show toLs (pre ++ [(some ad, rest.take (i + 1))]) ++ pieces (rest.drop (i + 1)) = pieces b by
        rw [← HP.out, hq1]
        simp [toLs])
      clear hq1 hi' hie hi hA2
      gi_wp2_with (gi_at_call 36; refine (callsIn_wide.2 (HIX.out)).mono ?_; rintro e w' ⟨rfl, rfl⟩)
      refine wpIn_wide.2 ?_
      refine start_ (n := 10) (S := fun w' => w'.cell? ⟨bs, 0, none⟩ = some (.slice (some ad) rest.length c)) (ds := [9]) #[false, false, false, false, false, false, false, false, false, false] (by kernel_rfl) rfl rfl ((blk_cell (blk_drew B1.out) 0).trans rfl) (fun hHeld => ?_)
      refine with_tab tab4 (fun HT_ => ?_)
      refine take_ (i := 0) (N := some 12) (v := ?_) (a' := ?_) #[true, false, false, false, false, false, false, false, false, false] rfl rfl (take_of HT_.out (by kernel_rfl)) (fun _ _ _ h => h) (Or.inl ⟨by rfl, ?_⟩) hHeld ?_ ?_
      rotate_left
      · rintro w' s0
        go_simp
        with_reducible rfl
      rotate_left
      · simp only [Act.put, List.setIfInBounds_toArray, List.set_cons_zero, List.set_cons_succ, i64_w, i32_w]
        rfl
      refine pure_ (i := 1) (N := some 13) (v := ?_) (a' := ?_) #[true, true, false, false, false, false, false, false, false, false] rfl rfl (any_of HT_.out (by kernel_rfl)) (fun _ _ _ h => h) (Or.inl ⟨by rfl, ?_⟩) ?_ ?_
      rotate_left
      · intro w'
        go_simp
        try with_reducible rfl
      rotate_left
      · simp only [Act.put, List.setIfInBounds_toArray, List.set_cons_zero, List.set_cons_succ, i64_w, i32_w]
        rfl
      refine pure_ (i := 2) (N := some 14) (v := ?_) (a' := ?_) #[true, true, true, false, false, false, false, false, false, false] rfl rfl (any_of HT_.out (by kernel_rfl)) (fun _ _ _ h => h) (Or.inl ⟨by rfl, ?_⟩) ?_ ?_
      rotate_left
      · intro w'
        go_simp
        try rw [hw2]
        try with_reducible rfl
      rotate_left
      · simp only [Act.put, List.setIfInBounds_toArray, List.set_cons_zero, List.set_cons_succ, i64_w, i32_w]
        rfl
      refine pure_ (i := 3) (N := some 15) (v := (.slice (some ad) (i + 1) c)) (a' := ?_) #[true, true, true, true, false, false, false, false, false, false] rfl rfl (any_of HT_.out (by kernel_rfl)) (fun _ _ _ h => h) (Or.inl ⟨by rfl, ?_⟩) ?_ ?_
      · intro w'
        go_simp
        intro hno
        exact absurd (hno Q3.out) (Int.not_lt.2 Q5.out)
      rotate_left
      · simp only [Act.put, List.setIfInBounds_toArray, List.set_cons_zero, List.set_cons_succ, i64_w, i32_w]
        rfl
      refine take_ (i := 4) (N := some 16) (v := ?_) (a' := ?_) #[true, true, true, true, true, false, false, false, false, false] rfl rfl (take_of HT_.out (by kernel_rfl)) (fun _ _ _ h => h) (Or.inl ⟨by rfl, ?_⟩) hHeld ?_ ?_
      rotate_left
      · rintro w' s0
        go_simp
        with_reducible rfl
      rotate_left
      · simp only [Act.put, List.setIfInBounds_toArray, List.set_cons_zero, List.set_cons_succ, i64_w, i32_w]
        rfl
      refine pure_ (i := 5) (N := some 17) (v := ?_) (a' := ?_) #[true, true, true, true, true, true, false, false, false, false] rfl rfl (any_of HT_.out (by kernel_rfl)) (fun _ _ _ h => h) (Or.inl ⟨by rfl, ?_⟩) ?_ ?_
      rotate_left
      · intro w'
        go_simp
        try with_reducible rfl
      rotate_left
      · simp only [Act.put, List.setIfInBounds_toArray, List.set_cons_zero, List.set_cons_succ, i64_w, i32_w]
        rfl
      refine pure_ (i := 6) (N := some 18) (v := ?_) (a' := ?_) #[true, true, true, true, true, true, true, false, false, false] rfl rfl (any_of HT_.out (by kernel_rfl)) (fun _ _ _ h => h) (Or.inl ⟨by rfl, ?_⟩) ?_ ?_
      rotate_left
      · intro w'
        go_simp
        try rw [hw2]
        try with_reducible rfl
      rotate_left
      · simp only [Act.put, List.setIfInBounds_toArray, List.set_cons_zero, List.set_cons_succ, i64_w, i32_w]
        rfl
      refine pure_ (i := 7) (N := some 19) (v := (.slice A2 (rest.length - (i + 1)) (c - (i + 1)))) (a' := ?_) #[true, true, true, true, true, true, true, true, false, false] rfl rfl (any_of HT_.out (by kernel_rfl)) (fun _ _ _ h => h) (Or.inl ⟨by rfl, ?_⟩) ?_ ?_
      · intro w'
        rw [HA2.out]
        go_simp
        intro hno
        exact absurd (hno Q3.out) (Int.not_lt.2 Q4.out)
      rotate_left
      · simp only [Act.put, List.setIfInBounds_toArray, List.set_cons_zero, List.set_cons_succ, i64_w, i32_w]
        rfl
      refine pure_ (i := 8) (N := some 3) (v := ?_) (a' := ?_) #[true, true, true, true, true, true, true, true, true, false] rfl rfl (any_of HT_.out (by kernel_rfl)) (fun _ _ _ h => h) (Or.inl ⟨by rfl, ?_⟩) ?_ ?_
      rotate_left
      · intro w'
        go_simp
        try with_reducible rfl
      rotate_left
      · simp only [Act.put, List.setIfInBounds_toArray, List.set_cons_zero, List.set_cons_succ, i64_w, i32_w]
        rfl
      refine last_ (i := 9) (N := none) #[true, true, true, true, true, true, true, true, true, true] rfl rfl (one_of HT_.out (by kernel_rfl)) (by decide) (fun K hK => ?_)
      have f2 := blk_frozen (blk_drew B1.out) 0
      rw [if_pos (by rfl)]
      unfold Oper.wp
      go_simp
      refine hK.out _ _ ?_
      refine done_ (done_of HT_.out (by kernel_rfl)) ?_
      clear hK K HT_ hHeld f2
      rename_i a_1
      refine a_1 _ _ ?_
      clear a_1
      obtain ⟨W2, hW2⟩ : ∃ W2, W2 = (w'.setCell ⟨bs, 0, none⟩ (.slice A2 (rest.length - (i + 1)) (c - (i + 1)))).drew := ⟨_, rfl⟩
      rw [← hW2]
      have hst := hJ pre w' W2 (some bs) HJ.out (by rw [hW2]; exact grown_setd _ _ _) (fun r e => by cases e; exact ⟨hn0, HO.out bs (.inl rfl)⟩)
      have b2 : W2.heap[bs]? = some (.cells #[.slice A2 (rest.drop (i + 1)).length (c - (i + 1))] 35 (0, 0)) := by rw [hW2, List.length_drop]; simpa using blk_drew (blk_set B1.out 0 (.slice A2 (rest.length - (i + 1)) (c - (i + 1))))
      have hsW : Same wE W2 := by rw [hW2]; exact same_set HS.out hbE _
      have hoW : ∀ k, k = bs ∨ k < wE.heap.size → ¬ O W2 k := fun k hk h => HO.out k hk (hst.2 k h)
      have hfd : Kd.F (Kd.int .u8) wE (fun k => k < wE.heap.size) A2 (rest.drop (i + 1)).length (rest.drop (i + 1)) := by rw [HA2.out]; exact Kd.F_cut HF.out hq2 hrc
      have hft := Kd.F_take HF.out (m := i + 1) hq2
      have htl : (rest.take (i + 1)).length = i + 1 := by rw [List.length_take]; exact Nat.min_eq_left hq2
      have hdl : (rest.drop (i + 1)).length ≤ rest.length := by rw [List.length_drop]; exact Nat.sub_le _ _
      have hdc : (rest.drop (i + 1)).length ≤ c - (i + 1) := by rw [List.length_drop]; exact Nat.sub_le_sub_right hrc _
      have hds : (rest.drop (i + 1)).length < rest.length := by rw [List.length_drop]; exact Nat.sub_lt hr0 (Nat.succ_pos _)
      have hmc : i + 1 ≤ c := Nat.le_trans hq2 hrc
      have hyy := hY pre (some ad, rest.take (i + 1)) W2 hst.1 hlen ⟨fun h => by have h2 : (rest.take (i + 1)) = [] := h; rw [h2] at htl; exact absurd htl (by simp), Nat.le_trans (Nat.le_of_eq htl) (Nat.le_trans hq2 hrb), hft⟩
      have HB2 := Aside0.mk b2
      have HSW := Aside0.mk hsW
      have HOW2 := Aside0.mk hoW
      have HFD := Aside0.mk hfd
      have HDL := Aside0.mk (And.intro hdl (And.intro hdc hds))
      have HLE := Aside0.mk (Nat.le_trans hdl hrb)
      obtain ⟨fn, tmps, assign, body, hy, hR⟩ := hyy
      try dsimp only at hy
      rw [htl] at hy
      clear b2 hsW hoW hfd hft hst hdl hdc hds hW2 HA2 hY HIX hF HS HO HJ HF hw1 hw2 hq2 hge c1 f1 b1 hS1 hS2 HQ1 HQ2 hpos hposP e10
      gi_wp2
      refine hR.mono ?_
      rintro e W' (⟨rfl, hj, hk⟩ | ⟨rfl, hjx⟩)
      · have HN := Aside0.mk (head_next hj hk HH2.out HB2.out HSW.out HOW2.out hbE HDL.out.2.1 HFD.out HLE.out)
        clear hj hk
        gi_wp2
        refine ⟨⟨_, _, _, _, HN⟩, ?_⟩
        have m1 := restOf_eq HN.out.2.2.1
        have m2 := restOf_eq B1.out
        have m3 := HDL.out.2.2
        exact Nat.lt_of_lt_of_le (Nat.lt_of_le_of_lt (Nat.le_of_eq m1) m3) (Nat.le_of_eq m2.symm)
      · have HPF := Aside0.mk (show toLs (pre ++ [(some ad, rest.take (i + 1))]) <+: pieces b from ⟨_, HH2.out⟩)
        gi_wp2
        refine bodyPost_ret (results_none rfl _ _ _) rfl ?_
        exact ⟨⟨_, rfl⟩, .inr ⟨_, HPF.out, hjx⟩⟩
end StuffedY
namespace StuffedX
theorem lines_calls (A0 : Option Addr) (n c0 : Nat) (w : World) :
    Calls Try.prog 35 #[.slice A0 n c0] w fun e w' => e = .returned (.func (.func 40) #[] #[.pointer (some ⟨w.heap.size, 0, none⟩)]) ∧ w' = w.alloc (.cells #[.slice A0 n c0] 35) := by
  go_enter Try.func35, Try.ntmps35
  go_wp2
  go_ret
  exact ⟨rfl, rfl⟩
end StuffedX
namespace StuffedZ
open Go.Proofs.Ytmicgojonpdelaa.XSeq StuffedY
attribute [local go_sem] Oper.semAt_some
/-- An append whose run is told. -/
theorem wpListIn_app {F : Fence} {n : Nat} {P : Program} {w w' : World} {v' vs vx : Value} {ops : Array Oper} {rest : List Oper} {o : Oper} {a : Act} {Q : Exit → Act → World → Prop} (s x : Operand) (t : TypeId)
    (hop : o.op = Op.call { callee := Callee.builtin Builtin.append, args := #[s, x], argTypes := #[t, t] }) (hg : o.guard = none) (hrun : (Builtin.append_ #[t, t] o.type #[vs, vx]).run P w = .ok v' w') (hs : a.eval s = vs) (hx : a.eval x = vx)
    (hK : wpListIn F n P ops Q rest (a.put o.dst v') w') : wpListIn F n P ops Q (o :: rest) a w := by
  refine wpListIn_plain hg fun K hK' => ?_
  unfold Oper.wpIn
  refine ⟨?_, ?_⟩
  · simp [Oper.about, hop, resolve, Target.leads, Sem.run_pure]
  · rw [Oper.semAt_plain F _ _ (by rw [hop]; intro c hc'; cases hc')]
    simp [execOp, hop, resolve, invoke, builtin, hs, hx, hrun, Result.andThen]
    exact hK' _ _ hK
/-- The same, of a string. -/
theorem wpListIn_app2 {F : Fence} {n : Nat} {P : Program} {w w' : World} {v' vs vx : Value} {ops : Array Oper} {rest : List Oper} {o : Oper} {a : Act} {Q : Exit → Act → World → Prop} (s x : Operand) (t u : TypeId)
    (hop : o.op = Op.call { callee := Callee.builtin Builtin.append, args := #[s, x], argTypes := #[t, u] }) (hg : o.guard = none) (hrun : (Builtin.append_ #[t, u] o.type #[vs, vx]).run P w = .ok v' w') (hs : a.eval s = vs) (hx : a.eval x = vx)
    (hK : wpListIn F n P ops Q rest (a.put o.dst v') w') : wpListIn F n P ops Q (o :: rest) a w := by
  refine wpListIn_plain hg fun K hK' => ?_
  unfold Oper.wpIn
  refine ⟨?_, ?_⟩
  · simp [Oper.about, hop, resolve, Target.leads, Sem.run_pure]
  · rw [Oper.semAt_plain F _ _ (by rw [hop]; intro c hc'; cases hc')]
    simp [execOp, hop, resolve, invoke, builtin, hs, hx, hrun, Result.andThen]
    exact hK' _ _ hK
def sfx (l : List Int) : Bool := (bytes_HasSuffix.f l [13, 10]).getD false
theorem sfx_is (l : List Int) (h : l.length ≤ 140737488355328) : bytes_HasSuffix.f l [13, 10] = some (sfx l) := by
  have h1 : (bytes_HasSuffix.f l [13, 10]).isSome = true := by
    unfold bytes_HasSuffix.f bytes_Equal.f
    by_cases h2 : (l.length : Int) ≥ (([13, 10] : List Int).length : Int)
    · have h3 : wrap64 ((l.length : Int) - (([13, 10] : List Int).length : Int)) = (l.length : Int) - 2 := by
        simp only [List.length_cons, List.length_nil] at h2 ⊢
        unfold wrap64
        omega
      rw [if_pos h2, h3]
      simp only [List.length_cons, List.length_nil] at h2
      rw [if_pos (by omega), if_pos (by omega)]
      rfl
    · rw [if_neg h2]
      rfl
  obtain ⟨b, hb⟩ := Option.isSome_iff_exists.1 h1
  unfold sfx
  rw [hb]
  rfl
/-- A piece behind what is there. -/
def dot (out p : List Int) : List Int := if rd p 0 = 46 ∧ (out = [] ∨ sfx out = true) then out ++ [46] else out
def stF (ps : List (List Int)) : List Int := ps.foldl (fun out p => dot out p ++ p) []
theorem stF_snoc (ps : List (List Int)) (p : List Int) : stF (ps ++ [p]) = dot (stF ps) p ++ p := by unfold stF; rw [List.foldl_append]; rfl
theorem dot_len (out p : List Int) : (dot out p).length ≤ out.length + 1 := by unfold dot; split <;> simp
/-- Where out lies. -/
def Out (w0 W : World) (v : Value) (out : List Int) : Prop :=
  W.heap[w0.heap.size]? = some (.cells #[v] 35 (0, 0)) ∧ W.ownsRow (w0.heap.size + 2) 5 1 v out.length (encs (Value.int .u8) out) ∧ Below w0.heap.size w0 W ∧ w0.heap.size + 2 ≤ W.heap.size
def OB (R : Nat) (W : World) (k : Nat) : Prop := k = R ∨ ∃ v, W.heap[R]? = some (.cells #[v] 35 (0, 0)) ∧ v.ownBlock = some k
theorem OB_of {R : Nat} {W : World} {k : Nat} {v : Value} (h : OB R W k) (hv : W.heap[R]? = some (.cells #[v] 35 (0, 0))) : k = R ∨ v.ownBlock = some k := by
  rcases h with h | ⟨v', h1, h2⟩
  · exact .inl h
  · rw [hv] at h1
    cases h1
    exact .inr h2
variable {w0 W : World} {v : Value} {out : List Int} {R : Nat}
theorem Out.grown {B : World} {row : Option Nat} (h : Out w0 W v out) (hg : W.grownBy B row) (h1 : some w0.heap.size ≠ row) (h2 : v.ownBlock = none ∨ v.ownBlock ≠ row) (h3 : ∀ k, row = some k → w0.heap.size ≤ k) : Out w0 B v out := by
  obtain ⟨a1, a2, a3, a4⟩ := h
  exact ⟨(hg.block _ (blk_lt a1) h1).trans a1, a2.kept hg h2, a3.grown hg (by omega) h3, Nat.le_trans a4 hg.size⟩
theorem Out.alloc (h : Out w0 W v out) (o : Obj) : Out w0 (W.alloc o) v out := h.grown (World.grownBy_alloc W o none) (by simp) (by cases v.ownBlock <;> simp) (fun k e => by cases e)
theorem Out.drewN (h : Out w0 W v out) (n : Nat) : Out w0 (W.drewN n) v out := ⟨h.1, h.2.1, pw_below_drewN h.2.2.1 n, h.2.2.2⟩
theorem Out.row (h : Out w0 W v out) : ∀ k, v.ownBlock = some k → w0.heap.size + 2 ≤ k ∧ k < W.heap.size := h.2.1.lt
theorem keepO_refl (W : World) : KeepS (OB R) W W := ⟨rfl, rfl, rfl, Nat.le_refl _, fun _ _ _ => rfl, fun _ h => .inl h⟩
theorem keepO_alloc {A : World} (h : KeepS (OB R) A W) (hv : W.heap[R]? = some (.cells #[v] 35 (0, 0))) (o : Obj) : KeepS (OB R) A (W.alloc o) :=
  ⟨h.os, h.tape, h.output, by have := h.size; simp; omega, fun k hk hQ => (Below.heap_alloc _ _ _ (by have := h.size; omega)).trans (h.block k hk hQ),
   fun k hk => h.own k (by
     rcases OB_of hk ((Below.heap_alloc _ _ _ (blk_lt hv)).trans hv) with h1 | h1
     · exact .inl h1
     · exact .inr ⟨v, hv, h1⟩)⟩
theorem keepO_drewN {A : World} (h : KeepS (OB R) A W) (n : Nat) : KeepS (OB R) A (W.drewN n) := ⟨h.os, h.tape, h.output, h.size, h.block, h.own⟩
theorem keepO_app {A w1 : World} {v1 : Value} (h : KeepS (OB R) A W) (hv : W.heap[R]? = some (.cells #[v] 35 (0, 0))) (hg : W.grownBy w1 v.ownBlock) (hne : v.ownBlock ≠ some R)
    (hat : v1.ownBlock = v.ownBlock ∨ v1.ownBlock = some W.heap.size) : KeepS (OB R) A (w1.setCell ⟨R, 0, none⟩ v1) := by
  have hv1 : w1.heap[R]? = some (.cells #[v] 35 (0, 0)) := (hg.block _ (blk_lt hv) (fun e => hne e.symm)).trans hv
  have hv2 : (w1.setCell ⟨R, 0, none⟩ v1).heap[R]? = some (.cells #[v1] 35 (0, 0)) := by simpa using blk_set hv1 0 v1
  refine ⟨hg.os.trans h.os, hg.tape.trans h.tape, hg.output.trans h.output, by have := h.size; have := hg.size; simp [World.setCell]; omega, fun k hk hQ => ?_, fun k hk => ?_⟩
  · have h1 : k ≠ R := fun e => hQ (.inl e)
    have h2 : some k ≠ v.ownBlock := fun e => by
      rcases h.own k (.inr ⟨v, hv, e.symm⟩) with h3 | h3
      · exact hQ h3
      · omega
    exact (Below.heap_setCell _ _ _ _ h1).trans ((hg.block k (by have := h.size; omega) h2).trans (h.block k hk hQ))
  · rcases OB_of hk hv2 with h1 | h1
    · exact h.own k (.inl h1)
    · rcases hat with h2 | h2
      · exact h.own k (.inr ⟨v, hv, by rw [← h2]; exact h1⟩)
      · rw [h2] at h1
        cases h1
        exact .inr h.size
theorem Out.ne (h : Out w0 W v out) : v.ownBlock ≠ some w0.heap.size := fun e => by have := (h.row _ e).1; omega
theorem app_fact (H : Out w0 W v out) {A : Option Addr} {m : Nat} {xs : List Int} (hC : Kd.C (Kd.int .u8) W A m xs) (h0 : 0 < m) (hl : out.length + m ≤ 140737488355328) (c : Nat) :
    ∃ A1 n1 c1 w1, n1 = out.length + m ∧ ∃ v1, v1 = Value.slice A1 n1 c1 ∧ (Builtin.append_ #[35, 35] 35 #[v, .slice A m c]).run Try.prog W = .ok v1 w1 ∧ w1.heap[w0.heap.size]? = some (.cells #[v] 35 (0, 0)) ∧
      Out w0 (w1.setCell ⟨w0.heap.size, 0, none⟩ v1) v1 (out ++ xs) ∧ ∀ A0, KeepS (OB w0.heap.size) A0 W → KeepS (OB w0.heap.size) A0 (w1.setCell ⟨w0.heap.size, 0, none⟩ v1) := by
  obtain ⟨i0, hi, hzz⟩ := Option.map_eq_some_iff.1 info5
  simp only [Prod.mk.injEq] at hzz
  obtain ⟨hz0, hz1, hz2⟩ := hzz
  have hr := Kd.reads_of_C (enc := Value.int .u8) (d := (0 : Int)) (h1 := fun _ => rfl) hC
  have hm : xs.length = m := hr.1
  obtain ⟨ad, rfl, hc⟩ := hr.2.2 h0
  have hcells : ∀ j u, (encs (Value.int .u8) xs)[j]? = some u → W.cell? (ad.add j) = some u := by
    intro j u hu
    have hj : j < xs.length := by
      rcases Nat.lt_or_ge j xs.length with h | h
      · exact h
      · simp [encs, List.getElem?_eq_none h] at hu
    rw [hc j (by omega)]
    simp [encs, List.getElem?_eq_getElem hj] at hu
    subst hu
    simp [List.getD_eq_getElem?_getD, List.getElem?_eq_getElem hj]
  obtain ⟨v1, w1, hr, h2, h3, _, h5⟩ := run_append_own_at (P := Try.prog) W (w0.heap.size + 2) 35 35 5 i0 (.int .u8 0) 1 1 Try.underlying35 hi hz0 hz1 hz2 rfl (by omega) v out.length (encs (Value.int .u8) out) H.2.1 ad m c (encs (Value.int .u8) xs) (by simp [encs, hm]) hcells
    (by intro u hu; simp only [encs, List.mem_map] at hu; obtain ⟨q, _, rfl⟩ := hu; rfl) (by simp only [maxLen]; omega) (by omega) H.2.2.2
  have hv1 : w1.heap[w0.heap.size]? = some (.cells #[v] 35 (0, 0)) := (h3.block _ (blk_lt H.1) (fun e => H.ne e.symm)).trans H.1
  have hsl : ∃ A1 c1, v1 = .slice A1 (out.length + m) c1 := by
    rcases h2.2 with ⟨e1, e2⟩ | ⟨g, cap, _, e1, _⟩
    · rw [e2]
      exact ⟨_, _, e1⟩
    · exact ⟨_, _, e1⟩
  obtain ⟨A1, c1, hsl⟩ := hsl
  refine ⟨A1, _, c1, w1, rfl, v1, hsl, hr, hv1, ⟨by simpa using blk_set hv1 0 v1, ?_, ?_, ?_⟩, fun A0 hk => keepO_app hk H.1 h3 H.ne h5⟩
  · have h6 : w1.ownsRow (w0.heap.size + 2) 5 1 v1 (out ++ xs).length (encs (Value.int .u8) (out ++ xs)) := by simpa [encs, hm] using h2
    refine h6.kept (row := some w0.heap.size) ⟨rfl, rfl, rfl, by simp [World.setCell], fun k _ hk => Below.heap_setCell _ _ _ _ (fun e => hk (by rw [e]))⟩ ?_
    right
    intro e
    have := (h6.lt _ e).1
    omega
  · have h7 : Below w0.heap.size w0 w1 := H.2.2.1.grown h3 (by have := H.2.2.2; omega) (fun k e => by have := (H.row k e).1; omega)
    exact h7.grown (row := some w0.heap.size) ⟨rfl, rfl, rfl, by simp [World.setCell], fun k _ hk => Below.heap_setCell _ _ _ _ (fun e => hk (by rw [e]))⟩ (by have := H.2.2.2; have := h3.size; omega) (fun k e => by cases e; omega)
  · have := H.2.2.2
    have := h3.size
    simp [World.setCell]
    omega
/-- A new row of bytes. -/
theorem lit_C (W : World) (xs : List Int) (e : TypeId) (fr : Nat × Nat) (hm : xs.length ≤ 9223372036854775807) : Kd.C (Kd.int .u8) (W.alloc (.cells (nums .u8 xs).toArray e fr)) (some ⟨W.heap.size, 0, none⟩) xs.length xs := by
  refine Kd.C_of_reads (d := (0 : Int)) ⟨rfl, hm, fun _ => ⟨_, rfl, fun j hj => ?_⟩⟩
  rw [Addr.add_lit, XStr.marked_cell]
  simp [nums, List.getElem?_eq_getElem hj]
/-- A row of one's own is read. -/
theorem Out.reads (h : Out w0 W v out) : ∃ A c, v = .slice A out.length c ∧ out.length ≤ c ∧ Kd.C (Kd.int .u8) W A out.length out := Kd.R_reads (ok := fun _ => True) (e := 5) (base := w0.heap.size + 2) (Kd.R_of_own (enc := Value.int .u8) (h1 := fun _ => rfl) h.2.1 (fun _ _ => trivial))
def Inv (w0 : World) (n : Nat) (pre : List El) (W : World) : Prop := ∃ v, Out w0 W v (stF (toLs pre)) ∧ (stF (toLs pre)).length ≤ pre.length * (n + 1)
theorem inv_abides (w0 : World) (n : Nat) (pre : List El) : XSeq.Abides w0.heap.size (OB w0.heap.size) (Inv w0 n pre) := by
  rintro A B row ⟨v, h1, h2⟩ hg hr
  have hR : some w0.heap.size ≠ row := fun e => (hr _ e.symm).2 (.inl rfl)
  refine ⟨⟨v, h1.grown hg hR ?_ (fun k e => (hr k e).1), h2⟩, fun k h => ?_⟩
  · cases hv : v.ownBlock with
    | none => exact .inl rfl
    | some g => exact .inr (fun e => (hr g e.symm).2 (.inr ⟨v, h1.1, hv⟩))
  · rcases OB_of h ((hg.block _ (blk_lt h1.1) hR).trans h1.1) with h3 | h3
    · exact .inl h3
    · exact .inr ⟨v, h1.1, h3⟩
theorem inv_cells (w0 : World) (n : Nat) (pre : List El) (W : World) (k : Nat) (h : Inv w0 n pre W) (hk : OB w0.heap.size W k) : ∃ o, W.heap[k]? = some o ∧ o.isCells = true := by
  obtain ⟨v, h1, _⟩ := h
  rcases OB_of hk h1.1 with rfl | h3
  · exact ⟨_, h1.1, rfl⟩
  · rcases h1.2.1.2 with ⟨rfl, _⟩ | ⟨g, cap, cur, rfl, _, hg, _⟩
    · simp [Value.ownBlock] at h3
    · cases h3
      exact ⟨_, hg, rfl⟩
theorem inv_snoc {w0 W : World} {n : Nat} {pre : List El} {x : El} {v : Value} (h : Out w0 W v (dot (stF (toLs pre)) x.2 ++ x.2)) (hl : (stF (toLs pre)).length ≤ pre.length * (n + 1)) (hx : x.2.length ≤ n) : Inv w0 n (pre ++ [x]) W := by
  have e : toLs (pre ++ [x]) = toLs pre ++ [x.2] := by simp [toLs]
  refine ⟨v, by rw [e, stF_snoc]; exact h, ?_⟩
  rw [e, stF_snoc]
  have := dot_len (stF (toLs pre)) x.2
  simp only [List.length_append, List.length_cons, List.length_nil, Nat.add_mul, Nat.zero_add, Nat.one_mul]
  omega
set_option maxHeartbeats 40000000 in
set_option maxRecDepth 100000 in
theorem calls (A0 : Option Addr) (c0 : Nat) (b : List Int) (w : World) (hC : Kd.C (Kd.int .u8) w A0 b.length b) (hc0 : b.length ≤ c0) (hb : b.length ≤ 1000000) :
    Calls Try.prog 30 #[.slice A0 b.length c0] w fun e w' => ∃ v0_, e = .returned v0_ ∧ Kd.R (Kd.int .u8) 5 w' w.heap.size (fun _ => True) v0_ (stF (pieces b) ++ [46, 13, 10]) ∧ Below w.heap.size w w' := by
  have hf35 : Fence.wide.fn 35 := trivial
  have hf29 : Fence.wide.fn 29 := trivial
  have hnn : 1 ≤ 7 := by omega
  refine (callsIn_wide (n := 7)).1 ?_
  refine callsIn_of_wp_marks Try.func30 rfl trivial ?_ rfl
  simp only [Try.ntmps30, List.size_toArray, List.length_cons, List.length_nil, Nat.reduceAdd, Nat.reduceSub, Array.replicate_succ, Array.replicate_zero, List.push_toArray, List.append_toArray, List.nil_append, List.cons_append]
  gi_wp2_with (gi_at_call 35; refine (callsIn_wide.2 (StuffedX.lines_calls _ _ _ _)).mono ?_; rintro e w' ⟨rfl, rfl⟩)
  obtain ⟨W0, hW0⟩ : ∃ W0, (w.alloc (.cells #[.slice none 0 0] 35)).alloc (.cells #[.slice A0 b.length c0] 35) = W0 := ⟨_, rfl⟩
  have hs0 : W0.heap.size = w.heap.size + 2 := by rw [← hW0]; simp
  have r0 : W0.heap[w.heap.size]? = some (.cells #[.slice none 0 0] 35 (0, 0)) := by
    rw [← hW0]; exact blk_alloc (blk_new w _) _
  have r1 : W0.heap[w.heap.size + 1]? = some (.cells #[.slice A0 b.length c0] 35 (0, 0)) := by
    rw [← hW0]; have := blk_new (w.alloc (.cells #[.slice none 0 0] 35)) (.cells #[.slice A0 b.length c0] 35); rwa [World.size_alloc] at this
  have hB0 : Below w.heap.size w W0 := by
    rw [← hW0]; exact ((Below.refl _ w).alloc (Nat.le_refl _) _).alloc (by simp) _
  rw [hW0]
  have hsame : Same w W0 := fun k hk => hB0.block k hk
  have hO0 : ∀ k, OB w.heap.size W0 k → k = w.heap.size := fun k hk => by
    rcases OB_of hk r0 with h | h
    · exact h
    · simp [Value.ownBlock] at h
  have hI0 : Inv w b.length [] W0 := ⟨.slice none 0 0, ⟨r0, World.ownsRow_nil W0 (w.heap.size + 2) 5 1, hB0, by omega⟩, Nat.zero_le _⟩
  clear hW0
  refine wpIn_rangeFunc_S (by omega) (gf := 40) (lb := #[.pointer (some ⟨w.heap.size + 1, 0, none⟩)]) rfl (enters_of Try.func40 (by kernel_rfl) rfl)
    (StuffedY.lines_seq (7 - 1) (by omega) w b A0 c0 (by omega) hc0 (Kd.C_F (Kd.heap_int .u8) hC) w.heap.size (w.heap.size + 1) W0 r1 hsame (by omega) (by omega) (by omega)) (by omega)
    (OB w.heap.size) (by rintro k hk; exact ⟨fun h => by have := hO0 k h; omega, by omega⟩) (fun _ => rfl) (Inv w b.length) (fun _ _ _ => False) (inv_abides w _) (fun _ _ _ _ _ h => h.elim)
    (inv_cells w _) (fun _ _ _ _ h => h.elim) hI0
    (fun x => { tmps := #[.slice A0 b.length c0, undef, .slice none 0 0, .pointer (some ⟨w.heap.size, 0, none⟩), .slice x.1 x.2.length x.2.length, undef, .slice A0 b.length c0, .func (.func 40) #[] #[.pointer (some ⟨w.heap.size + 1, 0, none⟩)], .slice x.1 x.2.length x.2.length, undef, undef, undef, undef, undef, undef, undef, undef, undef, undef, undef, undef, undef, undef, undef, undef, undef, undef, undef, undef, undef, undef, undef, undef], defers := [] }) ?assign ?body ?done ?stop
  case assign =>
    intro l x W K hK
    gi_wp2
    exact hK
  case body =>
    rintro l pre ⟨xA, xs⟩ W hlt ⟨v, HO, hlen1⟩ hlen ⟨hx0, hxb, hxF⟩
    dsimp only at hx0 hxb hxF
    have hxl : 0 < xs.length := List.length_pos_iff.2 hx0
    obtain ⟨out, hout⟩ : ∃ out, out = stF (toLs pre) := ⟨_, rfl⟩
    rw [← hout] at HO hlen1
    have hq : out.length ≤ 1000000 * 1000001 := Nat.le_trans hlen1 (Nat.mul_le_mul (by omega) (by omega))
    have hCx : Kd.C (Kd.int .u8) W xA xs.length xs := hxF W (fun k hk _ => HO.2.2.1.block k hk)
    obtain ⟨ad, rfl, hcell⟩ := Kd.at_int hCx 0 (Int.le_refl _) (by omega)
    have hadd : ad.add (Int.toNat 0) = ad := by cases ad; rfl
    rw [hadd] at hcell
    obtain ⟨vA, vc, rfl, hvc, hCo⟩ := HO.reads
    have c1 := (blk_cell HO.1 0).trans rfl
    have f1 := blk_frozen HO.1 0
    have hxi : ((0 : Int) < (xs.length : Int)) = True := eq_true (by omega)
    have hxn : (0 < xs.length) = True := eq_true hxl
    have kc := fun (w : World) (C : Array Value) (n c : Nat) => Lib.run_convert_bytes_const (P := Try.prog) w 35 5 C n c Try.underlying35 Try.underlying5
    have HOA := Aside0.mk HO
    have HXF := Aside0.mk hxF
    have HIN : ∀ W' v', Out w W' v' (dot out xs ++ xs) → Inv w b.length (pre ++ [(some ad, xs)]) W' := fun W' v' h => inv_snoc (x := (some ad, xs)) (by rw [← hout]; exact h) (by rw [← hout]; exact hlen1) hxb
    have HINA := Aside0.mk HIN
    have KRA := Aside0.mk (keepO_refl (R := w.heap.size) W)
    have HCOA := Aside0.mk hCo
    have HVC := Aside0.mk hvc
    clear HO hxF HIN hCo hvc hout hlen1 hC hsame hO0 hI0 r0 r1 hB0
    have nextC : ∀ W' v' o', Out w W' v' o' → Kd.C (Kd.int .u8) W' (some ad) xs.length xs := fun W' v' o' h => HXF.out W' (fun k hk _ => h.2.2.1.block k hk)
    have NXC := Aside0.mk nextC
    clear nextC
    by_cases h46 : rd xs 0 = 46
    · by_cases hn : out = []
      · subst hn
        have hd : dot [] xs = [] ++ [46] := by unfold dot; rw [if_pos ⟨h46, .inl rfl⟩]
        obtain ⟨A1, n1, p1, w1, hn1, _, rfl, hr1, hv1, HO1, hK1⟩ := app_fact (HOA.out.alloc (.cells #[.int .u8 46] 5)) (lit_C W [46] 5 (0, 0) (by decide)) (by decide) (by simp) 1
        obtain ⟨A2, n2, p2, w2, hn2, _, rfl, hr2, hv2, HO2, hK2⟩ := app_fact HO1 (NXC.out _ _ _ HO1) hxl (by simp; omega) xs.length
        have g1 := (blk_cell hv1 0).trans rfl
        have k1 := blk_frozen hv1 0
        have g2 := (blk_cell HO1.1 0).trans rfl
        have k3 := (blk_cell hv2 0).trans rfl
        have k2 := blk_frozen hv2 0
        clear hn1 hn2
        have FIN := Aside0.mk (And.intro (hK2 _ (hK1 _ (keepO_alloc KRA.out HOA.out.1 _))) (HINA.out _ _ (by rw [hd]; exact HO2)))
        clear hK1 hK2 HO1 HO2 hv1 hv2
        gi_wp2_with (first | (with_reducible refine wpListIn_app (.tmp 25) (.tmp 26) 35 rfl rfl hr1 rfl rfl ?_) | (with_reducible refine wpListIn_app (.tmp 28) (.tmp 29) 35 rfl rfl hr2 rfl rfl ?_))
        exact FIN.out
      · have hnn0 : (out.length = 0) = False := eq_false (fun e => hn (List.eq_nil_of_length_eq_zero e))
        have hnb : ((out.length : Int) == 0) = false := by
          rw [beq_eq_false_iff_ne]
          intro e
          exact hn (List.eq_nil_of_length_eq_zero (by omega))
        obtain ⟨Wl, hWl⟩ : ∃ Wl, Wl = W.alloc (.cells #[.int .u8 13, .int .u8 10] 5 (2, 3)) := ⟨_, rfl⟩
        have HCL := lit_C W [13, 10] 5 (2, 3) (by decide)
        have hcl : Kd.C (Kd.int .u8) Wl (some ⟨W.heap.size, 0, none⟩) ([13, 10] : List Int).length [13, 10] := by rw [hWl]; exact HCL
        have hco : Kd.C (Kd.int .u8) Wl vA out.length out := by rw [hWl]; exact Kd.C_alloc HCOA.out _
        have hol : Out w Wl (.slice vA out.length vc) out := by rw [hWl]; exact HOA.out.alloc _
        have hkl : KeepS (OB w.heap.size) W Wl := by rw [hWl]; exact keepO_alloc KRA.out HOA.out.1 _
        have hsx := bytes_HasSuffix.calls vA vc out (some ⟨W.heap.size, 0, none⟩) 2 [13, 10] (sfx out) Wl hco HVC.out hcl (by decide) (sfx_is out (by omega))
        have HSX := Aside0.mk hsx
        have HOL := Aside0.mk hol
        have HKL := Aside0.mk hkl
        clear hsx hol hkl hcl hco HCL
        have kc2 : (convert 35 35 (.slice (some ⟨W.heap.size, 0, none⟩) 2 2)).run Try.prog (W.alloc (.cells #[.int .u8 13, .int .u8 10] 5)) = .ok (.slice (some ⟨W.heap.size, 0, none⟩) 2 2) Wl := by rw [hWl]; exact kc W _ 2 2
        clear kc hWl
        cases hs : sfx out with
        | false =>
          have hd : dot out xs = out := by unfold dot; rw [if_neg (by rintro ⟨_, h | h⟩; exact hn h; rw [hs] at h; cases h)]
          rw [hs] at HSX
          gi_wp2_with (first | (gi_at_call 29; refine (CallsIn.inRound l (callsIn_wide.2 (HSX.out))).mono ?_; rintro e w' ⟨rfl, nd, rfl⟩; have hOD := HOL.out.drewN nd; have b0 := (blk_cell hOD.1 0).trans rfl; have b1 := blk_frozen hOD.1 0; obtain ⟨A1, n1, p1, w1, hn1, _, rfl, hr, hv1, HO1, hK⟩ := app_fact hOD (NXC.out _ _ _ hOD) hxl (by omega) xs.length; have g1 := (blk_cell hv1 0).trans rfl; have k1 := blk_frozen hv1 0; have FIN := Aside0.mk (And.intro (hK _ (keepO_drewN HKL.out nd)) (HINA.out _ _ (by rw [hd]; exact HO1))); clear hn1 hK HO1 hv1 hOD) | (with_reducible refine wpListIn_app (.tmp 28) (.tmp 29) 35 rfl rfl hr rfl rfl ?_))
          all_goals first | exact FIN.out | (rename_i hA hB; cases hA)
        | true =>
          have hd : dot out xs = out ++ [46] := by unfold dot; rw [if_pos ⟨h46, .inr hs⟩]
          rw [hs] at HSX
          gi_wp2_with (first | (gi_at_call 29; refine (CallsIn.inRound l (callsIn_wide.2 (HSX.out))).mono ?_; rintro e w' ⟨rfl, nd, rfl⟩; obtain ⟨Wm, hWm⟩ : ∃ Wm, Wm = Wl.drewN nd := ⟨_, rfl⟩; have hOD : Out w Wm (.slice vA out.length vc) out := (by rw [hWm]; exact HOL.out.drewN nd); have hKD : KeepS (OB w.heap.size) W Wm := (by rw [hWm]; exact keepO_drewN HKL.out nd); have b0 := (blk_cell hOD.1 0).trans rfl; have b1 := blk_frozen hOD.1 0; obtain ⟨A1, n1, p1, w1, hn1, _, rfl, hr1, hv1, HO1, hK1⟩ := app_fact (hOD.alloc (.cells #[.int .u8 46] 5)) (lit_C Wm [46] 5 (0, 0) (by decide)) (by decide) (by simp; omega) 1; obtain ⟨A2, n2, p2, w2, hn2, _, rfl, hr2, hv2, HO2, hK2⟩ := app_fact HO1 (NXC.out _ _ _ HO1) hxl (by simp; omega) xs.length; have g0 := (blk_cell (hOD.alloc (.cells #[.int .u8 46] 5)).1 0).trans rfl; have g1 := (blk_cell hv1 0).trans rfl; have k1 := blk_frozen hv1 0; have g2 := (blk_cell HO1.1 0).trans rfl; have k3 := (blk_cell hv2 0).trans rfl; have k2 := blk_frozen hv2 0; have FIN := Aside0.mk (And.intro (hK2 _ (hK1 _ (keepO_alloc hKD hOD.1 _))) (HINA.out _ _ (by rw [hd]; exact HO2))); clear hn1 hn2 hK1 hK2 HO1 HO2 hv1 hv2 hOD hKD; rw [← hWm]; clear hWm) | (with_reducible refine wpListIn_app (.tmp 25) (.tmp 26) 35 rfl rfl hr1 rfl rfl ?_) | (with_reducible refine wpListIn_app (.tmp 28) (.tmp 29) 35 rfl rfl hr2 rfl rfl ?_))
          all_goals first | exact FIN.out | (rename_i hA hB; cases hA)
    · have hd : dot out xs = out := by unfold dot; rw [if_neg (fun h => h46 h.1)]
      have h46b : (rd xs 0 == 46) = false := by simpa using h46
      obtain ⟨A1, n1, p1, w1, hn1, _, rfl, hr, hv1, HO1, hK⟩ := app_fact HOA.out hCx hxl (by omega) xs.length
      have g1 := (blk_cell hv1 0).trans rfl
      have k1 := blk_frozen hv1 0
      clear hn1
      have FIN := Aside0.mk (And.intro (hK _ KRA.out) (HINA.out _ _ (by rw [hd]; exact HO1)))
      clear hK HO1 hv1
      gi_wp2_with (with_reducible refine wpListIn_app (.tmp 28) (.tmp 29) 35 rfl rfl hr rfl rfl ?_)
      all_goals first | exact FIN.out | (rename_i hA hB; cases hA)
  case done =>
    rintro xs W hlt hS ⟨v, HO, hlen1⟩ hK
    rw [show toLs xs = pieces b from hS] at HO hlen1
    obtain ⟨out, hout⟩ : ∃ out, out = stF (pieces b) := ⟨_, rfl⟩
    rw [← hout] at HO hlen1
    have hxs : xs.length ≤ b.length := by
      have h1 := pieces_len b
      have h2 := congrArg List.length (show toLs xs = pieces b from hS)
      simp only [toLs, List.length_map] at h2
      omega
    have hq : out.length ≤ 1000000 * 1000001 := Nat.le_trans hlen1 (Nat.mul_le_mul (by omega) (by omega))
    have hc0 := (blk_cell HO.1 0).trans rfl
    have hf0 := blk_frozen HO.1 0
    obtain ⟨i0, hi, hzz⟩ := Option.map_eq_some_iff.1 info5
    simp only [Prod.mk.injEq] at hzz
    obtain ⟨hz0, hz1, hz2⟩ := hzz
    have h63 : out.length + (⟨#[46, 13, 10]⟩ : ByteArray).size ≤ maxLen := by
      have : (⟨#[46, 13, 10]⟩ : ByteArray).size = 3 := rfl
      simp only [maxLen]
      omega
    have h47 : out.length + (⟨#[46, 13, 10]⟩ : ByteArray).size ≤ 140737488355328 := by
      have : (⟨#[46, 13, 10]⟩ : ByteArray).size = 3 := rfl
      omega
    obtain ⟨v', w', hr, ho, hg, hn⟩ := Lib.run_append_own_string (P := Try.prog) W (w.heap.size + 2) 35 9 35 5 i0 Try.underlying35 Try.underlying9 hi hz0 hz1 hz2 v out.length (encs (Value.int .u8) out) HO.2.1 ⟨#[46, 13, 10]⟩ h63 h47 HO.2.2.2
    have hB' : Below w.heap.size w w' := HO.2.2.1.grown hg (by have := HO.2.2.2; omega) (fun k e => by have := (HO.row k e).1; omega)
    have hD : w'.heap[W0.heap.size]? = some (.deferred (some [])) := (hg.block _ (by omega) (fun e => by
      rcases HO.2.1.2 with ⟨rfl, _⟩ | ⟨g, cap, cur, rfl, _, hgb, _⟩
      · cases e
      · rw [← (show W0.heap.size = g from Option.some.inj e), hK] at hgb
        cases hgb)).trans hK
    have hown : w'.ownsRow (w.heap.size + 2) 5 1 v' (out ++ [46, 13, 10]).length (encs (Value.int .u8) (out ++ [46, 13, 10])) := by
      have e3 : Lib.strCells ⟨#[46, 13, 10]⟩ = encs (Value.int .u8) [46, 13, 10] := by simp [Lib.strCells, encs]
      have e2 : (⟨#[46, 13, 10]⟩ : ByteArray).size = 3 := rfl
      rw [e3, e2] at ho
      simpa [encs] using ho
    have hvb : v'.ownBlock ≠ some W0.heap.size := fun e => by
      rcases hown.2 with ⟨rfl, _⟩ | ⟨g, cap, cur, rfl, _, hgb, _⟩
      · cases e
      · rw [(show g = W0.heap.size from Option.some.inj e), hD] at hgb
        cases hgb
    have hown0 : w'.ownsRow w.heap.size 5 1 v' (out ++ [46, 13, 10]).length (encs (Value.int .u8) (out ++ [46, 13, 10])) := by
      refine ⟨hown.1, ?_⟩
      rcases hown.2 with h | ⟨g, cap, cur, e1, e2, e3⟩
      · exact .inl h
      · exact .inr ⟨g, cap, cur, e1, by omega, e3⟩
    rw [hout] at hown0
    rw [hs0] at hD hvb
    have HOA := Aside0.mk hown0
    have HBA := Aside0.mk hB'
    have HDA := Aside0.mk hD
    have HVB := Aside0.mk hvb
    have HSZ := Aside0.mk (show w.heap.size + 2 ≤ w'.heap.size by have := hg.size; have := HO.2.2.2; omega)
    have HLT := Aside0.mk hs0
    clear ho hg hn hi hz0 hz1 hz2 hown hown0 hB' hD hvb HO hC hsame hO0 hI0 r0 r1 hB0 hS hlen1 hxs h63 h47 hK hout
    gi_wp2_with (with_reducible refine wpListIn_app2 (.tmp 31) (.const (.string ⟨#[46, 13, 10]⟩)) 35 9 rfl rfl hr rfl rfl ?_)
    refine ⟨by simp, .inl ⟨_, _, rfl, run_takeDeferred HDA.out, ?_⟩⟩
    refine ⟨_, by simp [results, Try.f30, go_sem]; rfl, ⟨_, rfl, ?_, ?_⟩⟩
    · refine Kd.R_of_own (h1 := fun _ => rfl) ?_ (fun _ _ => trivial)
      exact World.ownsRow.kept HOA.out (grownBy_putObj' _ (w.heap.size + 2) (.deferred none)) (.inr HVB.out)
    · exact HBA.out.grown (grownBy_putObj' _ (w.heap.size + 2) (.deferred none)) (by have := HSZ.out; omega) (fun k e => by cases e; omega)
  case stop =>
    rintro c pre W hlt hSp h hK
    exact h.elim
end StuffedZ
/-- The data as they are sent, with their end. -/
def lines_Stuffed.f (l0 : List Int) : Option (List Int) := if l0.length ≤ 1000000 then some (StuffedZ.stF (StuffedY.pieces l0) ++ [46, 13, 10]) else none
theorem lines_Stuffed.calls (A0 : Option Addr) (c0 : Nat) (l0 : List Int) (r : List Int) (w : World) (hr0 : Kd.C (Kd.int .u8) w A0 l0.length l0) (hc0 : l0.length ≤ c0) (h : lines_Stuffed.f l0 = some r) :
    Calls Try.prog 30 #[.slice A0 l0.length c0] w fun e w' => ∃ v0_, e = .returned v0_ ∧ Kd.R (Kd.int .u8) 5 w' w.heap.size (fun _ => True) v0_ r ∧ Below w.heap.size w w' := by
  unfold lines_Stuffed.f at h
  by_cases h1 : l0.length ≤ 1000000
  · rw [if_pos h1] at h
    obtain rfl := Option.some.inj h
    exact StuffedZ.calls A0 c0 l0 w hr0 hc0 h1
  · rw [if_neg h1] at h
    cases h

end Go.Proofs.Ytmicgojonpdelaa.XLid
