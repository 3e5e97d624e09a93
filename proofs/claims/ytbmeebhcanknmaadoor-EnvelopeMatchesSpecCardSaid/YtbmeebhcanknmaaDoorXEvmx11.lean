-- Laid by a program of this session's (xprint.py) over the print's text; contracts proved by hand stand among them. Lean checks it.
import Derived.OwnWalkIn
import Derived.Lib.Strings
import Derived.Test.YtbmeebhcanknmaaDoorXEvmx0
import Derived.Test.YtbmeebhcanknmaaDoorXEvmx5
import Derived.Test.YtbmeebhcanknmaaDoorXEvmx6
import Derived.Test.YtbmeebhcanknmaaDoorXEvmx10
import Derived.Test.YtbmeebhcanknmaaDoorXEvmx19
namespace Go.Proofs.YtbmeebhcanknmaaDoor.XEvm
open Go.RowKit Go.Proofs.YtbmeebhcanknmaaDoorW.PrintWords Go.Proofs.YtbmeebhcanknmaaDoorW.PrintLast Go.Proofs.YtbmeebhcanknmaaDoorW.PrintMore
attribute [local go_sem] max2_int min2_int max_two min_two max_three min_three max_four min_four   -- for this text's walks alone
set_option linter.unusedVariables false
set_option linter.unusedSimpArgs false

-- EXTPART
-- IMPORT Derived.OwnWalkIn
-- IMPORT Derived.Lib.Strings
/-! ### envelope_IsDomain: function 81 (by hand) -/
namespace IsDomainX
open Go.Proofs.YtbmeebhcanknmaaDoor.XSeq SplitSeq
attribute [local go_sem] Oper.semAt_some
/-- A character of a label. -/
def okC (c : Int) : Bool := decide (97 ≤ c ∧ c ≤ 122) || (decide (48 ≤ c ∧ c ≤ 57) || decide (c = 45))
def okL (l : List UInt8) : Bool := !l.isEmpty && l.all fun c => okC (c.toNat : Int)
def okD (l : List UInt8) : Bool := (split1 46 l).all okL
theorem cls (c : Int) :
  (envelope_letter.f c = some true ∧ decide (c < 97) = false ∧ okC c = true) ∨
  (envelope_letter.f c = some false ∧ envelope_digit.f c = some true ∧ okC c = true) ∨
  (envelope_letter.f c = some false ∧ envelope_digit.f c = some false ∧ (c != 45) = false ∧ okC c = true) ∨
  (envelope_letter.f c = some true ∧ decide (c < 97) = true ∧ envelope_digit.f c = some false ∧ (c != 45) = true ∧ okC c = false) ∨
  (envelope_letter.f c = some false ∧ envelope_digit.f c = some false ∧ (c != 45) = true ∧ okC c = false) := by
 unfold envelope_letter.f envelope_digit.f okC
 by_cases h1 : 97 ≤ c
 ·
  by_cases h2 : c ≤ 122
  ·
   refine .inl ⟨by simp [h1, h2], by simp; omega, by simp [h1, h2]⟩
  ·
   refine .inr (.inr (.inr (.inr ⟨?_, ?_, by simp; omega, by simp; omega⟩)))
   ·
    rw [if_pos (by omega), if_neg h2, if_pos (by omega)]; simp; omega
   ·
    rw [if_pos (by omega)]; simp; omega
 ·
  rw [if_neg (by omega)]
  by_cases h3 : 65 ≤ c
  ·
   rw [if_pos (by omega)]
   by_cases h4 : c ≤ 90
   ·
    refine .inr (.inr (.inr (.inl ⟨by simp [h4], by simp; omega, ?_, by simp; omega, by simp; omega⟩)))
    rw [if_pos (by omega)]; simp; omega
   ·
    refine .inr (.inr (.inr (.inr ⟨by simp [h4], ?_, by simp; omega, by simp; omega⟩)))
    rw [if_pos (by omega)]; simp; omega
  ·
   rw [if_neg (by omega)]
   by_cases h5 : 48 ≤ c
   ·
    rw [if_pos (by omega)]
    by_cases h6 : c ≤ 57
    ·
     exact .inr (.inl ⟨rfl, by simp [h6], by simp; omega⟩)
    ·
     exact .inr (.inr (.inr (.inr ⟨rfl, by simp [h6], by simp; omega, by simp; omega⟩)))
   ·
    rw [if_neg (by omega)]
    by_cases h7 : c = 45
    ·
     exact .inr (.inr (.inl ⟨rfl, rfl, by simp [h7], by simp [h7]⟩))
    ·
     exact .inr (.inr (.inr (.inr ⟨rfl, rfl, by simp [h7], by simp; omega⟩)))
theorem okL_bad {x : ByteArray} {k : Nat} (hk : k < x.size) (h : okC (x[k].toNat : Int) = false) : okL x.data.toList = false := by
 unfold okL
 rw [Bool.and_eq_false_iff]
 refine .inr ?_
 rw [List.all_eq_false]
 exact ⟨x[k], List.mem_of_getElem? (by rw [List.getElem?_eq_getElem (by rw [data_length]; exact hk)]; rfl), by simp [h]⟩
def okTo (x : ByteArray) (k : Nat) : Prop := ∀ j (h : j < x.size), j < k → okC (x[j].toNat : Int) = true
theorem okTo_step {x : ByteArray} {k : Nat} (h : Aside0 (okTo x k)) (hk : k < x.size) (hc : Aside0 (okC (x[k].toNat : Int) = true)) : Aside0 (okTo x (k + 1)) :=
 ⟨fun j hj hjk => by
  by_cases e : j = k
  ·
   subst e; exact hc.out
  ·
   exact h.out j hj (by omega)⟩
theorem okL_good {x : ByteArray} (h0 : x.size ≠ 0) (h : okTo x x.size) : okL x.data.toList = true := by
 unfold okL
 rw [Bool.and_eq_true]
 refine ⟨?_, ?_⟩
 ·
  have : x.data.toList ≠ [] := fun e => h0 (by rw [← data_length, e]; rfl)
  simpa using this
 ·
  rw [List.all_eq_true]
  intro c hc
  obtain ⟨j, hj, rfl⟩ := List.getElem_of_mem hc
  rw [data_length] at hj
  exact h j hj hj
/-- What the body's block holds while it goes on. -/
def Inv (w : World) (R : Nat) (pre : List ByteArray) (W : World) : Prop :=
 W.heap[R]? = some (.cells #[.bool false] 4 (0, 0)) ∧ (toLs pre).all okL = true ∧ Below w.heap.size w W
def InvX (w : World) (R : Nat) (c : Code) (pre : List ByteArray) (W : World) : Prop :=
 c = .ret ∧ W.heap[R]? = some (.cells #[.bool false] 4 (0, 0)) ∧ (toLs pre).all okL = false ∧ Below w.heap.size w W
theorem inv_abides (w : World) (R : Nat) (pre : List ByteArray) : XSeq.Abides w.heap.size (fun _ k => k = R) (Inv w R pre) := by
 rintro A B row ⟨h1, h2, h3⟩ hg hr
 refine ⟨⟨(hg.block R (blk_lt h1) (fun e => (hr R e.symm).2 rfl)).trans h1, h2, h3.grown hg h3.size (fun k e => (hr k e).1)⟩, fun k h => h⟩
theorem invX_abides (w : World) (R : Nat) (c : Code) (pre : List ByteArray) : XSeq.Abides w.heap.size (fun _ k => k = R) (InvX w R c pre) := by
 rintro A B row ⟨h0, h1, h2, h3⟩ hg hr
 refine ⟨⟨h0, (hg.block R (blk_lt h1) (fun e => (hr R e.symm).2 rfl)).trans h1, h2, h3.grown hg h3.size (fun k e => (hr k e).1)⟩, fun k h => h⟩
theorem toLs_bad {pre : List ByteArray} {x : ByteArray} (h : okL x.data.toList = false) : (toLs (pre ++ [x])).all okL = false := by
 simp [toLs, h]
theorem toLs_good {pre : List ByteArray} {x : ByteArray} (h0 : (toLs pre).all okL = true) (h : okL x.data.toList = true) : (toLs (pre ++ [x])).all okL = true := by
 unfold toLs at *
 rw [List.map_append, List.all_append, h0]
 simp [h]
theorem ret_bad {w W Wd : World} {pre : List ByteArray} (a : Act) (hk : KeepS (fun _ k => k = w.heap.size) W Wd) (b0 : Wd.heap[w.heap.size]? = some (.cells #[.bool false] 4 (0, 0))) (hB : Below w.heap.size w Wd) (hx : (toLs pre).all okL = false) :
  postS (fun _ k => k = w.heap.size) (Inv w w.heap.size) (InvX w w.heap.size) pre W Exit.ret a (Wd.setCell ⟨w.heap.size, 0, none⟩ (.bool false)) :=
 ⟨keepC_set hk (.inl rfl) _, rfl, by have := blk_set b0 0 (.bool false); simpa using this, hx, hB.setCell (p := ⟨w.heap.size, 0, none⟩) (Nat.le_refl _) _⟩
set_option maxHeartbeats 2000000 in
set_option maxRecDepth 100000 in
theorem long (a0 : ByteArray) (w : World) (h : (60 : Int) < a0.size) :
  Calls Tryd.prog 81 #[.string a0] w fun e w' => e = .returned (.bool false) ∧ Below w.heap.size w w' := by
 go_enter Tryd.func81, Tryd.ntmps81
 go_wp2
 refine bodyPost_ret (v := .bool false) (by simp [results, Tryd.results81, go_sem]) rfl ⟨rfl, (Below.refl _ _).alloc (Nat.le_refl _) _⟩
set_option maxHeartbeats 2000000 in
set_option maxRecDepth 100000 in
theorem short (a0 : ByteArray) (w : World) (h : a0.size ≤ 60) :
  Calls Tryd.prog 81 #[.string a0] w fun e w' => e = .returned (.bool (okD a0.data.toList)) ∧ Below w.heap.size w w' := by
 have ht : decide ((60 : Int) < a0.size) = false := by simp; omega
 have hf108 : Fence.wide.fn 108 := trivial
 have hnn : 1 ≤ 7 := by omega
 refine (callsIn_wide (n := 7)).1 ?_
 refine callsIn_of_wp_marks Tryd.func81 rfl trivial ?_ rfl
 simp only [Tryd.ntmps81, List.size_toArray, List.length_cons, List.length_nil, Nat.reduceAdd, Nat.reduceSub, Array.replicate_succ, Array.replicate_zero, List.push_toArray, List.append_toArray, List.nil_append, List.cons_append]
 gi_wp2_with (gi_at_call 108; refine (callsIn_wide.2 (SplitSeq.splitSeq_calls _ _ _)).mono ?_; rintro e w' ⟨rfl, rfl⟩)
 obtain ⟨W0, hW0⟩ : ∃ W0, (((w.alloc (.cells #[.bool false] 4)).alloc (.cells #[.string a0] 9)).alloc (.cells #[.string ⟨#[46]⟩] 9)).alloc (.cells #[.int .i64 0] 3) = W0 := ⟨_, rfl⟩
 have hs0 : W0.heap.size = w.heap.size + 4 := by rw [← hW0]; simp
 have r0 : W0.heap[w.heap.size]? = some (.cells #[.bool false] 4 (0, 0)) := by
  rw [← hW0]; exact blk_alloc (blk_alloc (blk_alloc (blk_new w _) _) _) _
 have r1 : W0.heap[w.heap.size + 1]? = some (.cells #[.string a0] 9 (0, 0)) := by
  rw [← hW0]; have := blk_alloc (blk_alloc (blk_new (w.alloc (.cells #[.bool false] 4)) (.cells #[.string a0] 9)) (.cells #[.string ⟨#[46]⟩] 9)) (.cells #[.int .i64 0] 3); rwa [World.size_alloc] at this
 have r2 : W0.heap[w.heap.size + 1 + 1]? = some (.cells #[.string ⟨#[46]⟩] 9 (0, 0)) := by
  rw [← hW0]; have := blk_alloc (blk_new ((w.alloc (.cells #[.bool false] 4)).alloc (.cells #[.string a0] 9)) (.cells #[.string ⟨#[46]⟩] 9)) (.cells #[.int .i64 0] 3); rwa [World.size_alloc, World.size_alloc] at this
 have r3 : W0.heap[w.heap.size + 1 + 2]? = some (.cells #[.int .i64 0] 3 (0, 0)) := by
  rw [← hW0]; have := blk_new (((w.alloc (.cells #[.bool false] 4)).alloc (.cells #[.string a0] 9)).alloc (.cells #[.string ⟨#[46]⟩] 9)) (.cells #[.int .i64 0] 3); rwa [World.size_alloc, World.size_alloc, World.size_alloc] at this
 have hB0 : Below w.heap.size w W0 := by
  rw [← hW0]; exact ((((Below.refl _ w).alloc (Nat.le_refl _) _).alloc (by simp) _).alloc (by simp; omega) _).alloc (by simp; omega) _
 rw [hW0]
 refine wpIn_rangeFunc_S (by omega) (gf := 141) (lb := #[.pointer (some ⟨w.heap.size + 1 + 1, 0, none⟩), .pointer (some ⟨w.heap.size + 1, 0, none⟩), .pointer (some ⟨w.heap.size + 1 + 2, 0, none⟩)]) rfl (enters_of Tryd.func141 (by kernel_rfl) rfl)
  (SplitSeq.splitSeq_seq (7 - 1) (by omega) a0 46 (by omega) w.heap.size (w.heap.size + 1) (w.heap.size + 1 + 1) (w.heap.size + 1 + 2) W0 r1 r2 r3 (by omega) (by omega)) (by omega)
  (fun _ k => k = w.heap.size) (by rintro k (rfl | rfl | rfl) <;> omega) (fun _ => rfl) (Inv w w.heap.size) (InvX w w.heap.size) (inv_abides w _) (invX_abides w _)
  (by rintro pre W k ⟨h1, _, _⟩ rfl; exact ⟨_, h1, rfl⟩) (by rintro c pre W k ⟨_, h1, _, _⟩ rfl; exact ⟨_, h1, rfl⟩) ⟨r0, by simp [toLs], hB0⟩
  (fun x => { tmps := #[.string a0, undef, .pointer (some ⟨w.heap.size, 0, none⟩), .string x, undef, undef, .string a0, .int .i64 a0.size, .bool false, .string a0, .func (.func 141) #[] #[.pointer (some ⟨w.heap.size + 1 + 1, 0, none⟩), .pointer (some ⟨w.heap.size + 1, 0, none⟩), .pointer (some ⟨w.heap.size + 1 + 2, 0, none⟩)], .string x, undef, undef, undef, undef, undef, undef, undef, undef, undef, undef, undef, undef, undef, undef, undef, undef, undef, undef, undef, undef, undef, undef, undef, undef, undef, undef, undef], defers := [] }) ?assign ?body ?done ?stop
 case assign =>
  intro l x W K hK
  gi_wp2
  exact hK
 case body =>
  rintro l pre x W hlt ⟨b0, hall, hB⟩ hlen hX
  have hlenx : x.size ≤ 9223372036854775807 := by omega
  gi_wp2
  have hlx : Aside0 (x.size ≤ 9223372036854775807) := ⟨hlenx⟩
  gi_loopw [14] (fun p wr => ∃ k nd : Nat, p = .int .i64 k ∧ k ≤ x.size ∧ wr = W.drewN nd ∧ Aside0 (okTo x k)) (fun p _ => x.size - (intOf p).toNat)
  case atStart => exact ⟨0, 0, rfl, Nat.zero_le _, rfl, ⟨fun j _ h => by omega⟩⟩
  case round =>
   obtain ⟨k, nd, rfl, hk, rfl, HT⟩ := hrel
   have hf106 : Fence.wide.fn 106 := trivial
   have hf107 : Fence.wide.fn 107 := trivial
   have hn5 : 1 ≤ 7 - 1 - 1 := by omega
   have KB := Aside0.mk (keepC_drewN (keepC_refl (fun k => k = w.heap.size) W) nd)
   have B0 := Aside0.mk b0
   have HALL := Aside0.mk hall
   have hf0 := blk_frozen b0 0
   have hc0 := (blk_cell b0 0).trans rfl
   have hxs : x.size ≤ 9223372036854775807 := hlx.out
   by_cases hkx : k < x.size
   ·
    have hkx' : (k : Int) < x.size := by omega
    have hk63 : (k : Int) + 1 ≤ 9223372036854775807 := by omega
    rcases cls (x[k].toNat : Int) with ⟨q1, q2, q3⟩ | ⟨q1, q2, q3⟩ | ⟨q1, q2, q3, q4⟩ | ⟨q1, q2, q3, q4, q5⟩ | ⟨q1, q2, q3, q4⟩
    ·
     have HQ := Aside0.mk q3
     clear q3 b0 hall
     gi_wp2_with (gi_at_call 106; refine (CallsIn.inRound l (callsIn_wide.2 (envelope_letter.calls _ true _ q1))).mono ?_; rintro e w' ⟨rfl, nd2, rfl⟩)
     exact ⟨⟨k + 1, _, by go_num, hkx, rfl, okTo_step HT hkx HQ⟩, by simp [intOf]; omega⟩
    ·
     have HQ := Aside0.mk q3
     clear q3 b0 hall
     gi_wp2_with (first | (gi_at_call 106; refine (CallsIn.inRound l (callsIn_wide.2 (envelope_letter.calls _ false _ q1))).mono ?_; rintro e w' ⟨rfl, nd2, rfl⟩) | (gi_at_call 107; refine (CallsIn.inRound l (callsIn_wide.2 (envelope_digit.calls _ true _ q2))).mono ?_; rintro e w' ⟨rfl, nd3, rfl⟩))
     exact ⟨⟨k + 1, _, by go_num, hkx, rfl, okTo_step HT hkx HQ⟩, by simp [intOf]; omega⟩
    ·
     have HQ := Aside0.mk q4
     clear q4 b0 hall
     gi_wp2_with (first | (gi_at_call 106; refine (CallsIn.inRound l (callsIn_wide.2 (envelope_letter.calls _ false _ q1))).mono ?_; rintro e w' ⟨rfl, nd2, rfl⟩) | (gi_at_call 107; refine (CallsIn.inRound l (callsIn_wide.2 (envelope_digit.calls _ false _ q2))).mono ?_; rintro e w' ⟨rfl, nd3, rfl⟩))
     exact ⟨⟨k + 1, _, by go_num, hkx, rfl, okTo_step HT hkx HQ⟩, by simp [intOf]; omega⟩
    ·
     have HQ := Aside0.mk q5
     clear q5 b0 hall
     gi_wp2_with (first | (gi_at_call 106; refine (CallsIn.inRound l (callsIn_wide.2 (envelope_letter.calls _ true _ q1))).mono ?_; rintro e w' ⟨rfl, nd2, rfl⟩) | (gi_at_call 107; refine (CallsIn.inRound l (callsIn_wide.2 (envelope_digit.calls _ false _ q3))).mono ?_; rintro e w' ⟨rfl, nd3, rfl⟩))
     exact ret_bad _ (keepC_drewN (keepC_refl _ W) _) B0.out (pw_below_drewN hB _) (toLs_bad (okL_bad hkx HQ.out))
    ·
     have HQ := Aside0.mk q4
     clear q4 b0 hall
     gi_wp2_with (first | (gi_at_call 106; refine (CallsIn.inRound l (callsIn_wide.2 (envelope_letter.calls _ false _ q1))).mono ?_; rintro e w' ⟨rfl, nd2, rfl⟩) | (gi_at_call 107; refine (CallsIn.inRound l (callsIn_wide.2 (envelope_digit.calls _ false _ q2))).mono ?_; rintro e w' ⟨rfl, nd3, rfl⟩))
     exact ret_bad _ (keepC_drewN (keepC_refl _ W) _) B0.out (pw_below_drewN hB _) (toLs_bad (okL_bad hkx HQ.out))
   ·
    have hke : k = x.size := by omega
    have hkf : ((k : Int) < x.size) = False := by simp; omega
    have HKE := Aside0.mk hke
    clear hke b0 hall
    by_cases hx0 : x.size = 0
    ·
     have e0 : x.data.toList = [] := List.eq_nil_of_length_eq_zero (by rw [data_length]; exact hx0)
     have e1 : x.toList = [] := by rw [Lib.toList_data]; exact e0
     have e2 : x.toList.isEmpty = true := by rw [e1]; rfl
     have E0 := Aside0.mk e0
     clear e0 hx0
     gi_wp2
     exact ret_bad _ (keepC_drewN (keepC_refl _ W) _) B0.out (pw_below_drewN hB _) (toLs_bad (by rw [E0.out]; rfl))
    ·
     have e1 : (x.toList = []) = False := by
      rw [Lib.toList_data]; exact eq_false (fun e => hx0 (by rw [← data_length, e]; rfl))
     have e2 : x.toList.isEmpty = false := by
      cases h : x.toList.isEmpty
      ·
       rfl
      ·
       exact (e1.mp (List.isEmpty_iff.1 h)).elim
     have hg := Aside0.mk (okL_good hx0 (by have := HT.out; rwa [HKE.out] at this))
     clear hx0
     gi_wp2
     exact ⟨KB.out, B0.out, toLs_good HALL.out hg.out, pw_below_drewN hB _⟩
 case done =>
  rintro xs W hlt hS ⟨b0, hall, hB⟩ hK
  have hc0 := (blk_cell b0 0).trans rfl
  have hf0 := blk_frozen b0 0
  have hfin : okD a0.data.toList = true := by unfold okD; rw [← hS]; exact hall
  have HFIN := Aside0.mk hfin
  clear hfin
  gi_wp2
  have hne : W0.heap.size ≠ w.heap.size := by omega
  refine ⟨by simp, .inl ⟨_, _, rfl, run_takeDeferred ((Below.heap_setCell _ _ _ _ hne).trans hK), ?_⟩⟩
  have hc5 : ((W.setCell ⟨w.heap.size, 0, none⟩ (.bool true)).putObj W0.heap.size (.deferred none)).cell? ⟨w.heap.size, 0, none⟩ = some (.bool true) := by
   refine (World.cell?_of_block (World.putObj_heap_other (Ne.symm hne))).trans ?_
   exact World.cell?_setCell_same' _ _ _ (by rw [hc0]; rfl)
  refine ⟨.bool true, ?_, by rw [HFIN.out], ?_⟩
  ·
   simp [results, Tryd.f81, go_sem, hc5]
  ·
   exact (hB.setCell (p := ⟨w.heap.size, 0, none⟩) (Nat.le_refl _) _).grown (grownBy_putObj' _ W0.heap.size (.deferred none)) (by simp [World.setCell]; omega) (fun k e => by cases e; omega)
 case stop =>
  rintro c pre W hlt hSp ⟨rfl, b0, hall, hB⟩ hK
  have hc0 := (blk_cell b0 0).trans rfl
  have hfin : okD a0.data.toList = false := by
   unfold okD
   rw [List.all_eq_false] at hall ⊢
   obtain ⟨y, hy, h⟩ := hall
   exact ⟨y, hSp.subset hy, h⟩
  have HFIN := Aside0.mk hfin
  clear hfin
  gi_wp2
  have hne : W0.heap.size ≠ w.heap.size := by omega
  refine ⟨by simp, .inl ⟨_, _, rfl, run_takeDeferred hK, ?_⟩⟩
  have hc5 : (W.putObj W0.heap.size (.deferred none)).cell? ⟨w.heap.size, 0, none⟩ = some (.bool false) := (World.cell?_of_block (World.putObj_heap_other (Ne.symm hne))).trans hc0
  refine ⟨.bool false, ?_, by rw [HFIN.out], ?_⟩
  ·
   simp [results, Tryd.f81, go_sem, hc5]
  ·
   exact hB.grown (grownBy_putObj' _ W0.heap.size (.deferred none)) (by omega) (fun k e => by cases e; omega)
end IsDomainX
def envelope_IsDomain.f (a0 : ByteArray) : Option Bool := some (if (60 : Int) < a0.size then false else IsDomainX.okD a0.data.toList)
theorem envelope_IsDomain.calls (a0 : ByteArray) (r : Bool) (w : World) (h : envelope_IsDomain.f a0 = some r) :
  Calls Tryd.prog 81 #[.string a0] w fun e w' => e = .returned (.bool r) ∧ Below w.heap.size w w' := by
 obtain rfl := Option.some.inj h
 by_cases hl : (60 : Int) < a0.size
 ·
  rw [if_pos hl]; exact IsDomainX.long a0 w hl
 ·
  rw [if_neg hl]; exact IsDomainX.short a0 w (by omega)

end Go.Proofs.YtbmeebhcanknmaaDoor.XEvm
