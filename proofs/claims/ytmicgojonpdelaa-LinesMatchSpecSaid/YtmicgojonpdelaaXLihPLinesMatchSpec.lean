/- The division of streams into lines is as specified: for every stream within reach the law's own function answers true. -/
import Derived.Test.YtmicgojonpdelaaXLihSLinesMatchSpec
import Derived.Test.YtmicgojonpdelaaVLiha
namespace Go.Proofs.Ytmicgojonpdelaa.XLih.PLinesMatchSpec
open Go Go.RowKit Go.Proofs.YtmicgojonpdelaaW.PrintWords Go.Proofs.Ytmicgojonpdelaa.XLih
set_option linter.unusedVariables false
set_option linter.unusedSimpArgs false
/-- From some number of rounds on. -/
def Ev {β : Type} (f : Nat → Option β) (v : β) : Prop := ∃ K, ∀ k, K ≤ k → f k = some v
theorem Ev.const {β : Type} {f : Nat → Option β} {v : β} (h : ∀ k, f k = some v) : Ev f v := ⟨0, fun k _ => h k⟩
theorem Ev.some_ {β : Type} (v : β) : Ev (fun _ => some v) v := .const fun _ => rfl
theorem Ev.bind {α β : Type} {f : Nat → Option α} {g : Nat → α → Option β} {a : α} {v : β} (h : Ev f a) (h2 : Ev (fun k => g k a) v) : Ev (fun k => (f k).bind (g k)) v := by
  obtain ⟨K, hK⟩ := h
  obtain ⟨M, hM⟩ := h2
  refine ⟨max K M, fun k hk => ?_⟩
  show (f k).bind (g k) = some v
  rw [hK k (by omega)]
  exact hM k (by omega)
theorem Ev.succ {β : Type} {f : Nat → Option β} {v : β} (h : Ev (fun k => f (k + 1)) v) : Ev f v := by
  obtain ⟨K, hK⟩ := h
  refine ⟨K + 1, fun k hk => ?_⟩
  obtain ⟨k, rfl⟩ : ∃ j, k = j + 1 := ⟨k - 1, by omega⟩
  exact hK k (by omega)
theorem Ev.congr {β : Type} {f g : Nat → Option β} {v : β} (h : Ev f v) (e : ∀ k, g k = f k) : Ev g v := by
  obtain ⟨K, hK⟩ := h
  exact ⟨K, fun k hk => (e k).trans (hK k hk)⟩
theorem Ev.val {β : Type} {f : Nat → Option β} {v v' : β} (h : Ev f v) (e : v = v') : Ev f v' := e ▸ h
theorem Ev.ex {β : Type} {f : Nat → Option β} {v : β} (h : Ev f v) : ∃ k, f k = some v := by
  obtain ⟨K, hK⟩ := h
  exact ⟨K, hK K (Nat.le_refl _)⟩
theorem w64 (n : Int) (h : -9223372036854775808 ≤ n ∧ n ≤ 9223372036854775807) : wrap64 n = n := by unfold wrap64; omega
/-- A text's bytes, as natural numbers. -/
def by_ (a : ByteArray) : List Nat := a.data.toList.map UInt8.toNat
theorem by_len (a : ByteArray) : (by_ a).length = a.size := by unfold by_; rw [List.length_map]; exact Array.length_toList
theorem by_lt (a : ByteArray) : ∀ n ∈ by_ a, n < 256 := by
  intro n hn
  obtain ⟨b, _, rfl⟩ := List.mem_map.1 hn
  exact b.toNat_lt
theorem bt_by (a : ByteArray) (i : Nat) (h : i < a.size) : bt a i = ((by_ a)[i]'(by rw [by_len]; exact h) : Nat) := by
  unfold bt
  rw [dif_pos (by simpa using h)]
  simp [by_]
  rfl

theorem tl_iff {a b : ByteArray} : a.toList = b.toList ↔ a = b := by
  constructor
  · intro h
    rw [ByteArray.toList_eq, ByteArray.toList_eq] at h
    exact Go.WideShapes.bytes_inj h
  · rintro rfl; rfl
theorem rdO_get {l : List ByteArray} {i : Nat} (h : i < l.length) : rdOf ByteArray.empty l (i : Int) = l[i] := by
  unfold rdOf
  rw [Int.toNat_natCast, List.getD_eq_getElem?_getD, List.getElem?_eq_getElem h]
  rfl
theorem strings_loop (l m : List ByteArray) (hl : l.length ≤ 8796093022208) (he : l.length = m.length) : ∀ d i, i + d = l.length → Ev (fun k => posthouseref3_Strings.l0 k l m (i : Int)) (decide (l.drop i = m.drop i))
  | 0, i, h => by
    rw [List.drop_eq_nil_of_le (by omega), List.drop_eq_nil_of_le (by omega)]
    refine Ev.succ (Ev.const fun k => ?_)
    unfold posthouseref3_Strings.l0
    rw [if_neg (by omega)]
    rfl
  | d + 1, i, h => by
    have h1 := strings_loop l m hl he d (i + 1) (by omega)
    have hi : i < l.length := by omega
    have hj : i < m.length := by omega
    have hw : wrap64 ((i : Int) + 1) = ((i + 1 : Nat) : Int) := by rw [w64 _ (by omega)]; omega
    rw [List.drop_eq_getElem_cons hi, List.drop_eq_getElem_cons hj]
    refine Ev.succ ?_
    unfold posthouseref3_Strings.l0
    by_cases e : l[i] = m[i]
    · refine (h1.congr fun k => ?_).val ?_
      · rw [if_pos (by omega), if_pos (by omega), if_pos (by omega), rdO_get hi, rdO_get hj, if_pos (tl_iff.2 e), hw]
      · rw [Bool.eq_iff_iff, decide_eq_true_iff, decide_eq_true_iff, e]
        exact ⟨fun h => by rw [h], fun h => (List.cons.inj h).2⟩
    · rw [decide_eq_false (fun h => e (List.cons.inj h).1)]
      refine Ev.const fun k => ?_
      rw [if_pos (by omega), if_pos (by omega), if_pos (by omega), rdO_get hi, rdO_get hj, if_neg (fun h => e (tl_iff.1 h))]
theorem Strings_ev (l m : List ByteArray) (hl : l.length ≤ 8796093022208) : Ev (fun k => posthouseref3_Strings.f k l m) (decide (l = m)) := by
  unfold posthouseref3_Strings.f
  by_cases he : l.length = m.length
  · have := strings_loop l m hl he l.length 0 (by omega)
    rw [List.drop_zero, List.drop_zero] at this
    refine this.congr fun k => ?_
    rw [if_pos (by omega)]
    rfl
  · rw [decide_eq_false (fun h => he (by rw [h]))]
    refine Ev.const fun k => ?_
    rw [if_neg (by omega)]

/-- The first line and what stands behind its end. -/
def cutN : List Int → Option (List Int × List Int)
  | [] => none
  | x :: r => if x = 13 ∧ r.head? = some 10 then some ([], r.tail) else (cutN r).map fun p => (x :: p.1, p.2)
theorem cutN_eq : ∀ {S a r : List Int}, cutN S = some (a, r) → S = a ++ 13 :: 10 :: r
  | [], a, r, h => by cases h
  | x :: t, a, r, h => by
    unfold cutN at h
    by_cases e : x = 13 ∧ t.head? = some 10
    · rw [if_pos e] at h
      obtain ⟨rfl, e2⟩ := e
      cases h
      cases t with
      | nil => cases e2
      | cons y t => cases e2; rfl
    · rw [if_neg e] at h
      cases hc : cutN t with
      | none => rw [hc] at h; cases h
      | some p =>
        rw [hc] at h
        cases h
        rw [cutN_eq (a := p.1) (r := p.2) hc]
        rfl
theorem cutN_more : ∀ {S a r : List Int}, cutN S = some (a, r) → ∀ X : List Int, cutN (a ++ 13 :: 10 :: X) = some (a, X)
  | [], a, r, h => by cases h
  | x :: t, a, r, h => by
    intro X
    unfold cutN at h
    by_cases e : x = 13 ∧ t.head? = some 10
    · rw [if_pos e] at h
      cases h
      show cutN (13 :: 10 :: X) = _
      unfold cutN
      rw [if_pos ⟨rfl, rfl⟩]
      rfl
    · rw [if_neg e] at h
      cases hc : cutN t with
      | none => rw [hc] at h; cases h
      | some p =>
        rw [hc] at h
        cases h
        have ih := cutN_more (a := p.1) (r := p.2) hc X
        have ht := cutN_eq (a := p.1) (r := p.2) hc
        show cutN (x :: (p.1 ++ 13 :: 10 :: X)) = _
        unfold cutN
        rw [if_neg, ih]
        · rfl
        · rintro ⟨e1, e2⟩
          apply e
          refine ⟨e1, ?_⟩
          rw [ht]
          cases hp : p.1 with
          | nil => rw [hp] at e2; cases e2
          | cons y q => rw [hp] at e2; exact e2
theorem cutN_len {S a r : List Int} (h : cutN S = some (a, r)) : S.length = a.length + 2 + r.length := by
  rw [cutN_eq h]; simp; omega
/-- The lines of a stream and the rest. -/
def spf : Nat → List Int → List (List Int) × List Int
  | 0, S => ([], S)
  | n + 1, S => match cutN S with
    | none => ([], S)
    | some p => (p.1 :: (spf n p.2).1, (spf n p.2).2)
theorem spf_more : ∀ (n m : Nat) (S : List Int), S.length ≤ n → S.length ≤ m → spf n S = spf m S
  | 0, 0, S, _, _ => rfl
  | 0, m + 1, S, h, _ => by
    obtain rfl : S = [] := List.eq_nil_of_length_eq_zero (by omega)
    rfl
  | n + 1, 0, S, _, h => by
    obtain rfl : S = [] := List.eq_nil_of_length_eq_zero (by omega)
    rfl
  | n + 1, m + 1, S, h1, h2 => by
    unfold spf
    cases hc : cutN S with
    | none => rfl
    | some p =>
      have := cutN_len (a := p.1) (r := p.2) hc
      simp only
      rw [spf_more n m p.2 (by omega) (by omega)]
def sp (S : List Int) : List (List Int) × List Int := spf S.length S
theorem sp_none {S : List Int} (h : cutN S = none) : sp S = ([], S) := by
  unfold sp
  cases hl : S.length with
  | zero => rfl
  | succ n => unfold spf; rw [h]
theorem sp_some {S a r : List Int} (h : cutN S = some (a, r)) : sp S = (a :: (sp r).1, (sp r).2) := by
  have hl := cutN_len h
  unfold sp
  obtain ⟨n, hn⟩ : ∃ n, S.length = n + 1 := ⟨S.length - 1, by omega⟩
  rw [hn]
  conv => lhs; unfold spf
  rw [h]
  simp only
  rw [spf_more n r.length r (by omega) (Nat.le_refl _)]
/-- The stream that lines make. -/
def joinL : List (List Int) → List Int
  | [] => []
  | a :: l => a ++ 13 :: 10 :: joinL l
theorem sp_join : ∀ (n : Nat) (S : List Int), S.length ≤ n → S = joinL (sp S).1 ++ (sp S).2
  | n, S, h => by
    cases hc : cutN S with
    | none => rw [sp_none hc]; rfl
    | some p =>
      have hl := cutN_len (a := p.1) (r := p.2) hc
      have he := cutN_eq (a := p.1) (r := p.2) hc
      rw [sp_some (a := p.1) (r := p.2) hc]
      cases n with
      | zero => omega
      | succ n =>
        have ih := sp_join n p.2 (by omega)
        show S = (p.1 ++ 13 :: 10 :: joinL (sp p.2).1) ++ (sp p.2).2
        rw [List.append_assoc, List.cons_append, List.cons_append, ← ih]
        exact he
theorem sp_both : ∀ (n : Nat) (S : List Int), S.length ≤ n → ∀ T : List Int, sp (joinL (sp S).1 ++ T) = ((sp S).1 ++ (sp T).1, (sp T).2)
  | n, S, h => by
    intro T
    cases hc : cutN S with
    | none =>
      rw [sp_none hc]
      show sp ([] ++ T) = ([] ++ (sp T).1, (sp T).2)
      rw [List.nil_append, List.nil_append]
    | some p =>
      have hl := cutN_len (a := p.1) (r := p.2) hc
      rw [sp_some (a := p.1) (r := p.2) hc]
      cases n with
      | zero => omega
      | succ n =>
        have ih := sp_both n p.2 (by omega) T
        show sp ((p.1 ++ 13 :: 10 :: joinL (sp p.2).1) ++ T) = ((p.1 :: (sp p.2).1) ++ (sp T).1, (sp T).2)
        rw [List.append_assoc, List.cons_append, List.cons_append, sp_some (cutN_more (a := p.1) (r := p.2) hc _), ih]
        rfl
theorem sp_len : ∀ (n : Nat) (S : List Int), S.length ≤ n → 2 * (sp S).1.length ≤ S.length ∧ (sp S).2.length ≤ S.length
  | n, S, h => by
    cases hc : cutN S with
    | none => rw [sp_none hc]; exact ⟨Nat.zero_le _, Nat.le_refl _⟩
    | some p =>
      have hl := cutN_len (a := p.1) (r := p.2) hc
      rw [sp_some (a := p.1) (r := p.2) hc]
      cases n with
      | zero => omega
      | succ n =>
        have ih := sp_len n p.2 (by omega)
        simp only [List.length_cons]
        omega
def okB (S : List Int) : Prop := ∀ x ∈ S, 0 ≤ x ∧ x < 256
theorem toU {x : Int} (h : 0 ≤ x ∧ x < 256) (n : Nat) (hn : n < 256) : (x.toNat.toUInt8 == UInt8.ofNat n) = decide (x = (n : Int)) := by
  obtain ⟨m, rfl⟩ := Int.eq_ofNat_of_zero_le h.1
  have hm : m < 256 := by omega
  rw [Bool.eq_iff_iff, beq_iff_eq, decide_eq_true_iff]
  constructor
  · intro e
    have := congrArg UInt8.toNat e
    simp at this
    omega
  · intro e
    have : m = n := by omega
    rw [this]
    rfl
theorem idx_cut : ∀ (S : List Int), okB S → match cutN S with
    | some p => Lib.index (Lib.bytesOf S) [13, 10] = (p.1.length : Int)
    | none => Lib.index (Lib.bytesOf S) [13, 10] = -1
  | [], _ => rfl
  | x :: t, h => by
    have hx := h x (List.mem_cons_self ..)
    have ht : okB t := fun y hy => h y (List.mem_cons_of_mem _ hy)
    have ih := idx_cut t ht
    have hb : Lib.bytesOf (x :: t) = x.toNat.toUInt8 :: Lib.bytesOf t := rfl
    have hp : ([13, 10] : List UInt8).isPrefixOf (x.toNat.toUInt8 :: Lib.bytesOf t) = decide (x = 13 ∧ t.head? = some 10) := by
      have h13 := toU hx 13 (by omega)
      cases t with
      | nil =>
        show (_ && false) = _
        rw [Bool.and_false, eq_comm, decide_eq_false_iff_not]
        rintro ⟨_, e⟩
        cases e
      | cons y t =>
        have hy := ht y (List.mem_cons_self ..)
        have h10 := toU hy 10 (by omega)
        show ((13 : UInt8) == x.toNat.toUInt8 && ((10 : UInt8) == y.toNat.toUInt8 && true)) = _
        have c1 : ((13 : UInt8) == x.toNat.toUInt8) = decide (x = 13) := by rw [Bool.beq_comm]; exact h13
        have c2 : ((10 : UInt8) == y.toNat.toUInt8) = decide (y = 10) := by rw [Bool.beq_comm]; exact h10
        rw [c1, c2, Bool.and_true, ← Bool.decide_and]
        exact decide_eq_decide.2 ⟨fun h => ⟨h.1, by rw [h.2]; rfl⟩, fun h => ⟨h.1, by have := h.2; simpa using this⟩⟩
    rw [hb]
    unfold cutN
    show match (if x = 13 ∧ t.head? = some 10 then some (([] : List Int), t.tail) else (cutN t).map fun p => (x :: p.1, p.2)) with
      | some p => (if ([13, 10] : List UInt8).isPrefixOf (x.toNat.toUInt8 :: Lib.bytesOf t) then (0 : Int) else if Lib.index (Lib.bytesOf t) [13, 10] == -1 then -1 else Lib.index (Lib.bytesOf t) [13, 10] + 1) = (p.1.length : Int)
      | none => (if ([13, 10] : List UInt8).isPrefixOf (x.toNat.toUInt8 :: Lib.bytesOf t) then (0 : Int) else if Lib.index (Lib.bytesOf t) [13, 10] == -1 then -1 else Lib.index (Lib.bytesOf t) [13, 10] + 1) = -1
    rw [hp]
    by_cases e : x = 13 ∧ t.head? = some 10
    · rw [if_pos e, decide_eq_true e]
      rfl
    · rw [if_neg e, decide_eq_false e]
      cases hc : cutN t with
      | none =>
        rw [hc] at ih
        simp only at ih
        rw [ih]
        rfl
      | some p =>
        rw [hc] at ih
        simp only at ih
        rw [ih]
        show (if false = true then (0 : Int) else if ((p.1.length : Int) == -1) = true then -1 else (p.1.length : Int) + 1) = _
        rw [if_neg (by simp), if_neg (by rw [beq_iff_eq]; omega)]
        simp

theorem str_size (a : List Int) : (strOfNums a).size = a.length := by
  show (strOfNums a).data.size = a.length
  simp [strOfNums]
theorem Cut_val (S : List Int) (hb : okB S) (hl : S.length ≤ 40000) : bytes_Cut.f S [13, 10] = some (match cutN S with | some p => (p.1, p.2, true) | none => (S, [], false)) := by
  have hi := idx_cut S hb
  have hI : bytes_Index.f S [13, 10] = some (Lib.index (Lib.bytesOf S) [13, 10]) := by
    unfold bytes_Index.f
    rw [if_pos]
    · rfl
    · refine ⟨rfl, by omega, ?_⟩
      rw [List.all_append, Bool.and_eq_true]
      exact ⟨List.all_eq_true.2 fun x hx => decide_eq_true (hb x hx), rfl⟩
  unfold bytes_Cut.f
  rw [hI, Option.bind_some]
  cases hc : cutN S with
  | none =>
    rw [hc] at hi
    simp only at hi
    rw [hi, if_neg (by decide)]
  | some p =>
    rw [hc] at hi
    simp only at hi
    have hlen := cutN_len (a := p.1) (r := p.2) hc
    have he := cutN_eq (a := p.1) (r := p.2) hc
    have hw : wrap64 ((p.1.length : Int) + (([13, 10] : List Int).length : Int)) = ((p.1.length + 2 : Nat) : Int) := by
      show wrap64 ((p.1.length : Int) + 2) = _
      rw [w64 _ (by omega)]; omega
    rw [hi, hw, if_pos (by omega), if_pos (by omega), if_pos (by omega), if_pos (by omega), if_pos (by omega), Int.toNat_natCast, Int.toNat_natCast]
    congr 2
    · conv => lhs; rw [he]
      rw [List.take_left']
      rfl
    · congr 1
      conv => lhs; rw [he]
      rw [show p.1 ++ 13 :: 10 :: p.2 = (p.1 ++ [13, 10]) ++ p.2 by simp, List.drop_left']
      simp
/-- What Split answers, behind the lines that it has. -/
def res (out : List ByteArray) : List (List Int) → List Int → List ByteArray × List Int × Int × Int
  | [], t => (out, t, 0, 0)
  | a :: l, t => if a.length > 4000 then ([], [], 1, (out.length : Int)) else res (out ++ [strOfNums a]) l t
theorem okB_drop {S a r : List Int} (hb : okB S) (h : S = a ++ 13 :: 10 :: r) : okB r := fun x hx => hb x (by rw [h]; simp [hx])
theorem split_loop : ∀ (n : Nat) (S : List Int), S.length ≤ n → okB S → ∀ out : List ByteArray, out.length + S.length ≤ 40000 → Ev (fun k => lines_Split.l0 k S out) (res out (sp S).1 (sp S).2)
  | n, S, h, hb => by
    intro out ho
    have hcv := Cut_val S hb (by omega)
    refine Ev.succ ?_
    unfold lines_Split.l0
    simp only [hcv, Option.bind_some]
    cases hc : cutN S with
    | none =>
      rw [sp_none hc]
      refine Ev.const fun k => ?_
      simp only
      rw [if_neg (by decide)]
      unfold slices_Clone_byte_byte.f
      rw [if_pos (by omega)]
      rfl
    | some p =>
      have hl := cutN_len (a := p.1) (r := p.2) hc
      have he := cutN_eq (a := p.1) (r := p.2) hc
      rw [sp_some (a := p.1) (r := p.2) hc]
      cases n with
      | zero => omega
      | succ n =>
        simp only [if_true]
        unfold res
        by_cases e : p.1.length > 4000
        · rw [if_pos e]
          refine Ev.const fun k => ?_
          rw [if_pos (by omega)]
        · rw [if_neg e]
          refine (split_loop n p.2 (by omega) (okB_drop hb he) (out ++ [strOfNums p.1]) (by rw [List.length_append]; simp only [List.length_cons, List.length_nil]; omega)).congr fun k => ?_
          rw [if_neg (by omega), if_pos (by omega)]
def splitV (S : List Int) : List ByteArray × List Int × Int × Int := if S.length > 40000 then ([], [], 1, -1) else res [] (sp S).1 (sp S).2
theorem Split_ev (S : List Int) (hb : okB S) : Ev (fun k => lines_Split.f k S) (splitV S) := by
  unfold lines_Split.f splitV
  by_cases e : S.length > 40000
  · rw [if_pos e]
    refine Ev.const fun k => ?_
    rw [if_pos (by omega)]
  · rw [if_neg e]
    refine (split_loop S.length S (Nat.le_refl _) hb [] (by simp; omega)).congr fun k => ?_
    rw [if_neg (by omega)]
theorem cutN_at : ∀ (S : List Int) (q : Nat), S[q]? = some 13 → S[q + 1]? = some 10 → (∀ j, j < q → ¬ (S[j]? = some 13 ∧ S[j + 1]? = some 10)) → cutN S = some (S.take q, S.drop (q + 2))
  | [], q, h, _, _ => by simp at h
  | x :: t, 0, h1, h2, _ => by
    have hx : x = 13 := by simpa using h1
    have ht : t.head? = some 10 := by rw [List.head?_eq_getElem?]; simpa using h2
    unfold cutN
    rw [if_pos ⟨hx, ht⟩]
    simp
  | x :: t, q + 1, h1, h2, hno => by
    have h0 := hno 0 (by omega)
    have ih := cutN_at t q (by simpa using h1) (by simpa using h2) (fun j hj h => hno (j + 1) (by omega) (by simpa using h))
    unfold cutN
    rw [if_neg, ih]
    · rfl
    · rintro ⟨e1, e2⟩
      exact h0 ⟨by simp [e1], by rw [List.head?_eq_getElem?] at e2; simpa using e2⟩
theorem cutN_no : ∀ (S : List Int), (∀ j : Nat, ¬ (S[j]? = some 13 ∧ S[j + 1]? = some 10)) → cutN S = none
  | [], _ => rfl
  | x :: t, hno => by
    have h0 := hno 0
    have ih := cutN_no t (fun j h => hno (j + 1) (by simpa using h))
    unfold cutN
    rw [if_neg, ih]
    · rfl
    · rintro ⟨e1, e2⟩
      exact h0 ⟨by simp [e1], by rw [List.head?_eq_getElem?] at e2; simpa using e2⟩
theorem rd_get {l : List Int} {i : Nat} (h : i < l.length) : rd l (i : Int) = l[i] := by
  unfold rd
  rw [Int.toNat_natCast, List.getD_eq_getElem?_getD, List.getElem?_eq_getElem h]
  rfl
theorem lines_loop (b : List Int) (hl : b.length ≤ 40000) : ∀ d i, b.length ≤ i + d → ∀ (fr : Nat) (out : List ByteArray), 1 ≤ i → fr ≤ i → fr ≤ b.length → out.length ≤ i →
    (∀ j, fr + j + 1 < i → ¬ ((b.drop fr)[j]? = some 13 ∧ (b.drop fr)[j + 1]? = some 10)) →
    Ev (fun k => posthouseref3_Lines.l0 k b out (fr : Int) (i : Int)) (out ++ (sp (b.drop fr)).1.map strOfNums, (sp (b.drop fr)).2)
  | 0, i, h => by
    intro fr out hi hf hfl ho hno
    have hc : cutN (b.drop fr) = none := cutN_no _ fun j hj => by
      have h2 := hj.2
      rw [List.getElem?_drop] at h2
      have := (List.getElem?_eq_some_iff.1 h2).1
      exact hno j (by omega) hj
    rw [sp_none hc]
    refine Ev.succ (Ev.const fun k => ?_)
    unfold posthouseref3_Lines.l0
    rw [if_neg (by omega), if_pos (by omega), if_pos (by omega), Int.toNat_natCast]
    simp
  | d + 1, i, h => by
    intro fr out hi hf hfl ho hno
    by_cases hlt : i < b.length
    · have hw : wrap64 ((i : Int) + 1) = ((i + 1 : Nat) : Int) := by rw [w64 _ (by omega)]; omega
      have hw1 : wrap64 ((i : Int) - 1) = ((i - 1 : Nat) : Int) := by rw [w64 _ (by omega)]; omega
      have hi1 : i - 1 < b.length := by omega
      have hstep : ¬ (b[i] = 10 ∧ b[i - 1] = 13 ∧ i > fr) → Ev (fun k => posthouseref3_Lines.l0 k b out (fr : Int) ((i + 1 : Nat) : Int)) (out ++ (sp (b.drop fr)).1.map strOfNums, (sp (b.drop fr)).2) := by
        intro hn
        refine lines_loop b hl d (i + 1) (by omega) fr out (by omega) (by omega) hfl (by omega) fun j hj => ?_
        by_cases e : fr + j + 1 < i
        · exact hno j e
        · rintro ⟨e1, e2⟩
          rw [List.getElem?_drop] at e1 e2
          have hji : fr + (j + 1) = i := by omega
          have hji1 : fr + j = i - 1 := by omega
          rw [hji, List.getElem?_eq_getElem hlt] at e2
          rw [hji1, List.getElem?_eq_getElem hi1] at e1
          exact hn ⟨Option.some.inj e2, Option.some.inj e1, by omega⟩
      refine Ev.succ ?_
      unfold posthouseref3_Lines.l0
      simp only [hw, hw1, rd_get hlt, rd_get hi1]
      by_cases e10 : b[i] = 10
      · by_cases e13 : b[i - 1] = 13
        · by_cases ef : i > fr
          · have hq1 : (b.drop fr)[i - 1 - fr]? = some 13 := by rw [List.getElem?_drop, show fr + (i - 1 - fr) = i - 1 by omega, List.getElem?_eq_getElem hi1, e13]
            have hq2 : (b.drop fr)[i - 1 - fr + 1]? = some 10 := by rw [List.getElem?_drop, show fr + (i - 1 - fr + 1) = i by omega, List.getElem?_eq_getElem hlt, e10]
            have hc := cutN_at (b.drop fr) (i - 1 - fr) hq1 hq2 (fun j hj => hno j (by omega))
            rw [List.drop_drop, show fr + (i - 1 - fr + 2) = i + 1 by omega] at hc
            have ht : (b.take (i - 1)).drop fr = (b.drop fr).take (i - 1 - fr) := by rw [List.drop_take]
            rw [sp_some hc]
            have ih := lines_loop b hl d (i + 1) (by omega) (i + 1) (out ++ [strOfNums ((b.drop fr).take (i - 1 - fr))]) (by omega) (Nat.le_refl _) (by omega) (by rw [List.length_append]; simp; omega) (fun j hj => by omega)
            refine (ih.congr fun k => ?_).val ?_
            · rw [if_pos (by omega), if_pos (by omega), if_pos e10, if_pos (by omega), if_pos (by omega), if_pos e13, if_pos (by omega), if_pos (by omega), if_pos (by omega), if_pos (by omega), if_pos (by omega), Int.toNat_natCast, Int.toNat_natCast, ht]
            · simp
          · refine (hstep (fun h => ef h.2.2)).congr fun k => ?_
            rw [if_pos (by omega), if_pos (by omega), if_pos e10, if_pos (by omega), if_pos (by omega), if_pos e13, if_neg (by omega)]
        · refine (hstep (fun h => e13 h.2.1)).congr fun k => ?_
          rw [if_pos (by omega), if_pos (by omega), if_pos e10, if_pos (by omega), if_pos (by omega), if_neg e13]
      · refine (hstep (fun h => e10 h.1)).congr fun k => ?_
        rw [if_pos (by omega), if_pos (by omega), if_neg e10]
    · exact lines_loop b hl 0 i (by omega) fr out hi hf hfl ho hno
theorem Lines_ev (b : List Int) (hl : b.length ≤ 40000) : Ev (fun k => posthouseref3_Lines.f k b) ((sp b).1.map strOfNums, (sp b).2) := by
  have := lines_loop b hl b.length 1 (by omega) 0 [] (Nat.le_refl _) (by omega) (Nat.zero_le _) (by simp) (fun j hj => by omega)
  rw [List.drop_zero] at this
  exact this

/-- The state behind a byte, what it adds, and whether the data end. -/
def nx (s c : Int) : Int × List Int × Bool :=
  if s = 0 ∧ c = 46 then (1, [], false) else if s = 1 ∧ c = 13 then (2, [], false) else if s = 2 ∧ c = 10 then (0, [], true) else if s = 4 ∧ c = 10 then (0, [c], false) else
  ((if c = 13 then 4 else 3), (if s = 2 then [13] else []) ++ [c], false)
theorem Next3 (k : Nat) (s c : Int) (b : Bool) : lines_Next.j3 (k + 1) s c [] b = some (if b = true then (0, [c], false) else ((if c = 13 then 4 else 3), (if s = 2 then [13] else []) ++ [c], false)) := by
  simp only [lines_Next.j3]
  cases b with
  | true => simp
  | false =>
    by_cases h2 : s = 2
    · by_cases h : c = 13 <;> simp [h2, h]
    · by_cases h : c = 13 <;> simp [h2, h]
theorem Next_val (k : Nat) (s c : Int) : lines_Next.f (k + 4) s c = some (nx s c) := by
  have e3 : ∀ b, lines_Next.j3 (k + 1) s c [] b = some (if b = true then (0, [c], false) else ((if c = 13 then 4 else 3), (if s = 2 then [13] else []) ++ [c], false)) := fun b => Next3 k s c b
  have e2 : ∀ b, lines_Next.j2 (k + 2) s c [] b = some (if b = true then (0, [], true) else if s = 4 ∧ c = 10 then (0, [c], false) else ((if c = 13 then 4 else 3), (if s = 2 then [13] else []) ++ [c], false)) := by
    intro b
    simp only [lines_Next.j2, e3]
    cases b with
    | true => simp
    | false =>
      by_cases h4 : s = 4
      · by_cases h : c = 10 <;> simp [h4, h]
      · simp [h4]
  have e1 : ∀ b, lines_Next.j1 (k + 3) s c [] b = some (if b = true then (2, [], false) else if s = 2 ∧ c = 10 then (0, [], true) else if s = 4 ∧ c = 10 then (0, [c], false) else ((if c = 13 then 4 else 3), (if s = 2 then [13] else []) ++ [c], false)) := by
    intro b
    simp only [lines_Next.j1, e2]
    cases b with
    | true => simp
    | false =>
      by_cases h2 : s = 2
      · by_cases h : c = 10 <;> simp [h2, h]
      · simp [h2]
  have e0 : ∀ b, lines_Next.j0 (k + 4) s c [] b = some (if b = true then (1, [], false) else if s = 1 ∧ c = 13 then (2, [], false) else if s = 2 ∧ c = 10 then (0, [], true) else if s = 4 ∧ c = 10 then (0, [c], false) else ((if c = 13 then 4 else 3), (if s = 2 then [13] else []) ++ [c], false)) := by
    intro b
    simp only [lines_Next.j0, e1]
    cases b with
    | true => simp
    | false =>
      by_cases h1 : s = 1
      · by_cases h : c = 13 <;> simp [h1, h]
      · simp [h1]
  unfold lines_Next.f nx
  rw [e0, e0]
  by_cases h0 : s = 0
  · by_cases h : c = 46 <;> simp [h0, h]
  · simp [h0]
theorem Next_ev (s c : Int) : Ev (fun k => lines_Next.f k s c) (nx s c) := ⟨4, fun k hk => by
  obtain ⟨j, rfl⟩ : ∃ j, k = j + 4 := ⟨k - 4, by omega⟩
  exact Next_val j s c⟩
theorem nx_len (s c : Int) : (nx s c).2.1.length ≤ 2 := by
  unfold nx
  repeat' split
  all_goals simp
/-- What Unstuff answers. -/
def un : List Int → Int → List Int → Int → List Int × Int × Bool × Int × Int
  | [], _, _, _ => ([], 0, false, 0, 0)
  | c :: l, s, out, i => if (out ++ (nx s c).2.1).length > 12000 then ([], 0, false, 1, -2) else if (nx s c).2.2 = true then (out ++ (nx s c).2.1, i + 1, true, 0, 0) else un l (nx s c).1 (out ++ (nx s c).2.1) (i + 1)
theorem un_loop (b : List Int) (hl : b.length ≤ 40000) : ∀ d i, i + d = b.length → ∀ (s : Int) (out : List Int), out.length ≤ 12000 → Ev (fun k => lines_Unstuff.l0 k out s b (b.length : Int) (i : Int)) (un (b.drop i) s out (i : Int))
  | 0, i, h => by
    intro s out ho
    rw [List.drop_eq_nil_of_le (by omega)]
    refine Ev.succ (Ev.const fun k => ?_)
    unfold lines_Unstuff.l0
    rw [if_neg (by omega)]
    rfl
  | d + 1, i, h => by
    intro s out ho
    have hi : i < b.length := by omega
    have hw : wrap64 ((i : Int) + 1) = (i : Int) + 1 := w64 _ (by omega)
    have hn := nx_len s b[i]
    rw [List.drop_eq_getElem_cons hi]
    unfold un
    refine Ev.succ ?_
    unfold lines_Unstuff.l0
    simp only [rd_get hi, hw, if_pos (show (i : Int) < (b.length : Int) by omega), if_pos (show (0 : Int) ≤ (i : Int) by omega)]
    refine Ev.bind (Next_ev s b[i]) ?_
    simp only [if_pos (show out.length + (nx s b[i]).2.1.length < 140737488355328 by omega), Option.bind_some]
    by_cases e : (out ++ (nx s b[i]).2.1).length > 12000
    · rw [if_pos e]
      refine Ev.const fun k => ?_
      rw [if_pos (by omega)]
    rw [if_neg e]
    simp only [if_neg (show ¬ ((out ++ (nx s b[i]).2.1).length : Int) > 12000 by omega)]
    by_cases e2 : (nx s b[i]).2.2 = true
    · rw [if_pos e2]
      refine Ev.const fun k => ?_
      rw [if_pos e2]
    · rw [if_neg e2]
      have := un_loop b hl d (i + 1) (by omega) (nx s b[i]).1 (out ++ (nx s b[i]).2.1) (by omega)
      refine this.congr fun k => ?_
      rw [if_neg e2]
      rfl
theorem Unstuff_ev (b : List Int) : Ev (fun k => lines_Unstuff.f k b) (if b.length > 40000 then ([], 0, false, 1, -1) else un b 0 [] 0) := by
  unfold lines_Unstuff.f
  by_cases e : b.length > 40000
  · rw [if_pos e]
    refine Ev.const fun k => ?_
    rw [if_pos (by omega)]
  · rw [if_neg e]
    refine (un_loop b (by omega) b.length 0 (by omega) 0 [] (by simp)).congr fun k => ?_
    rw [if_neg (by omega)]
    rfl

theorem okB_small (l : List Int) (h : (l.all fun x => decide (0 ≤ x ∧ x < 256)) = true) : okB l := fun x hx => of_decide_eq_true (List.all_eq_true.1 h x hx)
theorem splits_ev : Ev (fun k => posthouselaw3_splits.f k) true := by
  have P1 : Ev (fun k => lines_Split.f k [97, 13, 10, 98]) ([⟨#[97]⟩], [98], 0, 0) := by
    refine (Split_ev [97, 13, 10, 98] (okB_small _ (by decide))).val ?_
    decide +kernel
  have P2 : lines_Stuff.f [] = some ([46, 13, 10], 0, 0) := rfl
  have P3 : Ev (fun k => lines_Unstuff.f k [46, 46, 13, 10, 46, 13, 10, 120]) ([46, 13, 10], 7, true, 0, 0) := by
    refine (Unstuff_ev _).val ?_
    rw [if_neg (by decide)]
    decide +kernel
  have P4 : lines_Stuff.f [97] = some ([], 5, -2) := rfl
  unfold posthouselaw3_splits.f
  refine Ev.bind P1 ?_
  simp only [P2, Option.bind_some]
  refine Ev.bind P3 ?_
  simp only [P4, Option.bind_some, if_true, posthouseref3_At.f, BEq.rfl, Bool.and_self]
  refine Ev.bind (Strings_ev _ _ (by decide)) ?_
  rw [decide_eq_true rfl]
  simp only [if_true]
  refine Ev.const fun k => ?_
  rw [if_pos (by decide +kernel), if_pos (by decide +kernel), if_pos (by decide +kernel)]
theorem okB_wf {l : List Int} (h : XOpen.WFs 1 (fun x_ : Int => (Lit.int .u8 x_).wf = true) l) : okB l := fun x hx => by
  have := h.2 x hx
  have h2 : 0 ≤ x ∧ x ≤ 255 := by simpa [Lit.wf, IntKind.min, IntKind.max, IntKind.signed, IntKind.bits] using this
  omega

theorem lrdO {l : List ByteArray} {i : Nat} {s : ByteArray} (h : l[i]? = some s) : rdOf ByteArray.empty l (i : Int) = s := by
  obtain ⟨h1, h2⟩ := List.getElem?_eq_some_iff.1 h
  rw [rdO_get h1, h2]
theorem law_loop (t : List Int) : ∀ (suf pre : List (List Int)), (pre ++ suf).length ≤ 40000 → ∀ R : List ByteArray × List Int × Int × Int, R = res (pre.map strOfNums) suf t →
    Ev (fun k => posthouselaw3_LinesMatchSpec.l0 k R.1 R.2.1 ((pre ++ suf).map strOfNums) t (pre.length : Int) R.2.2.1 R.2.2.2) true
  | [], pre, hl, R, hR => by
    subst hR
    unfold res
    refine Ev.succ ?_
    unfold posthouselaw3_LinesMatchSpec.l0
    have hlen : ((pre ++ []).map strOfNums).length = pre.length := by simp
    have hb : Ev (fun k => (posthouseref3_Strings.f k (pre.map strOfNums) ((pre ++ []).map strOfNums)).bind fun t253 => (if t253 = true then (some ((strOfNums t).toList == (strOfNums t).toList)) else (some false))) true := by
      refine Ev.bind (Strings_ev _ _ (by simp at hl ⊢; omega)) ?_
      rw [decide_eq_true (by simp)]
      simp only [if_true, BEq.rfl]
      exact Ev.some_ _
    refine hb.congr fun k => ?_
    rw [if_neg (by rw [hlen]; omega), if_pos rfl]
  | a :: s, pre, hl, R, hR => by
    have hlen : ((pre ++ a :: s).map strOfNums).length = pre.length + (s.length + 1) := by simp
    have hget : rdOf ByteArray.empty ((pre ++ a :: s).map strOfNums) (pre.length : Int) = strOfNums a := lrdO (by simp)
    unfold res at hR
    refine Ev.succ ?_
    unfold posthouselaw3_LinesMatchSpec.l0
    simp only [hget, str_size]
    by_cases e : a.length > 4000
    · rw [if_pos e] at hR
      subst hR
      refine Ev.const fun k => ?_
      rw [if_pos (by rw [hlen]; omega), if_pos (by omega), if_pos (by omega)]
      simp [posthouseref3_At.f]
    · rw [if_neg e] at hR
      have ih := law_loop t s (pre ++ [a]) (by simp at hl ⊢; omega) R (by rw [hR]; simp)
      have hw : wrap64 ((pre.length : Int) + 1) = ((pre ++ [a]).length : Int) := by
        have : pre.length ≤ 40000 := by simp at hl; omega
        rw [w64 _ (by omega)]; simp
      have hs : (pre ++ [a]) ++ s = pre ++ a :: s := by simp
      rw [hs] at ih
      refine ih.congr fun k => ?_
      rw [if_pos (by rw [hlen]; omega), if_pos (by omega), if_neg (by omega), hw]
theorem pure : posthouselaw3_LinesMatchSpec.PureX := by
  intro b hwf
  have hb := okB_wf hwf
  refine Ev.ex ?_
  unfold posthouselaw3_LinesMatchSpec.f
  refine Ev.bind (Split_ev b hb) (Ev.bind splits_ev ?_)
  simp only [if_true]
  unfold splitV
  by_cases e : b.length > 40000
  · rw [if_pos e]
    refine Ev.const fun k => ?_
    rw [if_pos (by omega)]
    rfl
  · rw [if_neg e]
    have hsl := sp_len b.length b (Nat.le_refl _)
    simp only [if_neg (show ¬ (b.length : Int) > 40000 by omega)]
    refine Ev.bind (Lines_ev b (by omega)) ?_
    exact law_loop (sp b).2 (sp b).1 [] (by simp; omega) _ rfl

end Go.Proofs.Ytmicgojonpdelaa.XLih.PLinesMatchSpec
