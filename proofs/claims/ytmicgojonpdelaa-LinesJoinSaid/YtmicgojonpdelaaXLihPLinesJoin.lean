/- Lines with their ends, and the rest, are the stream; the lines of two streams are those of both: for all streams within reach the law's own function answers true. -/
import Derived.Test.YtmicgojonpdelaaXLihSLinesJoin
import Derived.Test.YtmicgojonpdelaaVLiha
namespace Go.Proofs.Ytmicgojonpdelaa.XLih.PLinesJoin
open Go Go.RowKit Go.Proofs.YtmicgojonpdelaaW.PrintWords Go.Proofs.Ytmicgojonpdelaa.XLih
set_option linter.unusedVariables false
set_option linter.unusedSimpArgs false
/-- From some number of rounds on. -/
def Ev {β : Type} (f : Nat → Option β) (v : β) : Prop := ∃ K, ∀ k, K ≤ k → f k = some v
theorem Ev.const {β : Type} {f : Nat → Option β} {v : β} (h : ∀ k, f k = some v) : Ev f v := ⟨0, fun k _ => h k⟩
theorem Ev.some_ {β : Type} (v : β) : Ev (fun _ => some v) v := .const fun _ => rfl
theorem Ev.bind {α β : Type} {f : Nat → Option α} {g : Nat → α → Option β} {a : α} {v : β} (h : Ev f a) (h2 : Ev (fun k => g k a) v) : Ev (fun k => (f k).bind (g k)) v := by
  obtain ⟨K, hK⟩ := h
  obtain ⟨M, hM⟩ := h2
  refine ⟨max K M, fun k hk => ?_⟩
  show (f k).bind (g k) = some v
  rw [hK k (by omega)]
  exact hM k (by omega)
theorem Ev.succ {β : Type} {f : Nat → Option β} {v : β} (h : Ev (fun k => f (k + 1)) v) : Ev f v := by
  obtain ⟨K, hK⟩ := h
  refine ⟨K + 1, fun k hk => ?_⟩
  obtain ⟨k, rfl⟩ : ∃ j, k = j + 1 := ⟨k - 1, by omega⟩
  exact hK k (by omega)
theorem Ev.congr {β : Type} {f g : Nat → Option β} {v : β} (h : Ev f v) (e : ∀ k, g k = f k) : Ev g v := by
  obtain ⟨K, hK⟩ := h
  exact ⟨K, fun k hk => (e k).trans (hK k hk)⟩
theorem Ev.val {β : Type} {f : Nat → Option β} {v v' : β} (h : Ev f v) (e : v = v') : Ev f v' := e ▸ h
theorem Ev.ex {β : Type} {f : Nat → Option β} {v : β} (h : Ev f v) : ∃ k, f k = some v := by
  obtain ⟨K, hK⟩ := h
  exact ⟨K, hK K (Nat.le_refl _)⟩
theorem w64 (n : Int) (h : -9223372036854775808 ≤ n ∧ n ≤ 9223372036854775807) : wrap64 n = n := by unfold wrap64; omega
/-- A text's bytes, as natural numbers. -/
def by_ (a : ByteArray) : List Nat := a.data.toList.map UInt8.toNat
theorem by_len (a : ByteArray) : (by_ a).length = a.size := by unfold by_; rw [List.length_map]; exact Array.length_toList
theorem by_lt (a : ByteArray) : ∀ n ∈ by_ a, n < 256 := by
  intro n hn
  obtain ⟨b, _, rfl⟩ := List.mem_map.1 hn
  exact b.toNat_lt
theorem bt_by (a : ByteArray) (i : Nat) (h : i < a.size) : bt a i = ((by_ a)[i]'(by rw [by_len]; exact h) : Nat) := by
  unfold bt
  rw [dif_pos (by simpa using h)]
  simp [by_]
  rfl

theorem tl_iff {a b : ByteArray} : a.toList = b.toList ↔ a = b := by
  constructor
  · intro h
    rw [ByteArray.toList_eq, ByteArray.toList_eq] at h
    exact Go.WideShapes.bytes_inj h
  · rintro rfl; rfl
theorem rdO_get {l : List ByteArray} {i : Nat} (h : i < l.length) : rdOf ByteArray.empty l (i : Int) = l[i] := by
  unfold rdOf
  rw [Int.toNat_natCast, List.getD_eq_getElem?_getD, List.getElem?_eq_getElem h]
  rfl
theorem strings_loop (l m : List ByteArray) (hl : l.length ≤ 8796093022208) (he : l.length = m.length) : ∀ d i, i + d = l.length → Ev (fun k => posthouseref3_Strings.l0 k l m (i : Int)) (decide (l.drop i = m.drop i))
  | 0, i, h => by
    rw [List.drop_eq_nil_of_le (by omega), List.drop_eq_nil_of_le (by omega)]
    refine Ev.succ (Ev.const fun k => ?_)
    unfold posthouseref3_Strings.l0
    rw [if_neg (by omega)]
    rfl
  | d + 1, i, h => by
    have h1 := strings_loop l m hl he d (i + 1) (by omega)
    have hi : i < l.length := by omega
    have hj : i < m.length := by omega
    have hw : wrap64 ((i : Int) + 1) = ((i + 1 : Nat) : Int) := by rw [w64 _ (by omega)]; omega
    rw [List.drop_eq_getElem_cons hi, List.drop_eq_getElem_cons hj]
    refine Ev.succ ?_
    unfold posthouseref3_Strings.l0
    by_cases e : l[i] = m[i]
    · refine (h1.congr fun k => ?_).val ?_
      · rw [if_pos (by omega), if_pos (by omega), if_pos (by omega), rdO_get hi, rdO_get hj, if_pos (tl_iff.2 e), hw]
      · rw [Bool.eq_iff_iff, decide_eq_true_iff, decide_eq_true_iff, e]
        exact ⟨fun h => by rw [h], fun h => (List.cons.inj h).2⟩
    · rw [decide_eq_false (fun h => e (List.cons.inj h).1)]
      refine Ev.const fun k => ?_
      rw [if_pos (by omega), if_pos (by omega), if_pos (by omega), rdO_get hi, rdO_get hj, if_neg (fun h => e (tl_iff.1 h))]
theorem Strings_ev (l m : List ByteArray) (hl : l.length ≤ 8796093022208) : Ev (fun k => posthouseref3_Strings.f k l m) (decide (l = m)) := by
  unfold posthouseref3_Strings.f
  by_cases he : l.length = m.length
  · have := strings_loop l m hl he l.length 0 (by omega)
    rw [List.drop_zero, List.drop_zero] at this
    refine this.congr fun k => ?_
    rw [if_pos (by omega)]
    rfl
  · rw [decide_eq_false (fun h => he (by rw [h]))]
    refine Ev.const fun k => ?_
    rw [if_neg (by omega)]

/-- The first line and what stands behind its end. -/
def cutN : List Int → Option (List Int × List Int)
  | [] => none
  | x :: r => if x = 13 ∧ r.head? = some 10 then some ([], r.tail) else (cutN r).map fun p => (x :: p.1, p.2)
theorem cutN_eq : ∀ {S a r : List Int}, cutN S = some (a, r) → S = a ++ 13 :: 10 :: r
  | [], a, r, h => by cases h
  | x :: t, a, r, h => by
    unfold cutN at h
    by_cases e : x = 13 ∧ t.head? = some 10
    · rw [if_pos e] at h
      obtain ⟨rfl, e2⟩ := e
      cases h
      cases t with
      | nil => cases e2
      | cons y t => cases e2; rfl
    · rw [if_neg e] at h
      cases hc : cutN t with
      | none => rw [hc] at h; cases h
      | some p =>
        rw [hc] at h
        cases h
        rw [cutN_eq (a := p.1) (r := p.2) hc]
        rfl
theorem cutN_more : ∀ {S a r : List Int}, cutN S = some (a, r) → ∀ X : List Int, cutN (a ++ 13 :: 10 :: X) = some (a, X)
  | [], a, r, h => by cases h
  | x :: t, a, r, h => by
    intro X
    unfold cutN at h
    by_cases e : x = 13 ∧ t.head? = some 10
    · rw [if_pos e] at h
      cases h
      show cutN (13 :: 10 :: X) = _
      unfold cutN
      rw [if_pos ⟨rfl, rfl⟩]
      rfl
    · rw [if_neg e] at h
      cases hc : cutN t with
      | none => rw [hc] at h; cases h
      | some p =>
        rw [hc] at h
        cases h
        have ih := cutN_more (a := p.1) (r := p.2) hc X
        have ht := cutN_eq (a := p.1) (r := p.2) hc
        show cutN (x :: (p.1 ++ 13 :: 10 :: X)) = _
        unfold cutN
        rw [if_neg, ih]
        · rfl
        · rintro ⟨e1, e2⟩
          apply e
          refine ⟨e1, ?_⟩
          rw [ht]
          cases hp : p.1 with
          | nil => rw [hp] at e2; cases e2
          | cons y q => rw [hp] at e2; exact e2
theorem cutN_len {S a r : List Int} (h : cutN S = some (a, r)) : S.length = a.length + 2 + r.length := by
  rw [cutN_eq h]; simp; omega
/-- The lines of a stream and the rest. -/
def spf : Nat → List Int → List (List Int) × List Int
  | 0, S => ([], S)
  | n + 1, S => match cutN S with
    | none => ([], S)
    | some p => (p.1 :: (spf n p.2).1, (spf n p.2).2)
theorem spf_more : ∀ (n m : Nat) (S : List Int), S.length ≤ n → S.length ≤ m → spf n S = spf m S
  | 0, 0, S, _, _ => rfl
  | 0, m + 1, S, h, _ => by
    obtain rfl : S = [] := List.eq_nil_of_length_eq_zero (by omega)
    rfl
  | n + 1, 0, S, _, h => by
    obtain rfl : S = [] := List.eq_nil_of_length_eq_zero (by omega)
    rfl
  | n + 1, m + 1, S, h1, h2 => by
    unfold spf
    cases hc : cutN S with
    | none => rfl
    | some p =>
      have := cutN_len (a := p.1) (r := p.2) hc
      simp only
      rw [spf_more n m p.2 (by omega) (by omega)]
def sp (S : List Int) : List (List Int) × List Int := spf S.length S
theorem sp_none {S : List Int} (h : cutN S = none) : sp S = ([], S) := by
  unfold sp
  cases hl : S.length with
  | zero => rfl
  | succ n => unfold spf; rw [h]
theorem sp_some {S a r : List Int} (h : cutN S = some (a, r)) : sp S = (a :: (sp r).1, (sp r).2) := by
  have hl := cutN_len h
  unfold sp
  obtain ⟨n, hn⟩ : ∃ n, S.length = n + 1 := ⟨S.length - 1, by omega⟩
  rw [hn]
  conv => lhs; unfold spf
  rw [h]
  simp only
  rw [spf_more n r.length r (by omega) (Nat.le_refl _)]
/-- The stream that lines make. -/
def joinL : List (List Int) → List Int
  | [] => []
  | a :: l => a ++ 13 :: 10 :: joinL l
theorem sp_join : ∀ (n : Nat) (S : List Int), S.length ≤ n → S = joinL (sp S).1 ++ (sp S).2
  | n, S, h => by
    cases hc : cutN S with
    | none => rw [sp_none hc]; rfl
    | some p =>
      have hl := cutN_len (a := p.1) (r := p.2) hc
      have he := cutN_eq (a := p.1) (r := p.2) hc
      rw [sp_some (a := p.1) (r := p.2) hc]
      cases n with
      | zero => omega
      | succ n =>
        have ih := sp_join n p.2 (by omega)
        show S = (p.1 ++ 13 :: 10 :: joinL (sp p.2).1) ++ (sp p.2).2
        rw [List.append_assoc, List.cons_append, List.cons_append, ← ih]
        exact he
theorem sp_both : ∀ (n : Nat) (S : List Int), S.length ≤ n → ∀ T : List Int, sp (joinL (sp S).1 ++ T) = ((sp S).1 ++ (sp T).1, (sp T).2)
  | n, S, h => by
    intro T
    cases hc : cutN S with
    | none =>
      rw [sp_none hc]
      show sp ([] ++ T) = ([] ++ (sp T).1, (sp T).2)
      rw [List.nil_append, List.nil_append]
    | some p =>
      have hl := cutN_len (a := p.1) (r := p.2) hc
      rw [sp_some (a := p.1) (r := p.2) hc]
      cases n with
      | zero => omega
      | succ n =>
        have ih := sp_both n p.2 (by omega) T
        show sp ((p.1 ++ 13 :: 10 :: joinL (sp p.2).1) ++ T) = ((p.1 :: (sp p.2).1) ++ (sp T).1, (sp T).2)
        rw [List.append_assoc, List.cons_append, List.cons_append, sp_some (cutN_more (a := p.1) (r := p.2) hc _), ih]
        rfl
theorem sp_len : ∀ (n : Nat) (S : List Int), S.length ≤ n → 2 * (sp S).1.length ≤ S.length ∧ (sp S).2.length ≤ S.length
  | n, S, h => by
    cases hc : cutN S with
    | none => rw [sp_none hc]; exact ⟨Nat.zero_le _, Nat.le_refl _⟩
    | some p =>
      have hl := cutN_len (a := p.1) (r := p.2) hc
      rw [sp_some (a := p.1) (r := p.2) hc]
      cases n with
      | zero => omega
      | succ n =>
        have ih := sp_len n p.2 (by omega)
        simp only [List.length_cons]
        omega
def okB (S : List Int) : Prop := ∀ x ∈ S, 0 ≤ x ∧ x < 256
theorem toU {x : Int} (h : 0 ≤ x ∧ x < 256) (n : Nat) (hn : n < 256) : (x.toNat.toUInt8 == UInt8.ofNat n) = decide (x = (n : Int)) := by
  obtain ⟨m, rfl⟩ := Int.eq_ofNat_of_zero_le h.1
  have hm : m < 256 := by omega
  rw [Bool.eq_iff_iff, beq_iff_eq, decide_eq_true_iff]
  constructor
  · intro e
    have := congrArg UInt8.toNat e
    simp at this
    omega
  · intro e
    have : m = n := by omega
    rw [this]
    rfl
theorem idx_cut : ∀ (S : List Int), okB S → match cutN S with
    | some p => Lib.index (Lib.bytesOf S) [13, 10] = (p.1.length : Int)
    | none => Lib.index (Lib.bytesOf S) [13, 10] = -1
  | [], _ => rfl
  | x :: t, h => by
    have hx := h x (List.mem_cons_self ..)
    have ht : okB t := fun y hy => h y (List.mem_cons_of_mem _ hy)
    have ih := idx_cut t ht
    have hb : Lib.bytesOf (x :: t) = x.toNat.toUInt8 :: Lib.bytesOf t := rfl
    have hp : ([13, 10] : List UInt8).isPrefixOf (x.toNat.toUInt8 :: Lib.bytesOf t) = decide (x = 13 ∧ t.head? = some 10) := by
      have h13 := toU hx 13 (by omega)
      cases t with
      | nil =>
        show (_ && false) = _
        rw [Bool.and_false, eq_comm, decide_eq_false_iff_not]
        rintro ⟨_, e⟩
        cases e
      | cons y t =>
        have hy := ht y (List.mem_cons_self ..)
        have h10 := toU hy 10 (by omega)
        show ((13 : UInt8) == x.toNat.toUInt8 && ((10 : UInt8) == y.toNat.toUInt8 && true)) = _
        have c1 : ((13 : UInt8) == x.toNat.toUInt8) = decide (x = 13) := by rw [Bool.beq_comm]; exact h13
        have c2 : ((10 : UInt8) == y.toNat.toUInt8) = decide (y = 10) := by rw [Bool.beq_comm]; exact h10
        rw [c1, c2, Bool.and_true, ← Bool.decide_and]
        exact decide_eq_decide.2 ⟨fun h => ⟨h.1, by rw [h.2]; rfl⟩, fun h => ⟨h.1, by have := h.2; simpa using this⟩⟩
    rw [hb]
    unfold cutN
    show match (if x = 13 ∧ t.head? = some 10 then some (([] : List Int), t.tail) else (cutN t).map fun p => (x :: p.1, p.2)) with
      | some p => (if ([13, 10] : List UInt8).isPrefixOf (x.toNat.toUInt8 :: Lib.bytesOf t) then (0 : Int) else if Lib.index (Lib.bytesOf t) [13, 10] == -1 then -1 else Lib.index (Lib.bytesOf t) [13, 10] + 1) = (p.1.length : Int)
      | none => (if ([13, 10] : List UInt8).isPrefixOf (x.toNat.toUInt8 :: Lib.bytesOf t) then (0 : Int) else if Lib.index (Lib.bytesOf t) [13, 10] == -1 then -1 else Lib.index (Lib.bytesOf t) [13, 10] + 1) = -1
    rw [hp]
    by_cases e : x = 13 ∧ t.head? = some 10
    · rw [if_pos e, decide_eq_true e]
      rfl
    · rw [if_neg e, decide_eq_false e]
      cases hc : cutN t with
      | none =>
        rw [hc] at ih
        simp only at ih
        rw [ih]
        rfl
      | some p =>
        rw [hc] at ih
        simp only at ih
        rw [ih]
        show (if false = true then (0 : Int) else if ((p.1.length : Int) == -1) = true then -1 else (p.1.length : Int) + 1) = _
        rw [if_neg (by simp), if_neg (by rw [beq_iff_eq]; omega)]
        simp

theorem str_size (a : List Int) : (strOfNums a).size = a.length := by
  show (strOfNums a).data.size = a.length
  simp [strOfNums]
theorem Cut_val (S : List Int) (hb : okB S) (hl : S.length ≤ 40000) : bytes_Cut.f S [13, 10] = some (match cutN S with | some p => (p.1, p.2, true) | none => (S, [], false)) := by
  have hi := idx_cut S hb
  have hI : bytes_Index.f S [13, 10] = some (Lib.index (Lib.bytesOf S) [13, 10]) := by
    unfold bytes_Index.f
    rw [if_pos]
    · rfl
    · refine ⟨rfl, by omega, ?_⟩
      rw [List.all_append, Bool.and_eq_true]
      exact ⟨List.all_eq_true.2 fun x hx => decide_eq_true (hb x hx), rfl⟩
  unfold bytes_Cut.f
  rw [hI, Option.bind_some]
  cases hc : cutN S with
  | none =>
    rw [hc] at hi
    simp only at hi
    rw [hi, if_neg (by decide)]
  | some p =>
    rw [hc] at hi
    simp only at hi
    have hlen := cutN_len (a := p.1) (r := p.2) hc
    have he := cutN_eq (a := p.1) (r := p.2) hc
    have hw : wrap64 ((p.1.length : Int) + (([13, 10] : List Int).length : Int)) = ((p.1.length + 2 : Nat) : Int) := by
      show wrap64 ((p.1.length : Int) + 2) = _
      rw [w64 _ (by omega)]; omega
    rw [hi, hw, if_pos (by omega), if_pos (by omega), if_pos (by omega), if_pos (by omega), if_pos (by omega), Int.toNat_natCast, Int.toNat_natCast]
    congr 2
    · conv => lhs; rw [he]
      rw [List.take_left']
      rfl
    · congr 1
      conv => lhs; rw [he]
      rw [show p.1 ++ 13 :: 10 :: p.2 = (p.1 ++ [13, 10]) ++ p.2 by simp, List.drop_left']
      simp
/-- What Split answers, behind the lines that it has. -/
def res (out : List ByteArray) : List (List Int) → List Int → List ByteArray × List Int × Int × Int
  | [], t => (out, t, 0, 0)
  | a :: l, t => if a.length > 4000 then ([], [], 1, (out.length : Int)) else res (out ++ [strOfNums a]) l t
theorem okB_drop {S a r : List Int} (hb : okB S) (h : S = a ++ 13 :: 10 :: r) : okB r := fun x hx => hb x (by rw [h]; simp [hx])
theorem split_loop : ∀ (n : Nat) (S : List Int), S.length ≤ n → okB S → ∀ out : List ByteArray, out.length + S.length ≤ 40000 → Ev (fun k => lines_Split.l0 k S out) (res out (sp S).1 (sp S).2)
  | n, S, h, hb => by
    intro out ho
    have hcv := Cut_val S hb (by omega)
    refine Ev.succ ?_
    unfold lines_Split.l0
    simp only [hcv, Option.bind_some]
    cases hc : cutN S with
    | none =>
      rw [sp_none hc]
      refine Ev.const fun k => ?_
      simp only
      rw [if_neg (by decide)]
      unfold slices_Clone_byte_byte.f
      rw [if_pos (by omega)]
      rfl
    | some p =>
      have hl := cutN_len (a := p.1) (r := p.2) hc
      have he := cutN_eq (a := p.1) (r := p.2) hc
      rw [sp_some (a := p.1) (r := p.2) hc]
      cases n with
      | zero => omega
      | succ n =>
        simp only [if_true]
        unfold res
        by_cases e : p.1.length > 4000
        · rw [if_pos e]
          refine Ev.const fun k => ?_
          rw [if_pos (by omega)]
        · rw [if_neg e]
          refine (split_loop n p.2 (by omega) (okB_drop hb he) (out ++ [strOfNums p.1]) (by rw [List.length_append]; simp only [List.length_cons, List.length_nil]; omega)).congr fun k => ?_
          rw [if_neg (by omega), if_pos (by omega)]
def splitV (S : List Int) : List ByteArray × List Int × Int × Int := if S.length > 40000 then ([], [], 1, -1) else res [] (sp S).1 (sp S).2
theorem Split_ev (S : List Int) (hb : okB S) : Ev (fun k => lines_Split.f k S) (splitV S) := by
  unfold lines_Split.f splitV
  by_cases e : S.length > 40000
  · rw [if_pos e]
    refine Ev.const fun k => ?_
    rw [if_pos (by omega)]
  · rw [if_neg e]
    refine (split_loop S.length S (Nat.le_refl _) hb [] (by simp; omega)).congr fun k => ?_
    rw [if_neg (by omega)]
theorem cutN_at : ∀ (S : List Int) (q : Nat), S[q]? = some 13 → S[q + 1]? = some 10 → (∀ j, j < q → ¬ (S[j]? = some 13 ∧ S[j + 1]? = some 10)) → cutN S = some (S.take q, S.drop (q + 2))
  | [], q, h, _, _ => by simp at h
  | x :: t, 0, h1, h2, _ => by
    have hx : x = 13 := by simpa using h1
    have ht : t.head? = some 10 := by rw [List.head?_eq_getElem?]; simpa using h2
    unfold cutN
    rw [if_pos ⟨hx, ht⟩]
    simp
  | x :: t, q + 1, h1, h2, hno => by
    have h0 := hno 0 (by omega)
    have ih := cutN_at t q (by simpa using h1) (by simpa using h2) (fun j hj h => hno (j + 1) (by omega) (by simpa using h))
    unfold cutN
    rw [if_neg, ih]
    · rfl
    · rintro ⟨e1, e2⟩
      exact h0 ⟨by simp [e1], by rw [List.head?_eq_getElem?] at e2; simpa using e2⟩
theorem cutN_no : ∀ (S : List Int), (∀ j : Nat, ¬ (S[j]? = some 13 ∧ S[j + 1]? = some 10)) → cutN S = none
  | [], _ => rfl
  | x :: t, hno => by
    have h0 := hno 0
    have ih := cutN_no t (fun j h => hno (j + 1) (by simpa using h))
    unfold cutN
    rw [if_neg, ih]
    · rfl
    · rintro ⟨e1, e2⟩
      exact h0 ⟨by simp [e1], by rw [List.head?_eq_getElem?] at e2; simpa using e2⟩
theorem rd_get {l : List Int} {i : Nat} (h : i < l.length) : rd l (i : Int) = l[i] := by
  unfold rd
  rw [Int.toNat_natCast, List.getD_eq_getElem?_getD, List.getElem?_eq_getElem h]
  rfl
/-- The state behind a byte, what it adds, and whether the data end. -/
def nx (s c : Int) : Int × List Int × Bool :=
  if s = 0 ∧ c = 46 then (1, [], false) else if s = 1 ∧ c = 13 then (2, [], false) else if s = 2 ∧ c = 10 then (0, [], true) else if s = 4 ∧ c = 10 then (0, [c], false) else
  ((if c = 13 then 4 else 3), (if s = 2 then [13] else []) ++ [c], false)
theorem Next3 (k : Nat) (s c : Int) (b : Bool) : lines_Next.j3 (k + 1) s c [] b = some (if b = true then (0, [c], false) else ((if c = 13 then 4 else 3), (if s = 2 then [13] else []) ++ [c], false)) := by
  simp only [lines_Next.j3]
  cases b with
  | true => simp
  | false =>
    by_cases h2 : s = 2
    · by_cases h : c = 13 <;> simp [h2, h]
    · by_cases h : c = 13 <;> simp [h2, h]
theorem Next_val (k : Nat) (s c : Int) : lines_Next.f (k + 4) s c = some (nx s c) := by
  have e3 : ∀ b, lines_Next.j3 (k + 1) s c [] b = some (if b = true then (0, [c], false) else ((if c = 13 then 4 else 3), (if s = 2 then [13] else []) ++ [c], false)) := fun b => Next3 k s c b
  have e2 : ∀ b, lines_Next.j2 (k + 2) s c [] b = some (if b = true then (0, [], true) else if s = 4 ∧ c = 10 then (0, [c], false) else ((if c = 13 then 4 else 3), (if s = 2 then [13] else []) ++ [c], false)) := by
    intro b
    simp only [lines_Next.j2, e3]
    cases b with
    | true => simp
    | false =>
      by_cases h4 : s = 4
      · by_cases h : c = 10 <;> simp [h4, h]
      · simp [h4]
  have e1 : ∀ b, lines_Next.j1 (k + 3) s c [] b = some (if b = true then (2, [], false) else if s = 2 ∧ c = 10 then (0, [], true) else if s = 4 ∧ c = 10 then (0, [c], false) else ((if c = 13 then 4 else 3), (if s = 2 then [13] else []) ++ [c], false)) := by
    intro b
    simp only [lines_Next.j1, e2]
    cases b with
    | true => simp
    | false =>
      by_cases h2 : s = 2
      · by_cases h : c = 10 <;> simp [h2, h]
      · simp [h2]
  have e0 : ∀ b, lines_Next.j0 (k + 4) s c [] b = some (if b = true then (1, [], false) else if s = 1 ∧ c = 13 then (2, [], false) else if s = 2 ∧ c = 10 then (0, [], true) else if s = 4 ∧ c = 10 then (0, [c], false) else ((if c = 13 then 4 else 3), (if s = 2 then [13] else []) ++ [c], false)) := by
    intro b
    simp only [lines_Next.j0, e1]
    cases b with
    | true => simp
    | false =>
      by_cases h1 : s = 1
      · by_cases h : c = 13 <;> simp [h1, h]
      · simp [h1]
  unfold lines_Next.f nx
  rw [e0, e0]
  by_cases h0 : s = 0
  · by_cases h : c = 46 <;> simp [h0, h]
  · simp [h0]
theorem Next_ev (s c : Int) : Ev (fun k => lines_Next.f k s c) (nx s c) := ⟨4, fun k hk => by
  obtain ⟨j, rfl⟩ : ∃ j, k = j + 4 := ⟨k - 4, by omega⟩
  exact Next_val j s c⟩
theorem nx_len (s c : Int) : (nx s c).2.1.length ≤ 2 := by
  unfold nx
  repeat' split
  all_goals simp
/-- What Unstuff answers. -/
def un : List Int → Int → List Int → Int → List Int × Int × Bool × Int × Int
  | [], _, _, _ => ([], 0, false, 0, 0)
  | c :: l, s, out, i => if (out ++ (nx s c).2.1).length > 12000 then ([], 0, false, 1, -2) else if (nx s c).2.2 = true then (out ++ (nx s c).2.1, i + 1, true, 0, 0) else un l (nx s c).1 (out ++ (nx s c).2.1) (i + 1)
theorem un_loop (b : List Int) (hl : b.length ≤ 40000) : ∀ d i, i + d = b.length → ∀ (s : Int) (out : List Int), out.length ≤ 12000 → Ev (fun k => lines_Unstuff.l0 k out s b (b.length : Int) (i : Int)) (un (b.drop i) s out (i : Int))
  | 0, i, h => by
    intro s out ho
    rw [List.drop_eq_nil_of_le (by omega)]
    refine Ev.succ (Ev.const fun k => ?_)
    unfold lines_Unstuff.l0
    rw [if_neg (by omega)]
    rfl
  | d + 1, i, h => by
    intro s out ho
    have hi : i < b.length := by omega
    have hw : wrap64 ((i : Int) + 1) = (i : Int) + 1 := w64 _ (by omega)
    have hn := nx_len s b[i]
    rw [List.drop_eq_getElem_cons hi]
    unfold un
    refine Ev.succ ?_
    unfold lines_Unstuff.l0
    simp only [rd_get hi, hw, if_pos (show (i : Int) < (b.length : Int) by omega), if_pos (show (0 : Int) ≤ (i : Int) by omega)]
    refine Ev.bind (Next_ev s b[i]) ?_
    simp only [if_pos (show out.length + (nx s b[i]).2.1.length < 140737488355328 by omega), Option.bind_some]
    by_cases e : (out ++ (nx s b[i]).2.1).length > 12000
    · rw [if_pos e]
      refine Ev.const fun k => ?_
      rw [if_pos (by omega)]
    rw [if_neg e]
    simp only [if_neg (show ¬ ((out ++ (nx s b[i]).2.1).length : Int) > 12000 by omega)]
    by_cases e2 : (nx s b[i]).2.2 = true
    · rw [if_pos e2]
      refine Ev.const fun k => ?_
      rw [if_pos e2]
    · rw [if_neg e2]
      have := un_loop b hl d (i + 1) (by omega) (nx s b[i]).1 (out ++ (nx s b[i]).2.1) (by omega)
      refine this.congr fun k => ?_
      rw [if_neg e2]
      rfl
theorem Unstuff_ev (b : List Int) : Ev (fun k => lines_Unstuff.f k b) (if b.length > 40000 then ([], 0, false, 1, -1) else un b 0 [] 0) := by
  unfold lines_Unstuff.f
  by_cases e : b.length > 40000
  · rw [if_pos e]
    refine Ev.const fun k => ?_
    rw [if_pos (by omega)]
  · rw [if_neg e]
    refine (un_loop b (by omega) b.length 0 (by omega) 0 [] (by simp)).congr fun k => ?_
    rw [if_neg (by omega)]
    rfl

theorem okB_small (l : List Int) (h : (l.all fun x => decide (0 ≤ x ∧ x < 256)) = true) : okB l := fun x hx => of_decide_eq_true (List.all_eq_true.1 h x hx)
theorem splits_ev : Ev (fun k => posthouselaw3_splits.f k) true := by
  have P1 : Ev (fun k => lines_Split.f k [97, 13, 10, 98]) ([⟨#[97]⟩], [98], 0, 0) := by
    refine (Split_ev [97, 13, 10, 98] (okB_small _ (by decide))).val ?_
    decide +kernel
  have P2 : lines_Stuff.f [] = some ([46, 13, 10], 0, 0) := rfl
  have P3 : Ev (fun k => lines_Unstuff.f k [46, 46, 13, 10, 46, 13, 10, 120]) ([46, 13, 10], 7, true, 0, 0) := by
    refine (Unstuff_ev _).val ?_
    rw [if_neg (by decide)]
    decide +kernel
  have P4 : lines_Stuff.f [97] = some ([], 5, -2) := rfl
  unfold posthouselaw3_splits.f
  refine Ev.bind P1 ?_
  simp only [P2, Option.bind_some]
  refine Ev.bind P3 ?_
  simp only [P4, Option.bind_some, if_true, posthouseref3_At.f, BEq.rfl, Bool.and_self]
  refine Ev.bind (Strings_ev _ _ (by decide)) ?_
  rw [decide_eq_true rfl]
  simp only [if_true]
  refine Ev.const fun k => ?_
  rw [if_pos (by decide +kernel), if_pos (by decide +kernel), if_pos (by decide +kernel)]
theorem okB_wf {l : List Int} (h : XOpen.WFs 1 (fun x_ : Int => (Lit.int .u8 x_).wf = true) l) : okB l := fun x hx => by
  have := h.2 x hx
  have h2 : 0 ≤ x ∧ x ≤ 255 := by simpa [Lit.wf, IntKind.min, IntKind.max, IntKind.signed, IntKind.bits] using this
  omega

theorem res_ok : ∀ (l : List (List Int)) (out : List ByteArray) (t : List Int), (res out l t).2.2.1 = 0 → res out l t = (out ++ l.map strOfNums, t, 0, 0) ∧ ∀ a ∈ l, a.length ≤ 4000
  | [], out, t, _ => ⟨by simp [res], fun a h => by cases h⟩
  | a :: l, out, t, h => by
    unfold res at h ⊢
    by_cases e : a.length > 4000
    · rw [if_pos e] at h; cases h
    · rw [if_neg e] at h ⊢
      obtain ⟨h1, h2⟩ := res_ok l (out ++ [strOfNums a]) t h
      refine ⟨by rw [h1]; simp, fun x hx => ?_⟩
      rcases List.mem_cons.1 hx with rfl | hx
      · omega
      · exact h2 x hx
theorem res_bad : ∀ (l : List (List Int)) (out : List ByteArray) (t : List Int), (res out l t).2.2.1 ≠ 0 → (res out l t).1 = []
  | [], out, t, h => absurd rfl h
  | a :: l, out, t, h => by
    unfold res at h ⊢
    by_cases e : a.length > 4000
    · rw [if_pos e]
    · rw [if_neg e] at h ⊢
      exact res_bad l _ t h
theorem res_all : ∀ (l : List (List Int)) (out : List ByteArray) (t : List Int), (∀ a ∈ l, a.length ≤ 4000) → res out l t = (out ++ l.map strOfNums, t, 0, 0)
  | [], out, t, _ => by simp [res]
  | a :: l, out, t, h => by
    unfold res
    rw [if_neg (by have := h a (List.mem_cons_self ..); omega), res_all l _ t (fun x hx => h x (List.mem_cons_of_mem _ hx))]
    simp
theorem bytesOf_str {a : List Int} (h : okB a) : bytesOf (strOfNums a) = a := by
  unfold bytesOf strOfNums
  simp only [List.map_map]
  conv => rhs; rw [← List.map_id a]
  refine List.map_congr_left fun x hx => ?_
  have := h x hx
  obtain ⟨m, rfl⟩ := Int.eq_ofNat_of_zero_le this.1
  simp
  omega
theorem joinL_snoc (l : List (List Int)) (a : List Int) : joinL (l ++ [a]) = joinL l ++ (a ++ [13, 10]) := by
  induction l with
  | nil => simp [joinL]
  | cons x l ih => simp [joinL, ih]
theorem joinL_len : ∀ (l : List (List Int)), 2 * l.length ≤ (joinL l).length
  | [] => Nat.zero_le _
  | a :: l => by
    have := joinL_len l
    simp [joinL]; omega
theorem lrdO {l : List ByteArray} {i : Nat} {s : ByteArray} (h : l[i]? = some s) : rdOf ByteArray.empty l (i : Int) = s := by
  obtain ⟨h1, h2⟩ := List.getElem?_eq_some_iff.1 h
  rw [rdO_get h1, h2]
theorem strApp (a b : List Int) : strOfNums a ++ strOfNums b = strOfNums (a ++ b) := by
  apply ByteArray.ext
  rw [ByteArray.data_append]
  simp [strOfNums]
/-- What the law says behind its loop. -/
def tailJ (k : Nat) (x0 x1 : List Int) (x5 : List ByteArray) (x6 : List Int) (x8 : List ByteArray) (x9 x11 : List Int) : Option Bool :=
  if (strOfNums x11).size + (strOfNums x6).size ≤ 9223372036854775807 then (if ((strOfNums x11) ++ (strOfNums x6)).toList = (strOfNums x0).toList then (if (x6.length : Int) > 0 then (some true) else (if x11.length + x1.length < 140737488355328 then ((lines_Split.f k (x11 ++ x1)).bind fun bt287 => (if ([] : List ByteArray).length + x5.length < 8796093022208 then ((some (([] : List ByteArray) ++ x5 : List ByteArray)).bind fun y296 => (if y296.length + x8.length < 8796093022208 then (if bt287.2.2.1 = 0 then ((posthouseref3_Strings.f k bt287.1 (y296 ++ x8)).bind fun t302 => (if t302 = true then (some ((strOfNums bt287.2.1).toList == (strOfNums x9).toList)) else (some false))) else (some false)) else (none))) else (none))) else (none))) else (some false)) else (none)
theorem join_loop (x0 x1 x6 x9 : List Int) (x8 : List ByteArray) (L : List (List Int)) (hL : (joinL L).length ≤ 40000) (hok : ∀ a ∈ L, okB a) (hT : Ev (fun k => tailJ k x0 x1 (L.map strOfNums) x6 x8 x9 (joinL L)) true) : ∀ (suf pre : List (List Int)), pre ++ suf = L →
    Ev (fun k => posthouselaw3_LinesJoin.l0 k x0 x1 (L.map strOfNums) x6 x8 x9 (joinL pre) (pre.length : Int)) true
  | [], pre, h => by
    rw [List.append_nil] at h
    subst h
    refine Ev.succ ?_
    refine hT.congr fun k => ?_
    simp only [posthouselaw3_LinesJoin.l0]
    rw [if_neg (by simp)]
    rfl
  | a :: s, pre, h => by
    have ih := join_loop x0 x1 x6 x9 x8 L hL hok hT s (pre ++ [a]) (by rw [← h]; simp)
    have hlen : (L.map strOfNums).length = pre.length + (s.length + 1) := by rw [← h]; simp
    have hget : rdOf ByteArray.empty (L.map strOfNums) (pre.length : Int) = strOfNums a := lrdO (by rw [← h]; simp)
    have hjl := joinL_len L
    have hLl : L.length = pre.length + (s.length + 1) := by rw [← h]; simp
    have hw : wrap64 ((pre.length : Int) + 1) = ((pre ++ [a]).length : Int) := by
      rw [w64 _ (by omega)]; simp
    have ha : okB a := hok a (by rw [← h]; simp)
    have hj : joinL L = joinL pre ++ (a ++ 13 :: 10 :: joinL s) := by
      rw [← h]
      clear ih hget hlen hw ha hok hT hL hjl hLl h
      induction pre with
      | nil => rfl
      | cons x pre ih => simp [joinL, ih]
    have hjn : (joinL pre).length + a.length + 2 ≤ 40000 := by
      rw [hj] at hL
      simp at hL
      omega
    refine Ev.succ ?_
    refine ih.congr fun k => ?_
    simp only [posthouselaw3_LinesJoin.l0, hget, str_size, bytesOf_str ha, Option.bind_some, hw]
    rw [if_pos (by rw [hlen]; omega), if_pos (by omega), if_pos (by omega), if_pos (by simp; omega), joinL_snoc]
    simp
theorem sp_okB : ∀ (n : Nat) (S : List Int), S.length ≤ n → okB S → ∀ a ∈ (sp S).1, okB a
  | n, S, h, hb => by
    intro a ha
    cases hc : cutN S with
    | none => rw [sp_none hc] at ha; cases ha
    | some p =>
      have hl := cutN_len (a := p.1) (r := p.2) hc
      have he := cutN_eq (a := p.1) (r := p.2) hc
      rw [sp_some (a := p.1) (r := p.2) hc] at ha
      cases n with
      | zero => omega
      | succ n =>
        rcases List.mem_cons.1 ha with rfl | ha
        · exact fun x hx => hb x (by rw [he]; simp [hx])
        · exact sp_okB n p.2 (by omega) (okB_drop hb he) a ha
theorem pure : posthouselaw3_LinesJoin.PureX := by
  intro a b hwa hwb
  have ha := okB_wf hwa
  have hb := okB_wf hwb
  have hla : a.length ≤ 140737488355328 := by have := hwa.1; omega
  have hlb : b.length ≤ 140737488355328 := by have := hwb.1; omega
  have hjt : ∀ (x5 : List ByteArray) (x6 : List Int) (x8 : List ByteArray) (x9 : List Int) (f g : Int), (f = 0 ∨ x5 = []) → Ev (fun k => posthouselaw3_LinesJoin.j0 k a b x5 x6 x8 x9 true f g) true := by
    intro x5 x6 x8 x9 f g hf
    refine Ev.succ ?_
    have hbb : Ev (fun k => (posthouselaw3_splits.f k).bind fun t273 => (if t273 = true then (if f = 0 then (some true) else (some ((x5.length : Int) == 0))) else (some false))) true := by
      refine Ev.bind splits_ev (Ev.const fun k => ?_)
      simp only [if_true]
      by_cases e : f = 0
      · rw [if_pos e]
      · rw [if_neg e]
        rcases hf with h | rfl
        · exact absurd h e
        · rfl
    refine hbb.congr fun k => ?_
    simp only [posthouselaw3_LinesJoin.j0]
    simp
  refine Ev.ex ?_
  unfold posthouselaw3_LinesJoin.f
  refine Ev.bind (Split_ev a ha) (Ev.bind (Split_ev b hb) (Ev.bind splits_ev ?_))
  simp only [if_true]
  have hw : wrap64 ((a.length : Int) + (b.length : Int)) = (a.length : Int) + (b.length : Int) := w64 _ (by omega)
  rw [hw]
  have hbad : ∀ S : List Int, (splitV S).2.2.1 ≠ 0 → (splitV S).1 = [] := by
    intro S h
    unfold splitV at h ⊢
    by_cases e : S.length > 40000
    · rw [if_pos e]
    · rw [if_neg e] at h ⊢
      exact res_bad _ _ _ h
  by_cases e1 : (splitV a).2.2.1 = 0
  · simp only [if_pos e1]
    by_cases e2 : (splitV b).2.2.1 = 0
    · simp only [if_pos e2]
      by_cases e3 : a.length + b.length > 40000
      · rw [decide_eq_true (by omega)]
        exact hjt _ _ _ _ _ _ (.inl e1)
      · rw [decide_eq_false (by omega)]
        have ea : splitV a = ((sp a).1.map strOfNums, (sp a).2, 0, 0) := by
          unfold splitV at e1 ⊢
          rw [if_neg (by omega)] at e1 ⊢
          have := (res_ok _ _ _ e1).1
          simpa using this
        have hal : ∀ x ∈ (sp a).1, x.length ≤ 4000 := by
          unfold splitV at e1
          rw [if_neg (by omega)] at e1
          exact (res_ok _ _ _ e1).2
        have eb : splitV b = ((sp b).1.map strOfNums, (sp b).2, 0, 0) := by
          unfold splitV at e2 ⊢
          rw [if_neg (by omega)] at e2 ⊢
          have := (res_ok _ _ _ e2).1
          simpa using this
        have hbl : ∀ x ∈ (sp b).1, x.length ≤ 4000 := by
          unfold splitV at e2
          rw [if_neg (by omega)] at e2
          exact (res_ok _ _ _ e2).2
        rw [ea, eb]
        have hj := sp_join a.length a (Nat.le_refl _)
        have hla2 := sp_len a.length a (Nat.le_refl _)
        have hlb2 := sp_len b.length b (Nat.le_refl _)
        have hjl : (joinL (sp a).1).length + (sp a).2.length = a.length := by
          conv => rhs; rw [hj]
          rw [List.length_append]
        have hT : Ev (fun k => tailJ k a b ((sp a).1.map strOfNums) (sp a).2 ((sp b).1.map strOfNums) (sp b).2 (joinL (sp a).1)) true := by
          unfold tailJ
          have hs : (strOfNums (joinL (sp a).1) ++ strOfNums (sp a).2).toList = (strOfNums a).toList := by rw [strApp, ← hj]
          by_cases e4 : ((sp a).2.length : Int) > 0
          · refine Ev.const fun k => ?_
            rw [if_pos (by rw [str_size, str_size]; omega), if_pos hs, if_pos e4]
          · have hz : (sp a).2 = [] := List.eq_nil_of_length_eq_zero (by omega)
            have hja : joinL (sp a).1 = a := by
              have := hj
              rw [hz, List.append_nil] at this
              exact this.symm
            have hsb := sp_both a.length a (Nat.le_refl _) b
            have hV : splitV (joinL (sp a).1 ++ b) = ((sp a).1.map strOfNums ++ (sp b).1.map strOfNums, (sp b).2, 0, 0) := by
              unfold splitV
              rw [if_neg (by rw [List.length_append]; omega), hsb]
              simp only
              rw [res_all _ _ _ (fun x hx => by
                rcases List.mem_append.1 hx with hx | hx
                · exact hal x hx
                · exact hbl x hx)]
              simp
            have hEv := Split_ev (joinL (sp a).1 ++ b) (by
              rw [hja]
              intro x hx
              rcases List.mem_append.1 hx with hx | hx
              · exact ha x hx
              · exact hb x hx)
            rw [hV] at hEv
            simp only [if_pos (show (strOfNums (joinL (sp a).1)).size + (strOfNums (sp a).2).size ≤ 9223372036854775807 by rw [str_size, str_size]; omega), if_pos hs, if_neg e4, if_pos (show (joinL (sp a).1).length + b.length < 140737488355328 by omega)]
            refine Ev.bind hEv ?_
            simp only [List.nil_append, Option.bind_some, if_true, if_pos (show ([] : List ByteArray).length + ((sp a).1.map strOfNums).length < 8796093022208 by simp; omega), if_pos (show ((sp a).1.map strOfNums).length + ((sp b).1.map strOfNums).length < 8796093022208 by simp; omega)]
            refine Ev.bind (Strings_ev _ _ (by simp; omega)) ?_
            rw [decide_eq_true rfl]
            simp only [if_true, BEq.rfl]
            exact Ev.some_ _
        have hloop := join_loop a b (sp a).2 (sp b).2 ((sp b).1.map strOfNums) (sp a).1 (by omega) (sp_okB a.length a (Nat.le_refl _) ha) hT (sp a).1 [] rfl
        refine Ev.succ ?_
        refine hloop.congr fun k => ?_
        simp only [posthouselaw3_LinesJoin.j0]
        simp [joinL]
    · simp only [if_neg e2]
      exact hjt _ _ _ _ _ _ (.inl e1)
  · simp only [if_neg e1]
    exact hjt _ _ _ _ _ _ (.inr (hbad a e1))

end Go.Proofs.Ytmicgojonpdelaa.XLih.PLinesJoin
