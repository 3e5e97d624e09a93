/- How data are sent and received is as specified: for all data of bulk at most 1048576 the law's own function answers true. -/
import Derived.Test.YtmicgojonpdelaaXLidSLinesDataMatchSpec
import Derived.Test.YtmicgojonpdelaaVLida
namespace Go.Proofs.Ytmicgojonpdelaa.XLid.PLinesDataMatchSpec
open Go Go.RowKit Go.Proofs.YtmicgojonpdelaaW.PrintWords Go.Proofs.Ytmicgojonpdelaa.XLid
set_option linter.unusedVariables false
set_option linter.unusedSimpArgs false
/-- From some number of rounds on. -/
def Ev {β : Type} (f : Nat → Option β) (v : β) : Prop := ∃ K, ∀ k, K ≤ k → f k = some v
theorem Ev.const {β : Type} {f : Nat → Option β} {v : β} (h : ∀ k, f k = some v) : Ev f v := ⟨0, fun k _ => h k⟩
theorem Ev.some_ {β : Type} (v : β) : Ev (fun _ => some v) v := .const fun _ => rfl
theorem Ev.bind {α β : Type} {f : Nat → Option α} {g : Nat → α → Option β} {a : α} {v : β} (h : Ev f a) (h2 : Ev (fun k => g k a) v) : Ev (fun k => (f k).bind (g k)) v := by
  obtain ⟨K, hK⟩ := h
  obtain ⟨M, hM⟩ := h2
  refine ⟨max K M, fun k hk => ?_⟩
  show (f k).bind (g k) = some v
  rw [hK k (by omega)]
  exact hM k (by omega)
theorem Ev.succ {β : Type} {f : Nat → Option β} {v : β} (h : Ev (fun k => f (k + 1)) v) : Ev f v := by
  obtain ⟨K, hK⟩ := h
  refine ⟨K + 1, fun k hk => ?_⟩
  obtain ⟨k, rfl⟩ : ∃ j, k = j + 1 := ⟨k - 1, by omega⟩
  exact hK k (by omega)
theorem Ev.congr {β : Type} {f g : Nat → Option β} {v : β} (h : Ev f v) (e : ∀ k, g k = f k) : Ev g v := by
  obtain ⟨K, hK⟩ := h
  exact ⟨K, fun k hk => (e k).trans (hK k hk)⟩
theorem Ev.val {β : Type} {f : Nat → Option β} {v v' : β} (h : Ev f v) (e : v = v') : Ev f v' := e ▸ h
theorem Ev.ex {β : Type} {f : Nat → Option β} {v : β} (h : Ev f v) : ∃ k, f k = some v := by
  obtain ⟨K, hK⟩ := h
  exact ⟨K, hK K (Nat.le_refl _)⟩
theorem w64 (n : Int) (h : -9223372036854775808 ≤ n ∧ n ≤ 9223372036854775807) : wrap64 n = n := by unfold wrap64; omega
/-- A text's bytes, as natural numbers. -/
def by_ (a : ByteArray) : List Nat := a.data.toList.map UInt8.toNat
theorem by_len (a : ByteArray) : (by_ a).length = a.size := by unfold by_; rw [List.length_map]; exact Array.length_toList
theorem by_lt (a : ByteArray) : ∀ n ∈ by_ a, n < 256 := by
  intro n hn
  obtain ⟨b, _, rfl⟩ := List.mem_map.1 hn
  exact b.toNat_lt
theorem bt_by (a : ByteArray) (i : Nat) (h : i < a.size) : bt a i = ((by_ a)[i]'(by rw [by_len]; exact h) : Nat) := by
  unfold bt
  rw [dif_pos (by simpa using h)]
  simp [by_]
  rfl

theorem tl_iff {a b : ByteArray} : a.toList = b.toList ↔ a = b := by
  constructor
  · intro h
    rw [ByteArray.toList_eq, ByteArray.toList_eq] at h
    exact Go.WideShapes.bytes_inj h
  · rintro rfl; rfl
theorem rdO_get {l : List ByteArray} {i : Nat} (h : i < l.length) : rdOf ByteArray.empty l (i : Int) = l[i] := by
  unfold rdOf
  rw [Int.toNat_natCast, List.getD_eq_getElem?_getD, List.getElem?_eq_getElem h]
  rfl
theorem strings_loop (l m : List ByteArray) (hl : l.length ≤ 8796093022208) (he : l.length = m.length) : ∀ d i, i + d = l.length → Ev (fun k => posthouseref3_Strings.l0 k l m (i : Int)) (decide (l.drop i = m.drop i))
  | 0, i, h => by
    rw [List.drop_eq_nil_of_le (by omega), List.drop_eq_nil_of_le (by omega)]
    refine Ev.succ (Ev.const fun k => ?_)
    unfold posthouseref3_Strings.l0
    rw [if_neg (by omega)]
    rfl
  | d + 1, i, h => by
    have h1 := strings_loop l m hl he d (i + 1) (by omega)
    have hi : i < l.length := by omega
    have hj : i < m.length := by omega
    have hw : wrap64 ((i : Int) + 1) = ((i + 1 : Nat) : Int) := by rw [w64 _ (by omega)]; omega
    rw [List.drop_eq_getElem_cons hi, List.drop_eq_getElem_cons hj]
    refine Ev.succ ?_
    unfold posthouseref3_Strings.l0
    by_cases e : l[i] = m[i]
    · refine (h1.congr fun k => ?_).val ?_
      · rw [if_pos (by omega), if_pos (by omega), if_pos (by omega), rdO_get hi, rdO_get hj, if_pos (tl_iff.2 e), hw]
      · rw [Bool.eq_iff_iff, decide_eq_true_iff, decide_eq_true_iff, e]
        exact ⟨fun h => by rw [h], fun h => (List.cons.inj h).2⟩
    · rw [decide_eq_false (fun h => e (List.cons.inj h).1)]
      refine Ev.const fun k => ?_
      rw [if_pos (by omega), if_pos (by omega), if_pos (by omega), rdO_get hi, rdO_get hj, if_neg (fun h => e (tl_iff.1 h))]
theorem Strings_ev (l m : List ByteArray) (hl : l.length ≤ 8796093022208) : Ev (fun k => posthouseref3_Strings.f k l m) (decide (l = m)) := by
  unfold posthouseref3_Strings.f
  by_cases he : l.length = m.length
  · have := strings_loop l m hl he l.length 0 (by omega)
    rw [List.drop_zero, List.drop_zero] at this
    refine this.congr fun k => ?_
    rw [if_pos (by omega)]
    rfl
  · rw [decide_eq_false (fun h => he (by rw [h]))]
    refine Ev.const fun k => ?_
    rw [if_neg (by omega)]

/-- The first line and what stands behind its end. -/
def cutN : List Int → Option (List Int × List Int)
  | [] => none
  | x :: r => if x = 13 ∧ r.head? = some 10 then some ([], r.tail) else (cutN r).map fun p => (x :: p.1, p.2)
theorem cutN_eq : ∀ {S a r : List Int}, cutN S = some (a, r) → S = a ++ 13 :: 10 :: r
  | [], a, r, h => by cases h
  | x :: t, a, r, h => by
    unfold cutN at h
    by_cases e : x = 13 ∧ t.head? = some 10
    · rw [if_pos e] at h
      obtain ⟨rfl, e2⟩ := e
      cases h
      cases t with
      | nil => cases e2
      | cons y t => cases e2; rfl
    · rw [if_neg e] at h
      cases hc : cutN t with
      | none => rw [hc] at h; cases h
      | some p =>
        rw [hc] at h
        cases h
        rw [cutN_eq (a := p.1) (r := p.2) hc]
        rfl
theorem cutN_more : ∀ {S a r : List Int}, cutN S = some (a, r) → ∀ X : List Int, cutN (a ++ 13 :: 10 :: X) = some (a, X)
  | [], a, r, h => by cases h
  | x :: t, a, r, h => by
    intro X
    unfold cutN at h
    by_cases e : x = 13 ∧ t.head? = some 10
    · rw [if_pos e] at h
      cases h
      show cutN (13 :: 10 :: X) = _
      unfold cutN
      rw [if_pos ⟨rfl, rfl⟩]
      rfl
    · rw [if_neg e] at h
      cases hc : cutN t with
      | none => rw [hc] at h; cases h
      | some p =>
        rw [hc] at h
        cases h
        have ih := cutN_more (a := p.1) (r := p.2) hc X
        have ht := cutN_eq (a := p.1) (r := p.2) hc
        show cutN (x :: (p.1 ++ 13 :: 10 :: X)) = _
        unfold cutN
        rw [if_neg, ih]
        · rfl
        · rintro ⟨e1, e2⟩
          apply e
          refine ⟨e1, ?_⟩
          rw [ht]
          cases hp : p.1 with
          | nil => rw [hp] at e2; cases e2
          | cons y q => rw [hp] at e2; exact e2
theorem cutN_len {S a r : List Int} (h : cutN S = some (a, r)) : S.length = a.length + 2 + r.length := by
  rw [cutN_eq h]; simp; omega
/-- The lines of a stream and the rest. -/
def spf : Nat → List Int → List (List Int) × List Int
  | 0, S => ([], S)
  | n + 1, S => match cutN S with
    | none => ([], S)
    | some p => (p.1 :: (spf n p.2).1, (spf n p.2).2)
theorem spf_more : ∀ (n m : Nat) (S : List Int), S.length ≤ n → S.length ≤ m → spf n S = spf m S
  | 0, 0, S, _, _ => rfl
  | 0, m + 1, S, h, _ => by
    obtain rfl : S = [] := List.eq_nil_of_length_eq_zero (by omega)
    rfl
  | n + 1, 0, S, _, h => by
    obtain rfl : S = [] := List.eq_nil_of_length_eq_zero (by omega)
    rfl
  | n + 1, m + 1, S, h1, h2 => by
    unfold spf
    cases hc : cutN S with
    | none => rfl
    | some p =>
      have := cutN_len (a := p.1) (r := p.2) hc
      simp only
      rw [spf_more n m p.2 (by omega) (by omega)]
def sp (S : List Int) : List (List Int) × List Int := spf S.length S
theorem sp_none {S : List Int} (h : cutN S = none) : sp S = ([], S) := by
  unfold sp
  cases hl : S.length with
  | zero => rfl
  | succ n => unfold spf; rw [h]
theorem sp_some {S a r : List Int} (h : cutN S = some (a, r)) : sp S = (a :: (sp r).1, (sp r).2) := by
  have hl := cutN_len h
  unfold sp
  obtain ⟨n, hn⟩ : ∃ n, S.length = n + 1 := ⟨S.length - 1, by omega⟩
  rw [hn]
  conv => lhs; unfold spf
  rw [h]
  simp only
  rw [spf_more n r.length r (by omega) (Nat.le_refl _)]
/-- The stream that lines make. -/
def joinL : List (List Int) → List Int
  | [] => []
  | a :: l => a ++ 13 :: 10 :: joinL l
theorem sp_join : ∀ (n : Nat) (S : List Int), S.length ≤ n → S = joinL (sp S).1 ++ (sp S).2
  | n, S, h => by
    cases hc : cutN S with
    | none => rw [sp_none hc]; rfl
    | some p =>
      have hl := cutN_len (a := p.1) (r := p.2) hc
      have he := cutN_eq (a := p.1) (r := p.2) hc
      rw [sp_some (a := p.1) (r := p.2) hc]
      cases n with
      | zero => omega
      | succ n =>
        have ih := sp_join n p.2 (by omega)
        show S = (p.1 ++ 13 :: 10 :: joinL (sp p.2).1) ++ (sp p.2).2
        rw [List.append_assoc, List.cons_append, List.cons_append, ← ih]
        exact he
theorem sp_both : ∀ (n : Nat) (S : List Int), S.length ≤ n → ∀ T : List Int, sp (joinL (sp S).1 ++ T) = ((sp S).1 ++ (sp T).1, (sp T).2)
  | n, S, h => by
    intro T
    cases hc : cutN S with
    | none =>
      rw [sp_none hc]
      show sp ([] ++ T) = ([] ++ (sp T).1, (sp T).2)
      rw [List.nil_append, List.nil_append]
    | some p =>
      have hl := cutN_len (a := p.1) (r := p.2) hc
      rw [sp_some (a := p.1) (r := p.2) hc]
      cases n with
      | zero => omega
      | succ n =>
        have ih := sp_both n p.2 (by omega) T
        show sp ((p.1 ++ 13 :: 10 :: joinL (sp p.2).1) ++ T) = ((p.1 :: (sp p.2).1) ++ (sp T).1, (sp T).2)
        rw [List.append_assoc, List.cons_append, List.cons_append, sp_some (cutN_more (a := p.1) (r := p.2) hc _), ih]
        rfl
theorem sp_len : ∀ (n : Nat) (S : List Int), S.length ≤ n → 2 * (sp S).1.length ≤ S.length ∧ (sp S).2.length ≤ S.length
  | n, S, h => by
    cases hc : cutN S with
    | none => rw [sp_none hc]; exact ⟨Nat.zero_le _, Nat.le_refl _⟩
    | some p =>
      have hl := cutN_len (a := p.1) (r := p.2) hc
      rw [sp_some (a := p.1) (r := p.2) hc]
      cases n with
      | zero => omega
      | succ n =>
        have ih := sp_len n p.2 (by omega)
        simp only [List.length_cons]
        omega
def okB (S : List Int) : Prop := ∀ x ∈ S, 0 ≤ x ∧ x < 256
theorem toU {x : Int} (h : 0 ≤ x ∧ x < 256) (n : Nat) (hn : n < 256) : (x.toNat.toUInt8 == UInt8.ofNat n) = decide (x = (n : Int)) := by
  obtain ⟨m, rfl⟩ := Int.eq_ofNat_of_zero_le h.1
  have hm : m < 256 := by omega
  rw [Bool.eq_iff_iff, beq_iff_eq, decide_eq_true_iff]
  constructor
  · intro e
    have := congrArg UInt8.toNat e
    simp at this
    omega
  · intro e
    have : m = n := by omega
    rw [this]
    rfl
theorem idx_cut : ∀ (S : List Int), okB S → match cutN S with
    | some p => Lib.index (Lib.bytesOf S) [13, 10] = (p.1.length : Int)
    | none => Lib.index (Lib.bytesOf S) [13, 10] = -1
  | [], _ => rfl
  | x :: t, h => by
    have hx := h x (List.mem_cons_self ..)
    have ht : okB t := fun y hy => h y (List.mem_cons_of_mem _ hy)
    have ih := idx_cut t ht
    have hb : Lib.bytesOf (x :: t) = x.toNat.toUInt8 :: Lib.bytesOf t := rfl
    have hp : ([13, 10] : List UInt8).isPrefixOf (x.toNat.toUInt8 :: Lib.bytesOf t) = decide (x = 13 ∧ t.head? = some 10) := by
      have h13 := toU hx 13 (by omega)
      cases t with
      | nil =>
        show (_ && false) = _
        rw [Bool.and_false, eq_comm, decide_eq_false_iff_not]
        rintro ⟨_, e⟩
        cases e
      | cons y t =>
        have hy := ht y (List.mem_cons_self ..)
        have h10 := toU hy 10 (by omega)
        show ((13 : UInt8) == x.toNat.toUInt8 && ((10 : UInt8) == y.toNat.toUInt8 && true)) = _
        have c1 : ((13 : UInt8) == x.toNat.toUInt8) = decide (x = 13) := by rw [Bool.beq_comm]; exact h13
        have c2 : ((10 : UInt8) == y.toNat.toUInt8) = decide (y = 10) := by rw [Bool.beq_comm]; exact h10
        rw [c1, c2, Bool.and_true, ← Bool.decide_and]
        exact decide_eq_decide.2 ⟨fun h => ⟨h.1, by rw [h.2]; rfl⟩, fun h => ⟨h.1, by have := h.2; simpa using this⟩⟩
    rw [hb]
    unfold cutN
    show match (if x = 13 ∧ t.head? = some 10 then some (([] : List Int), t.tail) else (cutN t).map fun p => (x :: p.1, p.2)) with
      | some p => (if ([13, 10] : List UInt8).isPrefixOf (x.toNat.toUInt8 :: Lib.bytesOf t) then (0 : Int) else if Lib.index (Lib.bytesOf t) [13, 10] == -1 then -1 else Lib.index (Lib.bytesOf t) [13, 10] + 1) = (p.1.length : Int)
      | none => (if ([13, 10] : List UInt8).isPrefixOf (x.toNat.toUInt8 :: Lib.bytesOf t) then (0 : Int) else if Lib.index (Lib.bytesOf t) [13, 10] == -1 then -1 else Lib.index (Lib.bytesOf t) [13, 10] + 1) = -1
    rw [hp]
    by_cases e : x = 13 ∧ t.head? = some 10
    · rw [if_pos e, decide_eq_true e]
      rfl
    · rw [if_neg e, decide_eq_false e]
      cases hc : cutN t with
      | none =>
        rw [hc] at ih
        simp only at ih
        rw [ih]
        rfl
      | some p =>
        rw [hc] at ih
        simp only at ih
        rw [ih]
        show (if false = true then (0 : Int) else if ((p.1.length : Int) == -1) = true then -1 else (p.1.length : Int) + 1) = _
        rw [if_neg (by simp), if_neg (by rw [beq_iff_eq]; omega)]
        simp

theorem str_size (a : List Int) : (strOfNums a).size = a.length := by
  show (strOfNums a).data.size = a.length
  simp [strOfNums]
theorem Cut_val (S : List Int) (hb : okB S) (hl : S.length ≤ 40000) : bytes_Cut.f S [13, 10] = some (match cutN S with | some p => (p.1, p.2, true) | none => (S, [], false)) := by
  have hi := idx_cut S hb
  have hI : bytes_Index.f S [13, 10] = some (Lib.index (Lib.bytesOf S) [13, 10]) := by
    unfold bytes_Index.f
    rw [if_pos]
    · rfl
    · refine ⟨rfl, by omega, ?_⟩
      rw [List.all_append, Bool.and_eq_true]
      exact ⟨List.all_eq_true.2 fun x hx => decide_eq_true (hb x hx), rfl⟩
  unfold bytes_Cut.f
  rw [hI, Option.bind_some]
  cases hc : cutN S with
  | none =>
    rw [hc] at hi
    simp only at hi
    rw [hi, if_neg (by decide)]
  | some p =>
    rw [hc] at hi
    simp only at hi
    have hlen := cutN_len (a := p.1) (r := p.2) hc
    have he := cutN_eq (a := p.1) (r := p.2) hc
    have hw : wrap64 ((p.1.length : Int) + (([13, 10] : List Int).length : Int)) = ((p.1.length + 2 : Nat) : Int) := by
      show wrap64 ((p.1.length : Int) + 2) = _
      rw [w64 _ (by omega)]; omega
    rw [hi, hw, if_pos (by omega), if_pos (by omega), if_pos (by omega), if_pos (by omega), if_pos (by omega), Int.toNat_natCast, Int.toNat_natCast]
    congr 2
    · conv => lhs; rw [he]
      rw [List.take_left']
      rfl
    · congr 1
      conv => lhs; rw [he]
      rw [show p.1 ++ 13 :: 10 :: p.2 = (p.1 ++ [13, 10]) ++ p.2 by simp, List.drop_left']
      simp
/-- What Split answers, behind the lines that it has. -/
def res (out : List ByteArray) : List (List Int) → List Int → List ByteArray × List Int × Int × Int
  | [], t => (out, t, 0, 0)
  | a :: l, t => if a.length > 4000 then ([], [], 1, (out.length : Int)) else res (out ++ [strOfNums a]) l t
theorem okB_drop {S a r : List Int} (hb : okB S) (h : S = a ++ 13 :: 10 :: r) : okB r := fun x hx => hb x (by rw [h]; simp [hx])
theorem split_loop : ∀ (n : Nat) (S : List Int), S.length ≤ n → okB S → ∀ out : List ByteArray, out.length + S.length ≤ 40000 → Ev (fun k => lines_Split.l0 k S out) (res out (sp S).1 (sp S).2)
  | n, S, h, hb => by
    intro out ho
    have hcv := Cut_val S hb (by omega)
    refine Ev.succ ?_
    unfold lines_Split.l0
    simp only [hcv, Option.bind_some]
    cases hc : cutN S with
    | none =>
      rw [sp_none hc]
      refine Ev.const fun k => ?_
      simp only
      rw [if_neg (by decide)]
      unfold slices_Clone_byte_byte.f
      rw [if_pos (by omega)]
      rfl
    | some p =>
      have hl := cutN_len (a := p.1) (r := p.2) hc
      have he := cutN_eq (a := p.1) (r := p.2) hc
      rw [sp_some (a := p.1) (r := p.2) hc]
      cases n with
      | zero => omega
      | succ n =>
        simp only [if_true]
        unfold res
        by_cases e : p.1.length > 4000
        · rw [if_pos e]
          refine Ev.const fun k => ?_
          rw [if_pos (by omega)]
        · rw [if_neg e]
          refine (split_loop n p.2 (by omega) (okB_drop hb he) (out ++ [strOfNums p.1]) (by rw [List.length_append]; simp only [List.length_cons, List.length_nil]; omega)).congr fun k => ?_
          rw [if_neg (by omega), if_pos (by omega)]
def splitV (S : List Int) : List ByteArray × List Int × Int × Int := if S.length > 40000 then ([], [], 1, -1) else res [] (sp S).1 (sp S).2
theorem Split_ev (S : List Int) (hb : okB S) : Ev (fun k => lines_Split.f k S) (splitV S) := by
  unfold lines_Split.f splitV
  by_cases e : S.length > 40000
  · rw [if_pos e]
    refine Ev.const fun k => ?_
    rw [if_pos (by omega)]
  · rw [if_neg e]
    refine (split_loop S.length S (Nat.le_refl _) hb [] (by simp; omega)).congr fun k => ?_
    rw [if_neg (by omega)]
theorem cutN_at : ∀ (S : List Int) (q : Nat), S[q]? = some 13 → S[q + 1]? = some 10 → (∀ j, j < q → ¬ (S[j]? = some 13 ∧ S[j + 1]? = some 10)) → cutN S = some (S.take q, S.drop (q + 2))
  | [], q, h, _, _ => by simp at h
  | x :: t, 0, h1, h2, _ => by
    have hx : x = 13 := by simpa using h1
    have ht : t.head? = some 10 := by rw [List.head?_eq_getElem?]; simpa using h2
    unfold cutN
    rw [if_pos ⟨hx, ht⟩]
    simp
  | x :: t, q + 1, h1, h2, hno => by
    have h0 := hno 0 (by omega)
    have ih := cutN_at t q (by simpa using h1) (by simpa using h2) (fun j hj h => hno (j + 1) (by omega) (by simpa using h))
    unfold cutN
    rw [if_neg, ih]
    · rfl
    · rintro ⟨e1, e2⟩
      exact h0 ⟨by simp [e1], by rw [List.head?_eq_getElem?] at e2; simpa using e2⟩
theorem cutN_no : ∀ (S : List Int), (∀ j : Nat, ¬ (S[j]? = some 13 ∧ S[j + 1]? = some 10)) → cutN S = none
  | [], _ => rfl
  | x :: t, hno => by
    have h0 := hno 0
    have ih := cutN_no t (fun j h => hno (j + 1) (by simpa using h))
    unfold cutN
    rw [if_neg, ih]
    · rfl
    · rintro ⟨e1, e2⟩
      exact h0 ⟨by simp [e1], by rw [List.head?_eq_getElem?] at e2; simpa using e2⟩
theorem rd_get {l : List Int} {i : Nat} (h : i < l.length) : rd l (i : Int) = l[i] := by
  unfold rd
  rw [Int.toNat_natCast, List.getD_eq_getElem?_getD, List.getElem?_eq_getElem h]
  rfl
theorem lines_loop (b : List Int) (hl : b.length ≤ 2000000) : ∀ d i, b.length ≤ i + d → ∀ (fr : Nat) (out : List ByteArray), 1 ≤ i → fr ≤ i → fr ≤ b.length → out.length ≤ i →
    (∀ j, fr + j + 1 < i → ¬ ((b.drop fr)[j]? = some 13 ∧ (b.drop fr)[j + 1]? = some 10)) →
    Ev (fun k => posthouseref3_Lines.l0 k b out (fr : Int) (i : Int)) (out ++ (sp (b.drop fr)).1.map strOfNums, (sp (b.drop fr)).2)
  | 0, i, h => by
    intro fr out hi hf hfl ho hno
    have hc : cutN (b.drop fr) = none := cutN_no _ fun j hj => by
      have h2 := hj.2
      rw [List.getElem?_drop] at h2
      have := (List.getElem?_eq_some_iff.1 h2).1
      exact hno j (by omega) hj
    rw [sp_none hc]
    refine Ev.succ (Ev.const fun k => ?_)
    unfold posthouseref3_Lines.l0
    rw [if_neg (by omega), if_pos (by omega), if_pos (by omega), Int.toNat_natCast]
    simp
  | d + 1, i, h => by
    intro fr out hi hf hfl ho hno
    by_cases hlt : i < b.length
    · have hw : wrap64 ((i : Int) + 1) = ((i + 1 : Nat) : Int) := by rw [w64 _ (by omega)]; omega
      have hw1 : wrap64 ((i : Int) - 1) = ((i - 1 : Nat) : Int) := by rw [w64 _ (by omega)]; omega
      have hi1 : i - 1 < b.length := by omega
      have hstep : ¬ (b[i] = 10 ∧ b[i - 1] = 13 ∧ i > fr) → Ev (fun k => posthouseref3_Lines.l0 k b out (fr : Int) ((i + 1 : Nat) : Int)) (out ++ (sp (b.drop fr)).1.map strOfNums, (sp (b.drop fr)).2) := by
        intro hn
        refine lines_loop b hl d (i + 1) (by omega) fr out (by omega) (by omega) hfl (by omega) fun j hj => ?_
        by_cases e : fr + j + 1 < i
        · exact hno j e
        · rintro ⟨e1, e2⟩
          rw [List.getElem?_drop] at e1 e2
          have hji : fr + (j + 1) = i := by omega
          have hji1 : fr + j = i - 1 := by omega
          rw [hji, List.getElem?_eq_getElem hlt] at e2
          rw [hji1, List.getElem?_eq_getElem hi1] at e1
          exact hn ⟨Option.some.inj e2, Option.some.inj e1, by omega⟩
      refine Ev.succ ?_
      unfold posthouseref3_Lines.l0
      simp only [hw, hw1, rd_get hlt, rd_get hi1]
      by_cases e10 : b[i] = 10
      · by_cases e13 : b[i - 1] = 13
        · by_cases ef : i > fr
          · have hq1 : (b.drop fr)[i - 1 - fr]? = some 13 := by rw [List.getElem?_drop, show fr + (i - 1 - fr) = i - 1 by omega, List.getElem?_eq_getElem hi1, e13]
            have hq2 : (b.drop fr)[i - 1 - fr + 1]? = some 10 := by rw [List.getElem?_drop, show fr + (i - 1 - fr + 1) = i by omega, List.getElem?_eq_getElem hlt, e10]
            have hc := cutN_at (b.drop fr) (i - 1 - fr) hq1 hq2 (fun j hj => hno j (by omega))
            rw [List.drop_drop, show fr + (i - 1 - fr + 2) = i + 1 by omega] at hc
            have ht : (b.take (i - 1)).drop fr = (b.drop fr).take (i - 1 - fr) := by rw [List.drop_take]
            rw [sp_some hc]
            have ih := lines_loop b hl d (i + 1) (by omega) (i + 1) (out ++ [strOfNums ((b.drop fr).take (i - 1 - fr))]) (by omega) (Nat.le_refl _) (by omega) (by rw [List.length_append]; simp; omega) (fun j hj => by omega)
            refine (ih.congr fun k => ?_).val ?_
            · rw [if_pos (by omega), if_pos (by omega), if_pos e10, if_pos (by omega), if_pos (by omega), if_pos e13, if_pos (by omega), if_pos (by omega), if_pos (by omega), if_pos (by omega), if_pos (by omega), Int.toNat_natCast, Int.toNat_natCast, ht]
            · simp
          · refine (hstep (fun h => ef h.2.2)).congr fun k => ?_
            rw [if_pos (by omega), if_pos (by omega), if_pos e10, if_pos (by omega), if_pos (by omega), if_pos e13, if_neg (by omega)]
        · refine (hstep (fun h => e13 h.2.1)).congr fun k => ?_
          rw [if_pos (by omega), if_pos (by omega), if_pos e10, if_pos (by omega), if_pos (by omega), if_neg e13]
      · refine (hstep (fun h => e10 h.1)).congr fun k => ?_
        rw [if_pos (by omega), if_pos (by omega), if_neg e10]
    · exact lines_loop b hl 0 i (by omega) fr out hi hf hfl ho hno
theorem Lines_ev (b : List Int) (hl : b.length ≤ 2000000) : Ev (fun k => posthouseref3_Lines.f k b) ((sp b).1.map strOfNums, (sp b).2) := by
  have := lines_loop b hl b.length 1 (by omega) 0 [] (Nat.le_refl _) (by omega) (Nat.zero_le _) (by simp) (fun j hj => by omega)
  rw [List.drop_zero] at this
  exact this

theorem bytesOf_str {a : List Int} (h : okB a) : bytesOf (strOfNums a) = a := by
  unfold bytesOf strOfNums
  simp only [List.map_map]
  conv => rhs; rw [← List.map_id a]
  refine List.map_congr_left fun x hx => ?_
  have := h x hx
  obtain ⟨m, rfl⟩ := Int.eq_ofNat_of_zero_le this.1
  simp
  omega
theorem joinL_len : ∀ (l : List (List Int)), 2 * l.length ≤ (joinL l).length
  | [] => Nat.zero_le _
  | a :: l => by
    have := joinL_len l
    simp [joinL]; omega
theorem lrdO {l : List ByteArray} {i : Nat} {s : ByteArray} (h : l[i]? = some s) : rdOf ByteArray.empty l (i : Int) = s := by
  obtain ⟨h1, h2⟩ := List.getElem?_eq_some_iff.1 h
  rw [rdO_get h1, h2]
theorem sp_okB : ∀ (n : Nat) (S : List Int), S.length ≤ n → okB S → ∀ a ∈ (sp S).1, okB a
  | n, S, h, hb => by
    intro a ha
    cases hc : cutN S with
    | none => rw [sp_none hc] at ha; cases ha
    | some p =>
      have hl := cutN_len (a := p.1) (r := p.2) hc
      have he := cutN_eq (a := p.1) (r := p.2) hc
      rw [sp_some (a := p.1) (r := p.2) hc] at ha
      cases n with
      | zero => omega
      | succ n =>
        rcases List.mem_cons.1 ha with rfl | ha
        · exact fun x hx => hb x (by rw [he]; simp [hx])
        · exact sp_okB n p.2 (by omega) (okB_drop hb he) a ha

/-- The state behind a byte, what it adds, and whether the data end. -/
def nx (s c : Int) : Int × List Int × Bool :=
  if s = 0 ∧ c = 46 then (1, [], false) else if s = 1 ∧ c = 13 then (2, [], false) else if s = 2 ∧ c = 10 then (0, [], true) else if s = 4 ∧ c = 10 then (0, [c], false) else
  ((if c = 13 then 4 else 3), (if s = 2 then [13] else []) ++ [c], false)
theorem Next3 (k : Nat) (s c : Int) (b : Bool) : lines_Next.j3 (k + 1) s c [] b = some (if b = true then (0, [c], false) else ((if c = 13 then 4 else 3), (if s = 2 then [13] else []) ++ [c], false)) := by
  simp only [lines_Next.j3]
  cases b with
  | true => simp
  | false =>
    by_cases h2 : s = 2
    · by_cases h : c = 13 <;> simp [h2, h]
    · by_cases h : c = 13 <;> simp [h2, h]
theorem Next_val (k : Nat) (s c : Int) : lines_Next.f (k + 4) s c = some (nx s c) := by
  have e3 : ∀ b, lines_Next.j3 (k + 1) s c [] b = some (if b = true then (0, [c], false) else ((if c = 13 then 4 else 3), (if s = 2 then [13] else []) ++ [c], false)) := fun b => Next3 k s c b
  have e2 : ∀ b, lines_Next.j2 (k + 2) s c [] b = some (if b = true then (0, [], true) else if s = 4 ∧ c = 10 then (0, [c], false) else ((if c = 13 then 4 else 3), (if s = 2 then [13] else []) ++ [c], false)) := by
    intro b
    simp only [lines_Next.j2, e3]
    cases b with
    | true => simp
    | false =>
      by_cases h4 : s = 4
      · by_cases h : c = 10 <;> simp [h4, h]
      · simp [h4]
  have e1 : ∀ b, lines_Next.j1 (k + 3) s c [] b = some (if b = true then (2, [], false) else if s = 2 ∧ c = 10 then (0, [], true) else if s = 4 ∧ c = 10 then (0, [c], false) else ((if c = 13 then 4 else 3), (if s = 2 then [13] else []) ++ [c], false)) := by
    intro b
    simp only [lines_Next.j1, e2]
    cases b with
    | true => simp
    | false =>
      by_cases h2 : s = 2
      · by_cases h : c = 10 <;> simp [h2, h]
      · simp [h2]
  have e0 : ∀ b, lines_Next.j0 (k + 4) s c [] b = some (if b = true then (1, [], false) else if s = 1 ∧ c = 13 then (2, [], false) else if s = 2 ∧ c = 10 then (0, [], true) else if s = 4 ∧ c = 10 then (0, [c], false) else ((if c = 13 then 4 else 3), (if s = 2 then [13] else []) ++ [c], false)) := by
    intro b
    simp only [lines_Next.j0, e1]
    cases b with
    | true => simp
    | false =>
      by_cases h1 : s = 1
      · by_cases h : c = 13 <;> simp [h1, h]
      · simp [h1]
  unfold lines_Next.f nx
  rw [e0, e0]
  by_cases h0 : s = 0
  · by_cases h : c = 46 <;> simp [h0, h]
  · simp [h0]
theorem Next_ev (s c : Int) : Ev (fun k => lines_Next.f k s c) (nx s c) := ⟨4, fun k hk => by
  obtain ⟨j, rfl⟩ : ∃ j, k = j + 4 := ⟨k - 4, by omega⟩
  exact Next_val j s c⟩
theorem nx_len (s c : Int) : (nx s c).2.1.length ≤ 2 := by
  unfold nx
  repeat' split
  all_goals simp
/-- What Unstuff answers. -/
def un : List Int → Int → List Int → Int → List Int × Int × Bool × Int × Int
  | [], _, _, _ => ([], 0, false, 0, 0)
  | c :: l, s, out, i => if (out ++ (nx s c).2.1).length > 12000 then ([], 0, false, 1, -2) else if (nx s c).2.2 = true then (out ++ (nx s c).2.1, i + 1, true, 0, 0) else un l (nx s c).1 (out ++ (nx s c).2.1) (i + 1)
theorem un_loop (b : List Int) (hl : b.length ≤ 40000) : ∀ d i, i + d = b.length → ∀ (s : Int) (out : List Int), out.length ≤ 12000 → Ev (fun k => lines_Unstuff.l0 k out s b (b.length : Int) (i : Int)) (un (b.drop i) s out (i : Int))
  | 0, i, h => by
    intro s out ho
    rw [List.drop_eq_nil_of_le (by omega)]
    refine Ev.succ (Ev.const fun k => ?_)
    unfold lines_Unstuff.l0
    rw [if_neg (by omega)]
    rfl
  | d + 1, i, h => by
    intro s out ho
    have hi : i < b.length := by omega
    have hw : wrap64 ((i : Int) + 1) = (i : Int) + 1 := w64 _ (by omega)
    have hn := nx_len s b[i]
    rw [List.drop_eq_getElem_cons hi]
    unfold un
    refine Ev.succ ?_
    unfold lines_Unstuff.l0
    simp only [rd_get hi, hw, if_pos (show (i : Int) < (b.length : Int) by omega), if_pos (show (0 : Int) ≤ (i : Int) by omega)]
    refine Ev.bind (Next_ev s b[i]) ?_
    simp only [if_pos (show out.length + (nx s b[i]).2.1.length < 140737488355328 by omega), Option.bind_some]
    by_cases e : (out ++ (nx s b[i]).2.1).length > 12000
    · rw [if_pos e]
      refine Ev.const fun k => ?_
      rw [if_pos (by omega)]
    rw [if_neg e]
    simp only [if_neg (show ¬ ((out ++ (nx s b[i]).2.1).length : Int) > 12000 by omega)]
    by_cases e2 : (nx s b[i]).2.2 = true
    · rw [if_pos e2]
      refine Ev.const fun k => ?_
      rw [if_pos e2]
    · rw [if_neg e2]
      have := un_loop b hl d (i + 1) (by omega) (nx s b[i]).1 (out ++ (nx s b[i]).2.1) (by omega)
      refine this.congr fun k => ?_
      rw [if_neg e2]
      rfl
theorem Unstuff_ev (b : List Int) : Ev (fun k => lines_Unstuff.f k b) (if b.length > 40000 then ([], 0, false, 1, -1) else un b 0 [] 0) := by
  unfold lines_Unstuff.f
  by_cases e : b.length > 40000
  · rw [if_pos e]
    refine Ev.const fun k => ?_
    rw [if_pos (by omega)]
  · rw [if_neg e]
    refine (un_loop b (by omega) b.length 0 (by omega) 0 [] (by simp)).congr fun k => ?_
    rw [if_neg (by omega)]
    rfl

theorem okB_small (l : List Int) (h : (l.all fun x => decide (0 ≤ x ∧ x < 256)) = true) : okB l := fun x hx => of_decide_eq_true (List.all_eq_true.1 h x hx)
theorem splits_ev : Ev (fun k => posthouselaw3_splits.f k) true := by
  have P1 : Ev (fun k => lines_Split.f k [97, 13, 10, 98]) ([⟨#[97]⟩], [98], 0, 0) := by
    refine (Split_ev [97, 13, 10, 98] (okB_small _ (by decide))).val ?_
    decide +kernel
  have P2 : lines_Stuff.f [] = some ([46, 13, 10], 0, 0) := rfl
  have P3 : Ev (fun k => lines_Unstuff.f k [46, 46, 13, 10, 46, 13, 10, 120]) ([46, 13, 10], 7, true, 0, 0) := by
    refine (Unstuff_ev _).val ?_
    rw [if_neg (by decide)]
    decide +kernel
  have P4 : lines_Stuff.f [97] = some ([], 5, -2) := rfl
  unfold posthouselaw3_splits.f
  refine Ev.bind P1 ?_
  simp only [P2, Option.bind_some]
  refine Ev.bind P3 ?_
  simp only [P4, Option.bind_some, if_true, posthouseref3_At.f, BEq.rfl, Bool.and_self]
  refine Ev.bind (Strings_ev _ _ (by decide)) ?_
  rw [decide_eq_true rfl]
  simp only [if_true]
  refine Ev.const fun k => ?_
  rw [if_pos (by decide +kernel), if_pos (by decide +kernel), if_pos (by decide +kernel)]
theorem okB_wf {l : List Int} (h : XOpen.WFs 1 (fun x_ : Int => (Lit.int .u8 x_).wf = true) l) : okB l := fun x hx => by
  have := h.2 x hx
  have h2 : 0 ≤ x ∧ x ≤ 255 := by simpa [Lit.wf, IntKind.min, IntKind.max, IntKind.signed, IntKind.bits] using this
  omega

/-- What a byte of the data is sent as. -/
def e1 (s c : Int) : List Int := if s = 0 ∧ c = 46 then [46, 46] else [c]
/-- The state of the data behind a byte. -/
def n1 (s c : Int) : Int := if s = 4 ∧ c = 10 then 0 else if c = 13 then 4 else 3
/-- Data as they are sent, without their end. -/
def enc : Int → List Int → List Int
  | _, [] => []
  | s, c :: l => e1 s c ++ enc (n1 s c) l
def endS : Int → List Int → Int
  | s, [] => s
  | s, c :: l => endS (n1 s c) l
def okS (s : Int) : Prop := s = 0 ∨ s = 3 ∨ s = 4
theorem n1_ok (s c : Int) : okS (n1 s c) := by
  unfold n1 okS
  repeat' split
  all_goals omega
theorem nx_plain {s c : Int} (hs : okS s) (h : ¬ (s = 0 ∧ c = 46)) : nx s c = (n1 s c, [c], false) := by
  unfold nx n1
  rw [if_neg h, if_neg (by rintro ⟨h1, _⟩; unfold okS at hs; omega), if_neg (by rintro ⟨h1, _⟩; unfold okS at hs; omega)]
  by_cases h4 : s = 4 ∧ c = 10
  · rw [if_pos h4, if_pos h4]
  · have h2 : ¬ s = 2 := by unfold okS at hs; omega
    rw [if_neg h4, if_neg h4]
    simp only [if_neg h2, List.nil_append]
theorem nx_dot : nx 0 46 = (1, [], false) := rfl
theorem nx_dot2 : nx 1 46 = (3, [46], false) := rfl
theorem un_cons (c : Int) (l : List Int) (s : Int) (out : List Int) (i : Int) : un (c :: l) s out i = if (out ++ (nx s c).2.1).length > 12000 then ([], 0, false, 1, -2) else if (nx s c).2.2 = true then (out ++ (nx s c).2.1, i + 1, true, 0, 0) else un l (nx s c).1 (out ++ (nx s c).2.1) (i + 1) := rfl
theorem un_enc : ∀ (b : List Int) (s : Int), okS s → ∀ (X out : List Int) (i : Int), out.length + b.length ≤ 12000 → un (enc s b ++ X) s out i = un X (endS s b) (out ++ b) (i + (enc s b).length)
  | [], s, _, X, out, i, _ => by simp [enc, endS]
  | c :: l, s, hs, X, out, i, h => by
    rw [List.length_cons] at h
    have ih := un_enc l (n1 s c) (n1_ok s c) X (out ++ [c])
    unfold enc endS
    by_cases e : s = 0 ∧ c = 46
    · obtain ⟨rfl, rfl⟩ := e
      have e2 : e1 0 46 = [46, 46] := rfl
      have e3 : n1 0 46 = 3 := rfl
      rw [e3] at ih
      rw [e2, e3]
      simp only [List.cons_append, List.nil_append]
      rw [un_cons, nx_dot, if_neg (by simp; omega), if_neg (by simp), un_cons, nx_dot2, if_neg (by simp; omega), if_neg (by simp)]
      simp only [List.append_nil]
      rw [ih _ (by simp; omega)]
      simp only [List.length_cons, List.append_assoc, List.singleton_append]
      congr 1
      omega
    · have e2 : e1 s c = [c] := by unfold e1; rw [if_neg e]
      rw [e2]
      simp only [List.cons_append, List.nil_append]
      rw [un_cons, nx_plain hs e, if_neg (by simp; omega), if_neg (by simp)]
      simp only
      rw [ih _ (by simp; omega)]
      simp only [List.length_cons, List.append_assoc, List.singleton_append]
      congr 1
      omega
/-- What has been sent is received, whatever follows. -/
theorem un_sent (b more : List Int) (h : b.length ≤ 12000) (he : endS 0 b = 0) : un (enc 0 b ++ (46 :: 13 :: 10 :: more)) 0 [] 0 = (b, ((enc 0 b).length : Int) + 3, true, 0, 0) := by
  rw [un_enc b 0 (.inl rfl) _ [] 0 (by simpa using h), he, List.nil_append]
  rw [un_cons, nx_dot, if_neg (by simp; omega), if_neg (by simp), un_cons]
  rw [show nx 1 13 = (2, [], false) from rfl, if_neg (by simp; omega), if_neg (by simp), un_cons]
  rw [show nx 2 10 = (0, [], true) from rfl, if_neg (by simp; omega), if_pos rfl]
  simp
  omega
/-- Nothing less than all of it ends it. -/
theorem un_cut : ∀ (b : List Int) (s : Int), okS s → endS s b = 0 → ∀ (m : Nat) (out : List Int) (i : Int), m < (enc s b).length + 3 → out.length + b.length ≤ 12000 → un ((enc s b ++ [46, 13, 10]).take m) s out i = ([], 0, false, 0, 0)
  | [], s, hs, he, m, out, i, hm, ho => by
    obtain rfl : s = 0 := he
    rw [List.length_nil] at ho
    show un (([46, 13, 10] : List Int).take m) 0 out i = _
    match m, hm with
    | 0, _ => rfl
    | 1, _ =>
      show un [46] 0 out i = _
      rw [un_cons, nx_dot, if_neg (by simp; omega), if_neg (by simp)]
      rfl
    | 2, _ =>
      show un [46, 13] 0 out i = _
      rw [un_cons, nx_dot, if_neg (by simp; omega), if_neg (by simp), un_cons, show nx 1 13 = (2, [], false) from rfl, if_neg (by simp; omega), if_neg (by simp)]
      rfl
    | m + 3, hm => simp [enc] at hm; omega
  | c :: l, s, hs, he, m, out, i, hm, ho => by
    rw [List.length_cons] at ho
    have ih := un_cut l (n1 s c) (n1_ok s c) he
    unfold enc at hm ⊢
    cases m with
    | zero => rfl
    | succ m =>
      by_cases e : s = 0 ∧ c = 46
      · obtain ⟨rfl, rfl⟩ := e
        have e2 : e1 0 46 = [46, 46] := rfl
        have e3 : n1 0 46 = 3 := rfl
        rw [e3] at ih hm
        rw [e2] at hm
        rw [e2, e3]
        simp only [List.cons_append, List.nil_append, List.take_succ_cons]
        rw [un_cons, nx_dot, if_neg (by simp; omega), if_neg (by simp)]
        cases m with
        | zero => rfl
        | succ m =>
          simp only [List.take_succ_cons, List.append_nil]
          rw [un_cons, nx_dot2, if_neg (by simp; omega), if_neg (by simp)]
          exact ih m _ _ (by simp at hm ⊢; omega) (by simp; omega)
      · have e2 : e1 s c = [c] := by unfold e1; rw [if_neg e]
        rw [e2] at hm
        rw [e2]
        simp only [List.cons_append, List.nil_append, List.take_succ_cons]
        rw [un_cons, nx_plain hs e, if_neg (by simp; omega), if_neg (by simp)]
        exact ih m _ _ (by simp at hm ⊢; omega) (by simp; omega)
theorem enc_len : ∀ (b : List Int) (s : Int), (enc s b).length ≤ 2 * b.length
  | [], s => by simp [enc]
  | c :: l, s => by
    have := enc_len l (n1 s c)
    unfold enc
    have h1 : (e1 s c).length ≤ 2 := by unfold e1; split <;> simp
    simp
    omega
/-- The state at an end, by what stands there. -/
theorem endS_last : ∀ (b : List Int) (s : Int), okS s → (endS s b = 0 ↔ (b = [] ∧ s = 0) ∨ (s = 4 ∧ b = [10]) ∨ (∃ l, b = l ++ [13, 10])) ∧ (endS s b = 4 ↔ (b = [] ∧ s = 4) ∨ ∃ l, b = l ++ [13])
  | [], s, hs => by
    refine ⟨⟨fun h => .inl ⟨rfl, h⟩, ?_⟩, ⟨fun h => .inl ⟨rfl, h⟩, ?_⟩⟩
    · rintro (⟨_, h⟩ | ⟨_, h⟩ | ⟨l, h⟩)
      · exact h
      · cases h
      · simp at h
    · rintro (⟨_, h⟩ | ⟨l, h⟩)
      · exact h
      · simp at h
  | c :: l, s, hs => by
    have ih := endS_last l (n1 s c) (n1_ok s c)
    show (endS (n1 s c) l = 0 ↔ _) ∧ (endS (n1 s c) l = 4 ↔ _)
    rw [ih.1, ih.2]
    have h0 : n1 s c = 0 ↔ s = 4 ∧ c = 10 := by
      unfold n1
      repeat' split
      all_goals simp_all
    have h4 : n1 s c = 4 ↔ c = 13 := by
      unfold n1
      repeat' split
      · rename_i h; simp; omega
      · simp_all
      · simp_all
    rw [h0, h4]
    constructor
    · constructor
      · rintro (⟨rfl, h1, rfl⟩ | ⟨rfl, rfl⟩ | ⟨m, rfl⟩)
        · exact .inr (.inl ⟨h1, rfl⟩)
        · exact .inr (.inr ⟨[], rfl⟩)
        · exact .inr (.inr ⟨c :: m, rfl⟩)
      · rintro (⟨h, _⟩ | ⟨h1, h2⟩ | ⟨m, h⟩)
        · cases h
        · cases h2
          exact .inl ⟨rfl, h1, rfl⟩
        · cases m with
          | nil => cases h; exact .inr (.inl ⟨rfl, rfl⟩)
          | cons x m => cases h; exact .inr (.inr ⟨m, rfl⟩)
    · constructor
      · rintro (⟨rfl, rfl⟩ | ⟨m, rfl⟩)
        · exact .inr ⟨[], rfl⟩
        · exact .inr ⟨c :: m, rfl⟩
      · rintro (⟨h, _⟩ | ⟨m, h⟩)
        · cases h
        · cases m with
          | nil => cases h; exact .inl ⟨rfl, rfl⟩
          | cons x m => cases h; exact .inr ⟨m, rfl⟩

theorem enc_app : ∀ (a b : List Int) (s : Int), enc s (a ++ b) = enc s a ++ enc (endS s a) b
  | [], b, s => rfl
  | c :: a, b, s => by
    show e1 s c ++ enc (n1 s c) (a ++ b) = (e1 s c ++ enc (n1 s c) a) ++ enc (endS (n1 s c) a) b
    rw [enc_app a b, List.append_assoc]
theorem endS_ok : ∀ (a : List Int) (s : Int), okS s → okS (endS s a)
  | [], s, h => h
  | c :: a, s, h => endS_ok a (n1 s c) (n1_ok s c)
theorem enc_in : ∀ (l : List Int) (s : Int), okS s → s ≠ 0 → (∀ x ∈ l.dropLast, x ≠ 10) → enc s l = l
  | [], s, _, _, _ => rfl
  | c :: l, s, hs, h0, hl => by
    show e1 s c ++ enc (n1 s c) l = c :: l
    have e2 : e1 s c = [c] := by unfold e1; rw [if_neg (fun h => h0 h.1)]
    rw [e2]
    cases l with
    | nil => rfl
    | cons y l =>
      have hc : c ≠ 10 := hl c (by simp)
      have hn : n1 s c ≠ 0 := by
        unfold n1
        rw [if_neg (fun h => hc h.2)]
        split <;> omega
      rw [enc_in (y :: l) (n1 s c) (n1_ok s c) hn (fun x hx => hl x (by simp [List.dropLast] at hx ⊢; exact .inr hx))]
      rfl
theorem enc_piece : ∀ (p : List Int) (s : Int), okS s → p ≠ [] → (∀ x ∈ p.dropLast, x ≠ 10) → enc s p = (if s = 0 ∧ p.head? = some 46 then [46] else []) ++ p
  | [], s, _, h, _ => absurd rfl h
  | c :: l, s, hs, _, hl => by
    have ht : enc (n1 s c) l = l := by
      cases l with
      | nil => rfl
      | cons y l =>
        have hc : c ≠ 10 := hl c (by simp)
        have hn : n1 s c ≠ 0 := by
          unfold n1
          rw [if_neg (fun h => hc h.2)]
          split <;> omega
        exact enc_in (y :: l) (n1 s c) (n1_ok s c) hn (fun x hx => hl x (by simp [List.dropLast] at hx ⊢; exact .inr hx))
    show e1 s c ++ enc (n1 s c) l = _
    rw [ht]
    unfold e1
    by_cases h : s = 0 ∧ c = 46
    · obtain ⟨rfl, rfl⟩ := h
      rw [if_pos ⟨rfl, rfl⟩, if_pos ⟨rfl, rfl⟩]
      rfl
    · rw [if_neg h, if_neg (by rintro ⟨h1, h2⟩; exact h ⟨h1, by simpa using h2⟩)]
      rfl
def ends2 (l : List Int) : Prop := ∃ m, l = m ++ [13, 10]
def ends1 (l : List Int) : Prop := ∃ m, l = m ++ [13]
/-- The state that an output stands for. -/
def stOf (out : List Int) (s : Int) : Prop := okS s ∧ (s = 0 ↔ out = [] ∨ ends2 out) ∧ (s = 4 ↔ ends1 out)
theorem ends1_app {a p : List Int} (hp : p ≠ []) : ends1 (a ++ p) ↔ ends1 p := by
  constructor
  · rintro ⟨m, h⟩
    obtain ⟨q, x, rfl⟩ : ∃ q x, p = q ++ [x] := ⟨p.dropLast, p.getLast hp, (List.dropLast_concat_getLast hp).symm⟩
    rw [← List.append_assoc] at h
    have := List.append_inj_right' h rfl
    exact ⟨q, by rw [this]⟩
  · rintro ⟨m, rfl⟩
    exact ⟨a ++ m, by simp⟩
theorem stOf_step {out p : List Int} {s : Int} (h : stOf out s) (hp : p ≠ []) (hl : ∀ x ∈ p.dropLast, x ≠ 10) : stOf (out ++ enc s p) (endS s p) := by
  obtain ⟨hs, h0, h4⟩ := h
  have hE := endS_last p s hs
  have he := enc_piece p s hs hp hl
  have hne : out ++ enc s p ≠ [] := by
    rw [he]
    intro h
    have := congrArg List.length h
    have h2 : 0 < p.length := List.length_pos_iff.2 hp
    simp at this
    simp_all
  refine ⟨endS_ok p s hs, ?_, ?_⟩
  · rw [hE.1]
    constructor
    · rintro (⟨h, _⟩ | ⟨h1, rfl⟩ | ⟨l, rfl⟩)
      · exact absurd h hp
      · obtain ⟨m, rfl⟩ := h4.1 h1
        right
        refine ⟨m, ?_⟩
        rw [he, if_neg (by rintro ⟨h, _⟩; omega)]
        simp
      · right
        refine ⟨out ++ (if s = 0 ∧ (l ++ [13, 10]).head? = some 46 then [46] else []) ++ l, ?_⟩
        rw [he]
        simp
    · rintro (h | ⟨m, h⟩)
      · exact absurd h hne
      · rw [he] at h
        obtain ⟨q, x, rfl⟩ : ∃ q x, p = q ++ [x] := ⟨p.dropLast, p.getLast hp, (List.dropLast_concat_getLast hp).symm⟩
        have h1 : (out ++ (if s = 0 ∧ (q ++ [x]).head? = some 46 then [46] else []) ++ q) ++ [x] = (m ++ [13]) ++ [10] := by
          rw [show (m ++ [13]) ++ [10] = m ++ [13, 10] by simp, ← h]
          simp
        have hx : x = 10 := by
          have := List.append_inj_right' h1 rfl
          simpa using this
        have h2 := List.append_inj_left' h1 rfl
        subst hx
        cases hq : q with
        | nil =>
          subst hq
          refine .inr (.inl ⟨?_, rfl⟩)
          rw [if_neg (by simp)] at h2
          simp at h2
          exact h4.2 ⟨m, h2⟩
        | cons y q' =>
          rw [← hq]
          have hq0 : q ≠ [] := by rw [hq]; simp
          obtain ⟨q2, z, rfl⟩ : ∃ q2 z, q = q2 ++ [z] := ⟨q.dropLast, q.getLast hq0, (List.dropLast_concat_getLast hq0).symm⟩
          rw [← List.append_assoc] at h2
          have hz : z = 13 := by
            have := List.append_inj_right' h2 rfl
            simpa using this
          subst hz
          exact .inr (.inr ⟨q2, by simp⟩)
  · rw [hE.2, he]
    constructor
    · rintro (⟨h, _⟩ | ⟨l, rfl⟩)
      · exact absurd h hp
      · exact ⟨out ++ (if s = 0 ∧ (l ++ [13]).head? = some 46 then [46] else []) ++ l, by simp⟩
    · intro h
      rw [← List.append_assoc, ends1_app hp] at h
      exact .inr h
/-- Texts of bytes are told apart by their numbers. -/
theorem str_inj {a b : List Int} (ha : okB a) (hb : okB b) : (strOfNums a).toList = (strOfNums b).toList ↔ a = b := by
  rw [tl_iff]
  constructor
  · intro h
    rw [← bytesOf_str ha, ← bytesOf_str hb, h]
  · rintro rfl; rfl
theorem str_beq {a b : List Int} (ha : okB a) (hb : okB b) : ((strOfNums a).toList == (strOfNums b).toList) = decide (a = b) := by
  rw [Bool.eq_iff_iff, beq_iff_eq, decide_eq_true_iff]
  exact str_inj ha hb
theorem sfx_val (l : List Int) (hb : okB l) (hl : l.length ≤ 100000) : ∃ b, bytes_HasSuffix.f l [13, 10] = some b ∧ (b = true ↔ ends2 l) := by
  have e2 : (([13, 10] : List Int).length : Int) = 2 := rfl
  unfold bytes_HasSuffix.f bytes_Equal.f
  rw [e2]
  by_cases h : (l.length : Int) ≥ 2
  · have hw : wrap64 ((l.length : Int) - 2) = ((l.length - 2 : Nat) : Int) := by rw [w64 _ (by omega)]; omega
    refine ⟨decide (l.drop (l.length - 2) = [13, 10]), ?_, ?_⟩
    · rw [if_pos h, hw, if_pos (by omega), if_pos (by omega), Int.toNat_natCast]
      simp only [Option.bind_some]
      rw [str_beq (fun x hx => hb x (List.mem_of_mem_drop hx)) (okB_small _ (by decide))]
    · rw [decide_eq_true_iff]
      constructor
      · intro e
        exact ⟨l.take (l.length - 2), by conv => lhs; rw [← List.take_append_drop (l.length - 2) l, e]⟩
      · rintro ⟨m, rfl⟩
        rw [List.drop_left' (by simp)]
  · refine ⟨false, by rw [if_neg h], fun h => (by cases h), ?_⟩
    rintro ⟨m, rfl⟩
    exact absurd (by simp; omega) h
theorem sfx_iff (l : List Int) (hb : okB l) (hl : l.length ≤ 100000) : StuffedZ.sfx l = true ↔ ends2 l := by
  obtain ⟨b, h1, h2⟩ := sfx_val l hb hl
  unfold StuffedZ.sfx
  rw [h1]
  exact h2
theorem okB_app {a b : List Int} (ha : okB a) (hb : okB b) : okB (a ++ b) := fun x hx => by
  rcases List.mem_append.1 hx with h | h
  · exact ha x h
  · exact hb x h
theorem okB_nil : okB [] := fun x hx => by cases hx
theorem okB_46 : okB [46] := okB_small _ (by decide)
theorem rd_zero (p : List Int) : rd p 0 = p.head?.getD 0 := by
  unfold rd
  cases p <;> rfl
theorem dot_eq {out p : List Int} {s : Int} (h : stOf out s) (hb : okB out) (hl : out.length ≤ 100000) (h1 : p ≠ []) : StuffedZ.dot out p = out ++ (if s = 0 ∧ p.head? = some 46 then [46] else []) := by
  unfold StuffedZ.dot
  have hr : rd p 0 = 46 ↔ p.head? = some 46 := by
    rw [rd_zero]
    cases p with
    | nil => exact absurd rfl h1
    | cons x l => simp
  have hs : (out = [] ∨ StuffedZ.sfx out = true) ↔ s = 0 := by rw [sfx_iff out hb hl]; exact h.2.1.symm
  by_cases e : s = 0 ∧ p.head? = some 46
  · rw [if_pos e, if_pos ⟨hr.2 e.2, hs.2 e.1⟩]
  · rw [if_neg e, if_neg (fun hh => e ⟨hs.1 hh.2, hr.1 hh.1⟩), List.append_nil]
theorem stF_enc : ∀ (ps : List (List Int)) (out : List Int) (s : Int), stOf out s → okB out → out.length + 2 * ps.flatten.length ≤ 100000 → (∀ p ∈ ps, p ≠ [] ∧ okB p ∧ ∀ x ∈ p.dropLast, x ≠ 10) → ps.foldl (fun out p => StuffedZ.dot out p ++ p) out = out ++ enc s ps.flatten
  | [], out, s, _, _, _, _ => by simp [enc]
  | p :: ps, out, s, h, hb, hl, hp => by
    obtain ⟨h1, h3, h2⟩ := hp p (List.mem_cons_self ..)
    have he := enc_piece p s h.1 h1 h2
    have hst := stOf_step h h1 h2
    rw [List.flatten_cons, List.length_append] at hl
    have hd := dot_eq h hb (by omega) h1
    have hlen := enc_len p s
    have hok : okB (enc s p) := by
      rw [he]
      refine okB_app ?_ h3
      split
      · exact okB_46
      · exact fun x hx => by cases hx
    have ih := stF_enc ps (out ++ enc s p) (endS s p) hst (okB_app hb hok) (by rw [List.length_append]; omega) (fun q hq => hp q (List.mem_cons_of_mem _ hq))
    rw [List.foldl_cons, hd, List.append_assoc, ← he, ih, List.flatten_cons, enc_app, List.append_assoc]
theorem pieces_flat : ∀ S : List Int, (StuffedY.pieces S).flatten = S
  | [] => rfl
  | x :: l => by
    have ih := pieces_flat l
    unfold StuffedY.pieces
    split
    · rw [List.flatten_cons, ih]; rfl
    · cases h : StuffedY.pieces l with
      | nil => rw [h] at ih; rw [← ih]; rfl
      | cons p ps => rw [h] at ih; rw [← ih]; rfl
theorem pieces_ok : ∀ S : List Int, okB S → ∀ p ∈ StuffedY.pieces S, p ≠ [] ∧ okB p ∧ ∀ x ∈ p.dropLast, x ≠ 10
  | [], _, p, hp => by cases hp
  | x :: l, hb, p, hp => by
    have hx := hb x (List.mem_cons_self ..)
    have hbl : okB l := fun y hy => hb y (List.mem_cons_of_mem _ hy)
    have ih := pieces_ok l hbl
    have hx1 : okB [x] := fun y hy => by rw [List.mem_singleton.1 hy]; exact hx
    have h10 : (x.toNat.toUInt8 == 10) = decide (x = 10) := toU hx 10 (by omega)
    unfold StuffedY.pieces at hp
    rw [h10] at hp
    by_cases e : x = 10
    · rw [if_pos (decide_eq_true e)] at hp
      rcases List.mem_cons.1 hp with rfl | hp
      · exact ⟨by simp, hx1, by simp⟩
      · exact ih p hp
    · rw [if_neg (by simpa using e)] at hp
      cases h : StuffedY.pieces l with
      | nil =>
        rw [h] at hp
        rw [List.mem_singleton.1 hp]
        exact ⟨by simp, hx1, by simp⟩
      | cons q qs =>
        rw [h] at hp ih
        rcases List.mem_cons.1 hp with rfl | hp
        · obtain ⟨i1, i2, i3⟩ := ih q (List.mem_cons_self ..)
          refine ⟨by simp, fun y hy => ?_, fun y hy => ?_⟩
          · rcases List.mem_cons.1 hy with rfl | hy
            · exact hx
            · exact i2 y hy
          · cases q with
            | nil => exact absurd rfl i1
            | cons z q =>
              rw [List.dropLast_cons_of_ne_nil (by simp)] at hy
              rcases List.mem_cons.1 hy with rfl | hy
              · exact e
              · exact i3 y hy
        · exact ih p (List.mem_cons_of_mem _ hp)
theorem Stuffed_val (l : List Int) (hb : okB l) (hl : l.length ≤ 40000) : lines_Stuffed.f l = some (enc 0 l ++ [46, 13, 10]) := by
  unfold lines_Stuffed.f
  rw [if_pos (by omega)]
  unfold StuffedZ.stF
  have h0 : stOf [] 0 := ⟨.inl rfl, ⟨fun _ => .inl rfl, fun _ => rfl⟩, ⟨fun h => (by cases h), fun h => by obtain ⟨m, h⟩ := h; simp at h⟩⟩
  have := stF_enc (StuffedY.pieces l) [] 0 h0 (fun x hx => by cases hx) (by rw [pieces_flat]; simp; omega) (pieces_ok l hb)
  rw [this, pieces_flat, List.nil_append]
theorem ends_iff (l : List Int) : endS 0 l = 0 ↔ l = [] ∨ ends2 l := by
  rw [(endS_last l 0 (.inl rfl)).1]
  constructor
  · rintro (⟨h, _⟩ | ⟨h, _⟩ | h)
    · exact .inl h
    · cases h
    · exact .inr h
  · rintro (h | h)
    · exact .inl ⟨h, rfl⟩
    · exact .inr (.inr h)
/-- What Stuff answers. -/
theorem Stuff_val (l : List Int) (hb : okB l) : lines_Stuff.f l = some (if l.length > 12000 then ([], 1, -1) else if endS 0 l = 0 then (enc 0 l ++ [46, 13, 10], 0, 0) else ([], 5, -2)) := by
  unfold lines_Stuff.f
  by_cases h1 : l.length > 12000
  · rw [if_pos (by omega), if_pos h1]
  · rw [if_neg (by omega), if_neg h1, Stuffed_val l hb (by omega)]
    simp only [Option.bind_some]
    by_cases h2 : l = []
    · subst h2
      rfl
    · have h3 : (l.length : Int) > 0 := by have := List.length_pos_iff.2 h2; omega
      obtain ⟨b, e1, e2⟩ := sfx_val l hb (by omega)
      rw [if_pos h3, e1, Option.bind_some]
      have e3 : endS 0 l = 0 ↔ b = true := by rw [ends_iff, e2]; exact ⟨fun h => h.resolve_left h2, .inr⟩
      by_cases h4 : endS 0 l = 0
      · rw [if_pos h4, if_pos (e3.1 h4)]
      · rw [if_neg h4, if_neg (fun h => h4 (e3.2 h))]
theorem okB_enc : ∀ (l : List Int) (s : Int), okB l → okB (enc s l)
  | [], s, _ => fun x hx => by cases hx
  | c :: l, s, h => by
    have hc := h c (List.mem_cons_self ..)
    show okB (e1 s c ++ enc (n1 s c) l)
    refine okB_app ?_ (okB_enc l _ (fun x hx => h x (List.mem_cons_of_mem _ hx)))
    unfold e1
    split
    · exact okB_small _ (by decide)
    · exact fun y hy => by rw [List.mem_singleton.1 hy]; exact hc

theorem okB_13 : okB [13] := okB_small _ (by decide)
theorem un_okB : ∀ (l : List Int) (s : Int) (out : List Int) (i : Int), okB l → okB out → okB (un l s out i).1
  | [], s, out, i, _, _ => fun x hx => by cases hx
  | c :: l, s, out, i, hl, ho => by
    have hc := hl c (List.mem_cons_self ..)
    have hn : okB (nx s c).2.1 := by
      have h1 : okB [c] := fun y hy => by rw [List.mem_singleton.1 hy]; exact hc
      unfold nx
      repeat' split
      all_goals first | exact h1 | exact okB_nil | exact okB_app okB_13 h1 | exact okB_app okB_nil h1
    rw [un_cons]
    split
    · exact fun x hx => by cases hx
    · split
      · exact okB_app ho hn
      · exact un_okB l _ _ _ (fun x hx => hl x (List.mem_cons_of_mem _ hx)) (okB_app ho hn)

theorem n1_13 (s : Int) : n1 s 13 = 4 := by
  unfold n1
  rw [if_neg (by rintro ⟨_, h⟩; omega), if_pos rfl]
theorem n1_03 (c : Int) : n1 3 c = n1 0 c := by
  unfold n1
  simp
/-- No end of a line within. -/
def nz : Int → List Int → Prop
  | _, [] => True
  | s, c :: l => n1 s c ≠ 0 ∧ nz (n1 s c) l
theorem n1_zero {s c : Int} (h : n1 s c = 0) : s = 4 ∧ c = 10 := by
  unfold n1 at h
  repeat' split at h
  all_goals first | assumption | omega
theorem n1_four {s c : Int} (h : n1 s c = 4) : c = 13 := by
  unfold n1 at h
  repeat' split at h
  all_goals first | assumption | omega
theorem cut_nz : ∀ (S a r : List Int) (s : Int), cutN S = some (a, r) → (s = 4 → S.head? ≠ some 10) → nz s a
  | [], a, r, s, h, _ => by cases h
  | x :: t, a, r, s, h, hs => by
    unfold cutN at h
    by_cases e : x = 13 ∧ t.head? = some 10
    · rw [if_pos e] at h
      cases h
      trivial
    · rw [if_neg e] at h
      cases hc : cutN t with
      | none => rw [hc] at h; cases h
      | some p =>
        rw [hc] at h
        cases h
        refine ⟨fun h0 => ?_, cut_nz t p.1 p.2 (n1 s x) hc (fun h4 h10 => e ⟨n1_four h4, h10⟩)⟩
        obtain ⟨h1, h2⟩ := n1_zero h0
        exact hs h1 (by rw [h2]; rfl)
theorem none_nz : ∀ (S : List Int) (s : Int), cutN S = none → (s = 4 → S.head? ≠ some 10) → nz s S
  | [], s, h, _ => trivial
  | x :: t, s, h, hs => by
    unfold cutN at h
    by_cases e : x = 13 ∧ t.head? = some 10
    · rw [if_pos e] at h
      cases h
    · rw [if_neg e] at h
      cases hc : cutN t with
      | some p => rw [hc] at h; cases h
      | none =>
        refine ⟨fun h0 => ?_, none_nz t (n1 s x) hc (fun h4 h10 => e ⟨n1_four h4, h10⟩)⟩
        obtain ⟨h1, h2⟩ := n1_zero h0
        exact hs h1 (by rw [h2]; rfl)
theorem enc_nz : ∀ (l : List Int) (s : Int), s ≠ 0 → nz s l → enc s l = l
  | [], _, _, _ => rfl
  | c :: l, s, hs, h => by
    show e1 s c ++ enc (n1 s c) l = c :: l
    rw [enc_nz l (n1 s c) h.1 h.2]
    unfold e1
    rw [if_neg (fun hh => hs hh.1)]
    rfl
def dotp (a : List Int) : List Int := if a.head? = some 46 then [46] else []
theorem enc_line {S a r : List Int} (h : cutN S = some (a, r)) : enc 0 S = dotp a ++ a ++ 13 :: 10 :: enc 0 r := by
  have hn := cut_nz S a r 0 h (by omega)
  have he := cutN_eq h
  have ha : enc 0 a = dotp a ++ a := by
    cases a with
    | nil => rfl
    | cons c l =>
      show e1 0 c ++ enc (n1 0 c) l = _
      rw [enc_nz l _ hn.1 hn.2]
      unfold e1 dotp
      by_cases e : c = 46
      · rw [if_pos ⟨rfl, e⟩, if_pos (by rw [e]; rfl), e]
        rfl
      · rw [if_neg (fun hh => e hh.2), if_neg (by simpa using e)]
        rfl
  rw [he, enc_app, ha]
  congr 1
  show e1 (endS 0 a) 13 ++ (e1 (n1 (endS 0 a) 13) 10 ++ enc (n1 (n1 (endS 0 a) 13) 10) r) = _
  have h1 : n1 (endS 0 a) 13 = 4 := by unfold n1; rw [if_neg (by omega), if_pos rfl]
  rw [h1]
  have h2 : e1 (endS 0 a) 13 = [13] := by unfold e1; rw [if_neg (by omega)]
  rw [h2]
  rfl
/-- Lines as they are sent. -/
def sentL : List (List Int) → List Int
  | [] => []
  | a :: l => dotp a ++ a ++ 13 :: 10 :: sentL l
theorem enc_sp : ∀ (n : Nat) (S : List Int), S.length ≤ n → (sp S).2 = [] → enc 0 S = sentL (sp S).1
  | n, S, h, h2 => by
    cases hc : cutN S with
    | none =>
      rw [sp_none hc] at h2 ⊢
      obtain rfl : S = [] := h2
      rfl
    | some p =>
      have hl := cutN_len (a := p.1) (r := p.2) hc
      rw [sp_some (a := p.1) (r := p.2) hc] at h2 ⊢
      cases n with
      | zero => omega
      | succ n => rw [enc_line (a := p.1) (r := p.2) hc, enc_sp n p.2 (by omega) h2]; rfl
theorem endS_join : ∀ (n : Nat) (S : List Int), S.length ≤ n → (endS 0 S = 0 ↔ (sp S).2 = [])
  | n, S, h => by
    cases hc : cutN S with
    | none =>
      have hn := none_nz S 0 hc (by omega)
      rw [sp_none hc]
      show _ ↔ S = []
      cases S with
      | nil => exact ⟨fun _ => rfl, fun _ => rfl⟩
      | cons c l =>
        have : ∀ (l : List Int) (s : Int), s ≠ 0 → nz s l → endS s l ≠ 0 := by
          intro l
          induction l with
          | nil => intro s hs _; exact hs
          | cons c l ih => intro s hs h; exact ih _ h.1 h.2
        exact ⟨fun h0 => absurd h0 (this l _ hn.1 hn.2), fun h0 => by cases h0⟩
    | some p =>
      have hl := cutN_len (a := p.1) (r := p.2) hc
      have he := cutN_eq (a := p.1) (r := p.2) hc
      rw [sp_some (a := p.1) (r := p.2) hc]
      cases n with
      | zero => omega
      | succ n =>
        rw [← endS_join n p.2 (by omega)]
        conv => lhs; rw [he]
        have happ : ∀ (a b : List Int) (s : Int), endS s (a ++ b) = endS (endS s a) b := by
          intro a
          induction a with
          | nil => intro b s; rfl
          | cons c a ih => intro b s; exact ih b (n1 s c)
        rw [happ]
        show endS (n1 (n1 (endS 0 p.1) 13) 10) p.2 = 0 ↔ _
        have h1 : n1 (endS 0 p.1) 13 = 4 := by unfold n1; rw [if_neg (by omega), if_pos rfl]
        rw [h1]
        rfl
/-! What is received. -/
def undot (a : List Int) : List Int := if a.head? = some 46 then a.tail else a
def recv : List Int → List (List Int) → List Int → Int → List Int × Int × Bool
  | out, [], t, _ => ([], 0, decide ((out ++ (if t = [46] ∨ t = [46, 13] then [] else undot t)).length > 12000))
  | out, a :: l, t, i => if a = [46] then (out, i + 3, decide (out.length > 12000)) else recv (out ++ undot a ++ [13, 10]) l t (i + a.length + 2)
theorem recv_big : ∀ (l : List (List Int)) (out t : List Int) (i : Int), out.length > 12000 → (recv out l t i).2.2 = true
  | [], out, t, i, h => by
    unfold recv
    exact decide_eq_true (by rw [List.length_append]; omega)
  | a :: l, out, t, i, h => by
    unfold recv
    split
    · exact decide_eq_true h
    · exact recv_big l _ t _ (by rw [List.length_append, List.length_append]; omega)
def conv (x : List Int × Int × Bool) : List Int × Int × Bool × Int × Int := if x.2.2 = true then ([], 0, false, 1, -2) else (x.1, x.2.1, decide (x.2.1 > 0), 0, 0)
theorem un_plain : ∀ (p : List Int) (s : Int) (X out : List Int) (i : Int), okS s → s ≠ 0 → nz s p → out.length ≤ 12000 →
    un (p ++ X) s out i = if (out ++ p).length > 12000 then ([], 0, false, 1, -2) else un X (endS s p) (out ++ p) (i + p.length)
  | [], s, X, out, i, _, _, _, ho => by
    rw [List.append_nil, if_neg (by omega)]
    simp [endS]
  | c :: p, s, X, out, i, hs, h0, hn, ho => by
    rw [List.cons_append, un_cons, nx_plain hs (fun h => h0 h.1)]
    simp only [Bool.false_eq_true, if_false]
    by_cases e : (out ++ [c]).length > 12000
    · rw [if_pos e, if_pos]
      simp only [List.length_append, List.length_cons, List.length_nil] at e ⊢
      omega
    · rw [if_neg e, un_plain p (n1 s c) X (out ++ [c]) (i + 1) (n1_ok s c) hn.1 hn.2 (by omega)]
      rw [List.append_assoc, List.singleton_append]
      show (if _ then _ else un X (endS (n1 s c) p) _ _) = _
      rw [List.length_cons, show i + 1 + (p.length : Int) = i + ((p.length + 1 : Nat) : Int) by omega]
      rfl
theorem un_03 (Y out : List Int) (i : Int) (h : Y.head? ≠ some 46) : un Y 0 out i = un Y 3 out i := by
  cases Y with
  | nil => rfl
  | cons c l =>
    have hc : c ≠ 46 := fun e => h (by rw [e]; rfl)
    have e1 : nx 0 c = nx 3 c := by
      rw [nx_plain (.inl rfl) (fun h => hc h.2), nx_plain (.inr (.inl rfl)) (fun h => by omega), n1_03]
    rw [un_cons, un_cons, e1]
theorem nx1 {d : Int} (h : d ≠ 13) : nx 1 d = nx 3 d := by
  unfold nx
  simp [h]
theorem nx2 {e : Int} (h : e ≠ 10) : nx 2 e = (n1 4 e, [13, e], false) := by
  unfold nx n1
  simp [h]
theorem un_13 (Y out : List Int) (i : Int) (ho : out.length ≤ 12000) (h : (∃ d l, Y = d :: l ∧ d ≠ 13) ∨ (∃ e l, Y = 13 :: e :: l ∧ e ≠ 10)) : un Y 1 out i = un Y 3 out i := by
  rcases h with ⟨d, l, rfl, hd⟩ | ⟨e, l, rfl, he⟩
  · rw [un_cons, un_cons, nx1 hd]
  · have h3 : nx 3 13 = (4, [13], false) := rfl
    have h4 : nx 4 e = (n1 4 e, [e], false) := nx_plain (.inr (.inr rfl)) (fun h => by omega)
    have h1 : nx 1 13 = (2, [], false) := rfl
    rw [un_cons 13 (e :: l) 1, un_cons 13 (e :: l) 3, h1, h3]
    simp only [List.append_nil, Bool.false_eq_true, if_false]
    rw [if_neg (by omega), un_cons e l 2, un_cons e l 4, nx2 he, h4]
    simp only [Bool.false_eq_true, if_false, List.append_assoc, List.singleton_append]
    by_cases e2 : (out ++ [13]).length > 12000
    · rw [if_pos e2, if_pos]
      simp only [List.length_append, List.length_cons, List.length_nil] at e2 ⊢
      omega
    · rw [if_neg e2]
theorem nz_03 {l : List Int} (h : nz 0 l) : nz 3 l := by
  cases l with
  | nil => trivial
  | cons c l =>
    have e : n1 3 c = n1 0 c := n1_03 c
    show n1 3 c ≠ 0 ∧ nz (n1 3 c) l
    rw [e]
    exact h
theorem nz_undot {a : List Int} (h : nz 0 a) : nz 3 (undot a) := by
  unfold undot
  split
  · rename_i e
    cases a with
    | nil => cases e
    | cons c l =>
      cases e
      exact h.2
  · exact nz_03 h
theorem nz_snoc : ∀ (l : List Int) (s : Int), nz s l → nz s (l ++ [13])
  | [], s, _ => ⟨by unfold n1; rw [if_neg (by omega), if_pos rfl]; omega, trivial⟩
  | c :: l, s, h => ⟨h.1, nz_snoc l _ h.2⟩
theorem endS_snoc (l : List Int) (s : Int) : endS s (l ++ [13]) = 4 := by
  have happ : ∀ (a b : List Int) (s : Int), endS s (a ++ b) = endS (endS s a) b := by
    intro a
    induction a with
    | nil => intro b s; rfl
    | cons c a ih => intro b s; exact ih b (n1 s c)
  rw [happ]
  show n1 _ 13 = 4
  unfold n1
  rw [if_neg (by omega), if_pos rfl]
/-- The beginning of a line. -/
theorem un_start (a X out : List Int) (i : Int) (ho : out.length ≤ 12000) (hX : a.head? ≠ some 46 → (a ++ X).head? ≠ some 46) (h : a.head? = some 46 → (∃ d l, a.tail ++ X = d :: l ∧ d ≠ 13) ∨ (∃ e l, a.tail ++ X = 13 :: e :: l ∧ e ≠ 10)) :
    un (a ++ X) 0 out i = un (undot a ++ X) 3 out (i + ((a.length - (undot a).length : Nat) : Int)) := by
  unfold undot
  by_cases e : a.head? = some 46
  · have h := h e
    rw [if_pos e]
    cases a with
    | nil => cases e
    | cons c l =>
      cases e
      rw [List.cons_append, un_cons, nx_dot]
      simp only [List.append_nil, Bool.false_eq_true, if_false]
      rw [if_neg (by omega)]
      refine (un_13 _ out (i + 1) ho h).trans ?_
      simp
  · rw [if_neg e, un_03 _ _ _ (hX e)]
    simp
theorem tail_ok {a X : List Int} (hn : nz 0 a) (h : a.head? = some 46) (hX : ∃ d l, X = d :: l ∧ (d = 13 → ∃ e m, l = e :: m ∧ (a.tail = [] → e ≠ 10)) ) (h13 : a.tail = [13] → X.head? ≠ some 10) : (∃ d l, a.tail ++ X = d :: l ∧ d ≠ 13) ∨ (∃ e l, a.tail ++ X = 13 :: e :: l ∧ e ≠ 10) := by
  cases a with
  | nil => cases h
  | cons c a =>
    cases h
    show (∃ d l, a ++ X = d :: l ∧ d ≠ 13) ∨ _
    cases a with
    | nil =>
      obtain ⟨d, l, rfl, h2⟩ := hX
      by_cases e : d = 13
      · subst e
        obtain ⟨e, m, rfl, h3⟩ := h2 rfl
        exact .inr ⟨e, m, rfl, h3 rfl⟩
      · exact .inl ⟨d, l, rfl, e⟩
    | cons d a =>
      by_cases e : d = 13
      · subst e
        right
        cases a with
        | nil =>
          obtain ⟨d, l, rfl, _⟩ := hX
          exact ⟨d, l, rfl, fun h => h13 rfl (by rw [h]; rfl)⟩
        | cons e a =>
          refine ⟨e, a ++ X, rfl, fun h => ?_⟩
          subst h
          exact hn.2.2.1 rfl
      · exact .inl ⟨d, a ++ X, rfl, e⟩
theorem un_recv : ∀ (n : Nat) (S : List Int), S.length ≤ n → ∀ (out : List Int) (i : Int), out.length ≤ 12000 → 0 ≤ i → un S 0 out i = conv (recv out (sp S).1 (sp S).2 i)
  | n, S, h => by
    intro out i ho hi
    cases hc : cutN S with
    | none =>
      have hn := none_nz S 0 hc (by omega)
      rw [sp_none hc]
      show _ = conv (recv out [] S i)
      have hr : ∀ q : List Int, (if S = [46] ∨ S = [46, 13] then [] else undot S) = q → recv out [] S i = ([], 0, decide ((out ++ q).length > 12000)) := by
        rintro q rfl
        rfl
      by_cases e1 : S = [46]
      · rw [hr [] (if_pos (Or.inl e1)), List.append_nil, decide_eq_false (by omega)]
        show _ = ([], 0, false, 0, 0)
        subst e1
        rw [un_cons, nx_dot]
        simp only [List.append_nil, Bool.false_eq_true, if_false]
        rw [if_neg (by omega)]
        rfl
      by_cases e2 : S = [46, 13]
      · rw [hr [] (if_pos (Or.inr e2)), List.append_nil, decide_eq_false (by omega)]
        show _ = ([], 0, false, 0, 0)
        subst e2
        rw [un_cons, nx_dot]
        simp only [List.append_nil, Bool.false_eq_true, if_false]
        rw [if_neg (by omega), un_cons, show nx 1 13 = (2, [], false) from rfl]
        simp only [List.append_nil, Bool.false_eq_true, if_false]
        rw [if_neg (by omega)]
        rfl
      rw [hr (undot S) (if_neg (fun h => h.elim e1 e2))]
      have hs := un_start S [] out i ho (fun h => by rw [List.append_nil]; exact h) (fun h46 => by
        rw [List.append_nil]
        cases S with
        | nil => cases h46
        | cons c l =>
          cases h46
          cases l with
          | nil => exact absurd rfl e1
          | cons d l =>
            by_cases e : d = 13
            · subst e
              cases l with
              | nil => exact absurd rfl e2
              | cons e l => exact .inr ⟨e, l, rfl, fun h => by subst h; exact hn.2.2.1 rfl⟩
            · exact .inl ⟨d, l, rfl, e⟩)
      simp only [List.append_nil] at hs
      have hp := un_plain (undot S) 3 [] out (i + ((S.length - (undot S).length : Nat) : Int)) (.inr (.inl rfl)) (by omega) (nz_undot hn) ho
      rw [List.append_nil] at hp
      rw [hs, hp]
      by_cases e : (out ++ undot S).length > 12000
      · rw [if_pos e, decide_eq_true e]
        rfl
      · rw [if_neg e, decide_eq_false e]
        rfl
    | some p =>
      have hl := cutN_len (a := p.1) (r := p.2) hc
      have he := cutN_eq (a := p.1) (r := p.2) hc
      have hn := cut_nz S p.1 p.2 0 hc (by omega)
      rw [sp_some (a := p.1) (r := p.2) hc]
      cases n with
      | zero => omega
      | succ n =>
        have ih := un_recv n p.2 (by omega)
        unfold recv
        by_cases e1 : p.1 = [46]
        · rw [if_pos e1]
          unfold conv
          rw [decide_eq_false (by omega)]
          conv => lhs; rw [he, e1]
          show un (46 :: 13 :: 10 :: p.2) 0 out i = _
          rw [un_cons, nx_dot]
          simp only [List.append_nil, Bool.false_eq_true, if_false]
          rw [if_neg (by omega), un_cons, show nx 1 13 = (2, [], false) from rfl]
          simp only [List.append_nil, Bool.false_eq_true, if_false]
          rw [if_neg (by omega), un_cons, show nx 2 10 = (0, [], true) from rfl]
          simp only [List.append_nil, if_true]
          rw [if_neg (by omega), decide_eq_true (by omega)]
          congr 2
          omega
        · rw [if_neg e1]
          have hs := un_start p.1 (13 :: 10 :: p.2) out i ho (fun h => by
            cases hp : p.1 with
            | nil => simp
            | cons c l => rw [hp] at h; exact h) (fun h46 => by
            cases hp : p.1 with
            | nil => rw [hp] at h46; cases h46
            | cons c l =>
              rw [hp] at h46 hn
              cases h46
              cases l with
              | nil => exact absurd hp e1
              | cons d l =>
                by_cases e : d = 13
                · subst e
                  cases l with
                  | nil => exact .inr ⟨13, _, rfl, by omega⟩
                  | cons e l => exact .inr ⟨e, _, rfl, fun h => by subst h; exact hn.2.2.1 rfl⟩
                · exact .inl ⟨d, _, rfl, e⟩)
          conv => lhs; rw [he]
          rw [hs]
          have e3 : undot p.1 ++ 13 :: 10 :: p.2 = (undot p.1 ++ [13]) ++ 10 :: p.2 := by simp
          rw [e3, un_plain (undot p.1 ++ [13]) 3 (10 :: p.2) out _ (.inr (.inl rfl)) (by omega) (nz_snoc _ _ (nz_undot hn)) ho, endS_snoc]
          have hle : (undot p.1).length ≤ p.1.length := by unfold undot; split <;> simp
          by_cases e : (out ++ (undot p.1 ++ [13])).length > 12000
          · rw [if_pos e]
            have hb := recv_big (sp p.2).1 (out ++ undot p.1 ++ [13, 10]) (sp p.2).2 (i + (p.1.length : Int) + 2) (by simp only [List.length_append, List.length_cons, List.length_nil] at e ⊢; omega)
            unfold conv
            rw [if_pos hb]
          · rw [if_neg e, un_cons, show nx 4 10 = (0, [10], false) from rfl]
            simp only [Bool.false_eq_true, if_false]
            have e4 : out ++ (undot p.1 ++ [13]) ++ [10] = out ++ undot p.1 ++ [13, 10] := by simp
            rw [e4]
            by_cases e5 : (out ++ undot p.1 ++ [13, 10]).length > 12000
            · rw [if_pos e5]
              have hb := recv_big (sp p.2).1 (out ++ undot p.1 ++ [13, 10]) (sp p.2).2 (i + (p.1.length : Int) + 2) e5
              unfold conv
              rw [if_pos hb]
            · rw [if_neg e5, ih _ _ (by omega) (by omega)]
              congr 2
              simp only [List.length_append, List.length_cons, List.length_nil]
              omega

theorem str_tail (x : Int) (l : List Int) : (strOfNums (x :: l)).extract 1 (strOfNums (x :: l)).size = strOfNums l := by
  have h1 : ∀ a b : ByteArray, a.data.toList = b.data.toList → a = b := fun a b h => Go.WideShapes.bytes_inj h
  apply h1
  rw [ByteArray.data_extract, Array.toList_extract, List.extract_eq_take_drop, str_size]
  simp [strOfNums, List.take_of_length_le]
theorem bt_str (x : Int) (l : List Int) (hx : 0 ≤ x ∧ x < 256) : bt (strOfNums (x :: l)) 0 = x := by
  have h : bytesOf (strOfNums (x :: l)) = bytesOf (strOfNums (x :: l)) := rfl
  have h2 := rd_bytesOf (strOfNums (x :: l)) 0
  rw [← h2]
  have h3 : bytesOf (strOfNums (x :: l)) = ((x.toNat.toUInt8).toNat : Int) :: bytesOf (strOfNums l) := by
    unfold bytesOf strOfNums
    simp
  rw [h3]
  show ((x.toNat.toUInt8).toNat : Int) = x
  obtain ⟨m, rfl⟩ := Int.eq_ofNat_of_zero_le hx.1
  simp
  omega
theorem undotted_val (a : List Int) (h : okB a) : posthouseref3_undotted.f (strOfNums a) = some (strOfNums (undot a)) := by
  unfold posthouseref3_undotted.f undot
  cases a with
  | nil => rfl
  | cons x l =>
    have hx := h x (List.mem_cons_self ..)
    have hs : ((strOfNums (x :: l)).size : Int) > 0 := by rw [str_size, List.length_cons]; omega
    rw [if_pos hs, if_pos hs, bt_str x l hx, str_tail]
    by_cases e : x = 46
    · rw [if_pos e, if_pos (by omega), if_pos (by rw [e]; rfl)]
      rfl
    · rw [if_neg e, if_neg (by simpa using e)]
theorem okB_undot {a : List Int} (h : okB a) : okB (undot a) := by
  unfold undot
  split
  · exact fun x hx => h x (List.mem_of_mem_tail hx)
  · exact h
theorem str_46 {a : List Int} (h : okB a) : (strOfNums a).toList = ([46] : List UInt8) ↔ a = [46] := by
  have : ([46] : List UInt8) = (strOfNums [46]).toList := by decide +kernel
  rw [this]
  exact str_inj h okB_46
theorem str_4613 {a : List Int} (h : okB a) : (strOfNums a).toList = ([46, 13] : List UInt8) ↔ a = [46, 13] := by
  have : ([46, 13] : List UInt8) = (strOfNums [46, 13]).toList := by decide +kernel
  rw [this]
  exact str_inj h (okB_small _ (by decide))
theorem joinL_len2 : ∀ (l : List (List Int)), ∀ a ∈ l, a.length + 2 ≤ (joinL l).length
  | [], a, h => by cases h
  | b :: l, a, h => by
    unfold joinL
    simp only [List.length_append, List.length_cons]
    rcases List.mem_cons.1 h with rfl | h
    · omega
    · have := joinL_len2 l a h
      omega
/-- The reference's reading, over the lines. -/
theorem recv_loop (t : List Int) (ht : okB t) (hT : t.length ≤ 40000) : ∀ (suf pre : List (List Int)) (out : List Int) (i : Int), (∀ a ∈ suf, okB a) → out.length + (joinL suf).length ≤ 80000 → 0 ≤ i → i + (joinL suf).length ≤ 100000 → pre.length + suf.length ≤ 40000 →
    Ev (fun k => posthouseref3_Received.l0 k ((pre ++ suf).map strOfNums) t out i (pre.length : Int)) (recv out suf t i)
  | [], pre, out, i, _, ho, hi, hj, hp => by
    have hlen : ((pre ++ []).map strOfNums).length = pre.length := by simp
    have hu := undotted_val t ht
    have hul : (undot t).length ≤ t.length := by unfold undot; split <;> simp
    refine Ev.succ (Ev.const fun k => ?_)
    unfold posthouseref3_Received.l0 recv
    rw [hlen, if_neg (by omega), hu]
    simp only [Option.bind_some, str_46 ht, str_4613 ht, str_size]
    simp only [joinL, List.length_nil] at ho
    by_cases e1 : t = [46]
    · rw [if_pos e1, if_pos (Or.inl e1), List.append_nil, w64 _ (by omega)]
      congr 3
      rw [decide_eq_decide]
      omega
    · rw [if_neg e1]
      by_cases e2 : t = [46, 13]
      · rw [if_pos e2, if_pos (Or.inr e2), List.append_nil, w64 _ (by omega)]
        congr 3
        rw [decide_eq_decide]
        omega
      · rw [if_neg e2, if_neg (fun h => h.elim e1 e2), w64 _ (by omega), List.length_append]
        congr 3
        rw [decide_eq_decide]
        omega
  | a :: s, pre, out, i, ha, ho, hi, hj, hp => by
    have hlen : ((pre ++ a :: s).map strOfNums).length = pre.length + (s.length + 1) := by simp
    have hget : rdOf ByteArray.empty ((pre ++ a :: s).map strOfNums) (pre.length : Int) = strOfNums a := lrdO (by simp)
    have hab := ha a (List.mem_cons_self ..)
    have hu := undotted_val a hab
    have hul : (undot a).length ≤ a.length := by unfold undot; split <;> simp
    have hjl : (joinL (a :: s)).length = a.length + 2 + (joinL s).length := by simp [joinL]; omega
    rw [hjl] at ho hj
    simp only [List.length_cons] at hp
    have hw1 : wrap64 (i + (a.length : Int)) = i + a.length := w64 _ (by omega)
    have hw2 : wrap64 (i + (a.length : Int) + 2) = i + a.length + 2 := w64 _ (by omega)
    have hw3 : wrap64 ((pre.length : Int) + 1) = ((pre ++ [a]).length : Int) := by rw [w64 _ (by omega)]; simp
    refine Ev.succ ?_
    unfold posthouseref3_Received.l0 recv
    simp only [hget, hlen, str_size, hw1, hw2, str_46 hab, hu, Option.bind_some]
    by_cases e : a = [46]
    · rw [if_pos e]
      refine Ev.const fun k => ?_
      rw [if_pos (by omega), if_pos (by omega), if_pos e, e]
      have h3 : i + (([46] : List Int).length : Int) + 2 = i + 3 := by simp; omega
      rw [h3]
      congr 2
      congr 1
      rw [decide_eq_decide]
      omega
    · rw [if_neg e]
      have ih := recv_loop t ht hT s (pre ++ [a]) (out ++ undot a ++ [13, 10]) (i + a.length + 2) (fun b hb => ha b (List.mem_cons_of_mem _ hb)) (by simp; omega) (by omega) (by omega) (by simp; omega)
      have hs : (pre ++ [a]) ++ s = pre ++ a :: s := by simp
      rw [hs] at ih
      refine ih.congr fun k => ?_
      rw [if_pos (by omega), if_pos (by omega), if_neg e, if_pos (by omega), bytesOf_str (okB_undot hab), if_pos (by simp; omega), hw3]
/-- What is sent, over the lines. -/
theorem sent_loop (L : List (List Int)) (hL : (joinL L).length ≤ 12000) : ∀ (suf pre : List (List Int)) (out : List Int), L = pre ++ suf → (∀ a ∈ suf, okB a) → out.length + 3 * (joinL suf).length ≤ 100000 →
    Ev (fun k => posthouseref3_Sent.l0 k (L.map strOfNums ++ [strOfNums []]) out (pre.length : Int)) (out ++ sentL suf ++ [46, 13, 10])
  | [], pre, out, he, _, ho => by
    have hL2 : L = pre := by simpa using he
    have hnl := joinL_len L
    have hlen : (L.map strOfNums ++ [strOfNums []]).length = pre.length + 1 := by rw [hL2]; simp
    have hget : rdOf ByteArray.empty (L.map strOfNums ++ [strOfNums []]) (pre.length : Int) = strOfNums [] := lrdO (by rw [hL2]; simp)
    have hw : wrap64 ((pre.length : Int) + 1) = (pre.length : Int) + 1 := w64 _ (by rw [hL2] at hnl hL; omega)
    have h0 : ((strOfNums []).size : Int) = 0 := by rw [str_size]; rfl
    have h00 : (strOfNums []).size = 0 := by rw [str_size]; rfl
    have hb : bytesOf (strOfNums []) = [] := rfl
    simp only [joinL, List.length_nil] at ho
    refine Ev.succ (Ev.succ (Ev.succ (Ev.const fun k => ?_)))
    simp only [posthouseref3_Sent.l0, posthouseref3_Sent.j1, hlen, hget, h0, h00, hb, hw, Option.bind_some]
    rw [if_pos (by omega), if_pos (by omega), if_neg (by omega), if_neg (by simp), if_pos (by omega), if_pos (by omega), if_pos (by omega), if_neg (by omega), if_neg (by omega)]
    simp [sentL]
    omega
  | a :: s, pre, out, he, ha, ho => by
    have hnl := joinL_len L
    have hLl : L.length = pre.length + (s.length + 1) := by rw [he]; simp
    have hlen : (L.map strOfNums ++ [strOfNums []]).length = pre.length + (s.length + 2) := by rw [he]; simp
    have hget : rdOf ByteArray.empty (L.map strOfNums ++ [strOfNums []]) (pre.length : Int) = strOfNums a := lrdO (by rw [he]; simp)
    have hw : wrap64 ((pre.length : Int) + 1) = ((pre ++ [a]).length : Int) := by rw [w64 _ (by omega)]; simp
    have hab := ha a (List.mem_cons_self ..)
    have hjl : (joinL (a :: s)).length = a.length + 2 + (joinL s).length := by simp [joinL]; omega
    rw [hjl] at ho
    have hpl : ((pre ++ [a]).length : Int) = pre.length + 1 := by simp
    have ih := sent_loop L hL s (pre ++ [a]) (out ++ dotp a ++ a ++ [13, 10]) (by rw [he]; simp) (fun b hb => ha b (List.mem_cons_of_mem _ hb)) (by
      have : (dotp a).length ≤ 1 := by unfold dotp; split <;> simp
      simp only [List.length_append, List.length_cons, List.length_nil]
      omega)
    have hval : (out ++ dotp a ++ a ++ [13, 10]) ++ sentL s ++ [46, 13, 10] = out ++ sentL (a :: s) ++ [46, 13, 10] := by simp [sentL]
    rw [hval] at ih
    have hj1 : ∀ b : Bool, (b = true ↔ a.head? = some 46) → Ev (fun k => posthouseref3_Sent.j1 k (L.map strOfNums ++ [strOfNums []]) out (pre.length : Int) b) (out ++ sentL (a :: s) ++ [46, 13, 10]) := by
      intro b hb
      refine Ev.succ ?_
      simp only [posthouseref3_Sent.j1, hlen, hget, str_size, bytesOf_str hab, hw, Option.bind_some]
      refine ih.congr fun k => ?_
      cases b with
      | true =>
        have hd : dotp a = [46] := by unfold dotp; rw [if_pos (hb.1 rfl)]
        rw [hd]
        rw [if_pos rfl, if_pos (by omega), if_pos (by omega), if_pos (by omega), if_pos (by simp; omega), if_pos (by omega), if_pos (by simp; omega)]
      | false =>
        have hd : dotp a = [] := by unfold dotp; rw [if_neg (fun h => by have := hb.2 h; cases this)]
        rw [hd, List.append_nil]
        rw [if_neg (by simp), if_pos (by omega), if_pos (by omega), if_pos (by omega), if_pos (by omega), if_pos (by simp; omega)]
    refine Ev.succ ?_
    simp only [posthouseref3_Sent.l0, hlen, hget, str_size]
    cases ha0 : a with
    | nil =>
      rw [ha0] at hj1
      refine (hj1 false (by simp)).congr fun k => ?_
      rw [if_pos (by omega), if_pos (by omega), if_neg (by simp)]
    | cons x l =>
      rw [ha0] at hj1 hab
      have hx := hab x (List.mem_cons_self ..)
      refine (hj1 (x == 46) (by simp)).congr fun k => ?_
      rw [if_pos (by omega), if_pos (by omega), if_pos (by simp), if_pos (by simp), bt_str x l hx]
theorem Sent_ev (b : List Int) (hb : okB b) (hl : b.length ≤ 12000) (h0 : (sp b).2 = []) : Ev (fun k => posthouseref3_Sent.f k b) (sentL (sp b).1 ++ [46, 13, 10]) := by
  unfold posthouseref3_Sent.f
  have hj := sp_join b.length b (Nat.le_refl _)
  rw [h0, List.append_nil] at hj
  have hjl : (joinL (sp b).1).length ≤ 12000 := by rw [← hj]; exact hl
  have hln := joinL_len (sp b).1
  refine Ev.bind (Lines_ev b (by omega)) ?_
  simp only
  refine (sent_loop (sp b).1 hjl (sp b).1 [] [] rfl (sp_okB b.length b (Nat.le_refl _) hb) (by simp; omega)).congr fun k => ?_
  rw [h0, if_pos (by simp; omega)]
  rfl
theorem Received_ev (b : List Int) (hb : okB b) (hl : b.length ≤ 40000) : Ev (fun k => posthouseref3_Received.f k b) (recv [] (sp b).1 (sp b).2 0) := by
  unfold posthouseref3_Received.f
  have hj := sp_join b.length b (Nat.le_refl _)
  have hjl := congrArg List.length hj
  rw [List.length_append] at hjl
  have hs := sp_len b.length b (Nat.le_refl _)
  have ht : okB (sp b).2 := fun x hx => hb x (by rw [hj]; exact List.mem_append_right _ hx)
  refine Ev.bind (Lines_ev b (by omega)) ?_
  exact recv_loop (sp b).2 ht (by omega) (sp b).1 [] [] 0 (sp_okB b.length b (Nat.le_refl _) hb) (by simp; omega) (by omega) (by omega) (by simp; omega)
theorem okB_recv : ∀ (l : List (List Int)) (out t : List Int) (i : Int), okB out → (∀ a ∈ l, okB a) → okB (recv out l t i).1
  | [], out, t, i, _, _ => okB_nil
  | a :: l, out, t, i, ho, hl => by
    unfold recv
    split
    · exact ho
    · exact okB_recv l _ t _ (okB_app (okB_app ho (okB_undot (hl a (List.mem_cons_self ..)))) (okB_small _ (by decide))) (fun b hb => hl b (List.mem_cons_of_mem _ hb))
theorem pure (b : List Int) (hwf : XOpen.WFs 1 (fun x_ : Int => (Lit.int .u8 x_).wf = true) b) (hbig : b.length ≤ 1048576) : ∃ k, posthouselaw3_LinesDataMatchSpec.f k b = some true := by
  have hb := okB_wf hwf
  refine Ev.ex ?_
  unfold posthouselaw3_LinesDataMatchSpec.f
  rw [Stuff_val b hb]
  simp only [Option.bind_some]
  refine Ev.bind (Unstuff_ev b) (Ev.bind splits_ev ?_)
  simp only [if_true]
  have hj1 : Ev (fun k => posthouselaw3_LinesDataMatchSpec.j1 k b (if b.length > 40000 then ([], 0, false, 1, -1) else un b 0 [] 0).1 (if b.length > 40000 then ([], 0, false, 1, -1) else un b 0 [] 0).2.1 (if b.length > 40000 then ([], 0, false, 1, -1) else un b 0 [] 0).2.2.1 false (if b.length > 40000 then ([], 0, false, 1, -1) else un b 0 [] 0).2.2.2.1 (if b.length > 40000 then ([], 0, false, 1, -1) else un b 0 [] 0).2.2.2.2) true := by
    refine Ev.succ ?_
    simp only [posthouselaw3_LinesDataMatchSpec.j1, Bool.false_eq_true, if_false, posthouseref3_At.f, Option.bind_some]
    by_cases e : b.length > 40000
    · refine Ev.const fun k => ?_
      rw [if_pos (by omega), if_pos e]
      rfl
    · simp only [if_neg e, if_neg (show ¬ (b.length : Int) > 40000 by omega)]
      refine Ev.bind (Received_ev b hb (by omega)) ?_
      have hu := un_recv b.length b (Nat.le_refl _) [] 0 (by simp) (Int.le_refl _)
      have hok := un_okB b 0 [] 0 hb okB_nil
      have hok2 := okB_recv (sp b).1 [] (sp b).2 0 okB_nil (sp_okB b.length b (Nat.le_refl _) hb)
      rw [hu] at hok ⊢
      refine Ev.const fun k => ?_
      generalize recv [] (sp b).1 (sp b).2 0 = R at hok hok2 ⊢
      obtain ⟨d, u, m⟩ := R
      unfold conv at hok ⊢
      cases m with
      | true => rfl
      | false =>
        simp only [Bool.false_eq_true, if_false] at hok hok2 ⊢
        rw [if_pos trivial, if_pos (by simp), if_pos trivial]
        simp
  have hj0 : ∀ (x3 : List Int) (c d : Int), (c = 0 → endS 0 b = 0 ∧ b.length ≤ 12000 ∧ x3 = enc 0 b ++ [46, 13, 10]) → (c ≠ 0 → x3 = []) →
      Ev (fun k => posthouselaw3_LinesDataMatchSpec.j0 k b x3 (if b.length > 40000 then ([], 0, false, 1, -1) else un b 0 [] 0).1 (if b.length > 40000 then ([], 0, false, 1, -1) else un b 0 [] 0).2.1 (if b.length > 40000 then ([], 0, false, 1, -1) else un b 0 [] 0).2.2.1 c d (if b.length > 40000 then ([], 0, false, 1, -1) else un b 0 [] 0).2.2.2.1 (if b.length > 40000 then ([], 0, false, 1, -1) else un b 0 [] 0).2.2.2.2 c d) true := by
    intro x3 c d hc0 hc1
    refine Ev.succ ?_
    simp only [posthouselaw3_LinesDataMatchSpec.j0, BEq.rfl, Bool.not_true, Bool.or_self, Bool.false_eq_true, if_false]
    by_cases e : c = 0
    · obtain ⟨h1, h2, h3⟩ := hc0 e
      have hsp := (endS_join b.length b (Nat.le_refl _)).1 h1
      have hs := Sent_ev b hb h2 hsp
      have hx : x3 = sentL (sp b).1 ++ [46, 13, 10] := by rw [h3, enc_sp b.length b (Nat.le_refl _) hsp]
      simp only [if_pos e]
      refine Ev.bind hs ?_
      have hne : ((strOfNums x3).toList != (strOfNums (sentL (sp b).1 ++ [46, 13, 10])).toList) = false := by rw [hx]; exact bne_self_eq_false _
      simp only [hne]
      exact hj1
    · have hx := hc1 e
      refine hj1.congr fun k => ?_
      rw [if_neg e, hx, if_neg (by simp)]
  have hleft := endS_join b.length b (Nat.le_refl _)
  by_cases h1 : b.length > 12000
  · simp only [if_pos h1, if_pos (show (b.length : Int) > 12000 by omega), posthouseref3_At.f, Option.bind_some]
    refine Ev.bind (Lines_ev b (by omega)) ?_
    exact hj0 [] 1 (-1) (fun h => by cases h) (fun _ => rfl)
  · simp only [if_neg h1, if_neg (show ¬ (b.length : Int) > 12000 by omega), posthouseref3_At.f, Option.bind_some]
    refine Ev.bind (Lines_ev b (by omega)) ?_
    by_cases h2 : endS 0 b = 0
    · have h3 := hleft.1 h2
      refine (hj0 (enc 0 b ++ [46, 13, 10]) 0 0 (fun _ => ⟨h2, by omega, rfl⟩) (fun h => absurd rfl h)).congr fun k => ?_
      simp only [if_pos h2, h3]
      rw [if_neg (by simp)]
    · have h3 : (sp b).2 ≠ [] := fun h => h2 (hleft.2 h)
      have h5 := List.length_pos_iff.2 h3
      refine (hj0 [] 5 (-2) (fun h => by cases h) (fun _ => rfl)).congr fun k => ?_
      simp only [if_neg h2]
      rw [if_pos (by omega)]

end Go.Proofs.Ytmicgojonpdelaa.XLid.PLinesDataMatchSpec
