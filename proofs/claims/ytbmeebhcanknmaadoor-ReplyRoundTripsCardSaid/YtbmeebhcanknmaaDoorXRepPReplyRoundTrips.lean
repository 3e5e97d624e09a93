/- A reply that is printed is read as it was: for every reply and all lines behind it within reach the law's own function answers true. -/
import Derived.Test.YtbmeebhcanknmaaDoorXRepSReplyRoundTrips
import Derived.Test.YtbmeebhcanknmaaDoorVRepa
namespace Go.Proofs.YtbmeebhcanknmaaDoor.XRep.PReplyRoundTrips
open Go Go.RowKit Go.Proofs.YtbmeebhcanknmaaDoorW.PrintWords Go.Proofs.YtbmeebhcanknmaaDoor.XRep
set_option linter.unusedVariables false
set_option linter.unusedSimpArgs false
/-- From some number of rounds on. -/
def Ev {β : Type} (f : Nat → Option β) (v : β) : Prop := ∃ K, ∀ k, K ≤ k → f k = some v
theorem Ev.const {β : Type} {f : Nat → Option β} {v : β} (h : ∀ k, f k = some v) : Ev f v := ⟨0, fun k _ => h k⟩
theorem Ev.some_ {β : Type} (v : β) : Ev (fun _ => some v) v := .const fun _ => rfl
theorem Ev.bind {α β : Type} {f : Nat → Option α} {g : Nat → α → Option β} {a : α} {v : β} (h : Ev f a) (h2 : Ev (fun k => g k a) v) : Ev (fun k => (f k).bind (g k)) v := by
  obtain ⟨K, hK⟩ := h
  obtain ⟨M, hM⟩ := h2
  refine ⟨max K M, fun k hk => ?_⟩
  show (f k).bind (g k) = some v
  rw [hK k (by omega)]
  exact hM k (by omega)
theorem Ev.succ {β : Type} {f : Nat → Option β} {v : β} (h : Ev (fun k => f (k + 1)) v) : Ev f v := by
  obtain ⟨K, hK⟩ := h
  refine ⟨K + 1, fun k hk => ?_⟩
  obtain ⟨k, rfl⟩ : ∃ j, k = j + 1 := ⟨k - 1, by omega⟩
  exact hK k (by omega)
theorem Ev.congr {β : Type} {f g : Nat → Option β} {v : β} (h : Ev f v) (e : ∀ k, g k = f k) : Ev g v := by
  obtain ⟨K, hK⟩ := h
  exact ⟨K, fun k hk => (e k).trans (hK k hk)⟩
theorem Ev.val {β : Type} {f : Nat → Option β} {v v' : β} (h : Ev f v) (e : v = v') : Ev f v' := e ▸ h
theorem Ev.ex {β : Type} {f : Nat → Option β} {v : β} (h : Ev f v) : ∃ k, f k = some v := by
  obtain ⟨K, hK⟩ := h
  exact ⟨K, hK K (Nat.le_refl _)⟩
theorem w64 (n : Int) (h : -9223372036854775808 ≤ n ∧ n ≤ 9223372036854775807) : wrap64 n = n := by unfold wrap64; omega
/-- A text's bytes, as natural numbers. -/
def by_ (a : ByteArray) : List Nat := a.data.toList.map UInt8.toNat
theorem by_len (a : ByteArray) : (by_ a).length = a.size := by unfold by_; rw [List.length_map]; exact Array.length_toList
theorem by_lt (a : ByteArray) : ∀ n ∈ by_ a, n < 256 := by
  intro n hn
  obtain ⟨b, _, rfl⟩ := List.mem_map.1 hn
  exact b.toNat_lt
theorem bt_by (a : ByteArray) (i : Nat) (h : i < a.size) : bt a i = ((by_ a)[i]'(by rw [by_len]; exact h) : Nat) := by
  unfold bt
  rw [dif_pos (by simpa using h)]
  simp [by_]
  rfl

theorem tl_iff {a b : ByteArray} : a.toList = b.toList ↔ a = b := by
  constructor
  · intro h
    rw [ByteArray.toList_eq, ByteArray.toList_eq] at h
    exact Go.WideShapes.bytes_inj h
  · rintro rfl; rfl
theorem rdO_get {l : List ByteArray} {i : Nat} (h : i < l.length) : rdOf ByteArray.empty l (i : Int) = l[i] := by
  unfold rdOf
  rw [Int.toNat_natCast, List.getD_eq_getElem?_getD, List.getElem?_eq_getElem h]
  rfl
theorem strings_loop (l m : List ByteArray) (hl : l.length ≤ 8796093022208) (he : l.length = m.length) : ∀ d i, i + d = l.length → Ev (fun k => posthouseref3_Strings.l0 k l m (i : Int)) (decide (l.drop i = m.drop i))
  | 0, i, h => by
    rw [List.drop_eq_nil_of_le (by omega), List.drop_eq_nil_of_le (by omega)]
    refine Ev.succ (Ev.const fun k => ?_)
    unfold posthouseref3_Strings.l0
    rw [if_neg (by omega)]
    rfl
  | d + 1, i, h => by
    have h1 := strings_loop l m hl he d (i + 1) (by omega)
    have hi : i < l.length := by omega
    have hj : i < m.length := by omega
    have hw : wrap64 ((i : Int) + 1) = ((i + 1 : Nat) : Int) := by rw [w64 _ (by omega)]; omega
    rw [List.drop_eq_getElem_cons hi, List.drop_eq_getElem_cons hj]
    refine Ev.succ ?_
    unfold posthouseref3_Strings.l0
    by_cases e : l[i] = m[i]
    · refine (h1.congr fun k => ?_).val ?_
      · rw [if_pos (by omega), if_pos (by omega), if_pos (by omega), rdO_get hi, rdO_get hj, if_pos (tl_iff.2 e), hw]
      · rw [Bool.eq_iff_iff, decide_eq_true_iff, decide_eq_true_iff, e]
        exact ⟨fun h => by rw [h], fun h => (List.cons.inj h).2⟩
    · rw [decide_eq_false (fun h => e (List.cons.inj h).1)]
      refine Ev.const fun k => ?_
      rw [if_pos (by omega), if_pos (by omega), if_pos (by omega), rdO_get hi, rdO_get hj, if_neg (fun h => e (tl_iff.1 h))]
theorem Strings_ev (l m : List ByteArray) (hl : l.length ≤ 8796093022208) : Ev (fun k => posthouseref3_Strings.f k l m) (decide (l = m)) := by
  unfold posthouseref3_Strings.f
  by_cases he : l.length = m.length
  · have := strings_loop l m hl he l.length 0 (by omega)
    rw [List.drop_zero, List.drop_zero] at this
    refine this.congr fun k => ?_
    rw [if_pos (by omega)]
    rfl
  · rw [decide_eq_false (fun h => he (by rw [h]))]
    refine Ev.const fun k => ?_
    rw [if_neg (by omega)]

/-- A byte that ends a line. -/
def crlf (n : Nat) : Bool := n == 10 || n == 13
theorem rends_loop (a : ByteArray) (hs : a.size ≤ 140737488351232) : ∀ d i, i + d = a.size → Ev (fun k => posthouseref3_ends.l0 k a (i : Int)) (((by_ a).drop i).any crlf)
  | 0, i, h => by
    refine Ev.succ (Ev.const fun k => ?_)
    unfold posthouseref3_ends.l0
    rw [if_neg (by omega), List.drop_eq_nil_of_le (by rw [by_len]; omega)]
    rfl
  | d + 1, i, h => by
    have h1 := rends_loop a hs d (i + 1) (by omega)
    have hi : i < a.size := by omega
    have hil : i < (by_ a).length := by rw [by_len]; exact hi
    have hw : wrap64 ((i : Int) + 1) = ((i + 1 : Nat) : Int) := by rw [w64 _ (by omega)]; omega
    have hb := bt_by a i hi
    rw [List.drop_eq_getElem_cons hil, List.any_cons]
    generalize (by_ a)[i] = n at hb ⊢
    refine Ev.succ ?_
    unfold posthouseref3_ends.l0
    by_cases e : n = 13
    · rw [show crlf n = true by rw [e]; rfl, Bool.true_or]
      refine Ev.const fun k => ?_
      rw [if_pos (by omega), if_pos (by omega), hb, if_pos (by omega)]
    by_cases e2 : n = 10
    · rw [show crlf n = true by rw [e2]; rfl, Bool.true_or]
      refine Ev.const fun k => ?_
      rw [if_pos (by omega), if_pos (by omega), hb, if_neg (by omega), if_pos (by omega)]
    · rw [show crlf n = false by simp [crlf, e, e2], Bool.false_or]
      refine h1.congr fun k => ?_
      rw [if_pos (by omega), if_pos (by omega), hb, if_neg (by omega), if_neg (by omega), hw]
theorem rends_ev (a : ByteArray) (hs : a.size ≤ 140737488351232) : Ev (fun k => posthouseref3_ends.f k a) ((by_ a).any crlf) := by
  have := rends_loop a hs a.size 0 (by omega)
  simpa [posthouseref3_ends.f] using this
theorem ianyCons (b : UInt8) (l cs : List UInt8) : Lib.indexAny (b :: l) cs = if cs.contains b then 0 else if Lib.indexAny l cs == -1 then -1 else Lib.indexAny l cs + 1 := rfl
theorem iany_crlf (l : List UInt8) : decide (Lib.indexAny l [13, 10] ≥ 0) = (l.map UInt8.toNat).any crlf := by
  induction l with
  | nil => rfl
  | cons b l ih =>
    rw [List.map_cons, List.any_cons, ← ih, ianyCons]
    have hc : [13, 10].contains b = crlf b.toNat := by
      have : ∀ n : Nat, ∀ h : n < 256, ([13, 10] : List UInt8).contains (UInt8.ofNat n) = crlf (UInt8.ofNat n).toNat := by decide +kernel
      have := this b.toNat b.toNat_lt
      rwa [UInt8.ofNat_toNat] at this
    rw [hc]
    have hge := Lib.indexAny_ge [13, 10] l
    by_cases h : crlf b.toNat = true
    · rw [if_pos h, h]; rfl
    · have h' : crlf b.toNat = false := by simpa using h
      rw [if_neg h, h', Bool.false_or]
      by_cases e : Lib.indexAny l [13, 10] = -1
      · rw [if_pos (by rw [e]; rfl), e]
      · rw [if_neg (by rw [beq_iff_eq]; exact e)]
        rw [Bool.eq_iff_iff, decide_eq_true_iff, decide_eq_true_iff]
        omega
theorem rcont_val (a : ByteArray) (hs : a.size ≤ 140737488351232) : strings_ContainsAny.f a ⟨#[13, 10]⟩ = some ((by_ a).any crlf) := by
  unfold strings_ContainsAny.f strings_IndexAny.f
  rw [if_pos ⟨by decide, by omega, by decide⟩, Option.bind_some]
  congr 1
  exact iany_crlf a.data.toList
theorem In_val (a b c : Int) : posthouseref3_In.f a b c = some (decide (b ≤ a ∧ a ≤ c)) := by
  unfold posthouseref3_In.f
  by_cases h : a ≥ b
  · rw [if_pos h]
    congr 1
    exact decide_eq_decide.2 ⟨fun h2 => ⟨h, h2⟩, fun h2 => h2.2⟩
  · rw [if_neg h, decide_eq_false (fun h2 => h h2.1)]
/-- The fault of the lines behind the i-th. -/
def lfa : List ByteArray → Nat → Int × Int
  | [], _ => (0, 0)
  | s :: l, i => if s.size > 500 then (1, i) else if (by_ s).any crlf = true then (5, i) else lfa l (i + 1)
/-- The fault of a reply. -/
def rfa (c : Int) (l : List ByteArray) : Int × Int := if 200 ≤ c ∧ c ≤ 599 then (if 1 ≤ l.length ∧ l.length ≤ 20 then lfa l 0 else (2, -2)) else (3, -1)
def szOk (l : List ByteArray) : Prop := ∀ s ∈ l, s.size ≤ 140737488351232
theorem val_loop (l : List ByteArray) (hs : szOk l) (hl : l.length ≤ 20) : ∀ d i, i + d = l.length → Ev (fun k => reply_Validate.l0 k l (l.length : Int) (i : Int)) (lfa (l.drop i) i)
  | 0, i, h => by
    rw [List.drop_eq_nil_of_le (by omega)]
    refine Ev.succ (Ev.const fun k => ?_)
    unfold reply_Validate.l0
    rw [if_neg (by omega)]
    rfl
  | d + 1, i, h => by
    have h1 := val_loop l hs hl d (i + 1) (by omega)
    have hi : i < l.length := by omega
    have hw : wrap64 ((i : Int) + 1) = ((i + 1 : Nat) : Int) := by rw [w64 _ (by omega)]; omega
    have hsz := hs l[i] (List.getElem_mem hi)
    rw [List.drop_eq_getElem_cons hi]
    unfold lfa
    refine Ev.succ ?_
    unfold reply_Validate.l0
    simp only [rdO_get hi, rcont_val _ hsz, Option.bind_some]
    by_cases e : l[i].size > 500
    · rw [if_pos e]
      refine Ev.const fun k => ?_
      rw [if_pos (by omega), if_pos (by omega), if_pos (by omega), if_pos (by omega)]
    rw [if_neg e]
    by_cases e2 : (by_ l[i]).any crlf = true
    · rw [if_pos e2]
      refine Ev.const fun k => ?_
      rw [if_pos (by omega), if_pos (by omega), if_pos (by omega), if_neg (by omega), if_pos e2]
    · rw [if_neg e2]
      refine h1.congr fun k => ?_
      rw [if_pos (by omega), if_pos (by omega), if_pos (by omega), if_neg (by omega), if_neg e2, hw]
theorem rVal_ev (c : Int) (l : List ByteArray) (hs : szOk l) : Ev (fun k => reply_Validate.f k c l) (rfa c l) := by
  unfold reply_Validate.f rfa
  have hj : ∀ b : Bool, b = !decide (200 ≤ c ∧ c ≤ 599) → Ev (fun k => reply_Validate.j0 k b c l) (rfa c l) := by
    intro b hb
    refine Ev.succ ?_
    simp only [reply_Validate.j0, rfa]
    by_cases h : 200 ≤ c ∧ c ≤ 599
    · rw [decide_eq_true h] at hb
      subst hb
      rw [if_pos h]
      by_cases h2 : 1 ≤ l.length ∧ l.length ≤ 20
      · rw [if_pos h2]
        refine (val_loop l hs h2.2 l.length 0 (by omega)).congr fun k => ?_
        rw [if_neg (by decide), if_neg (by omega), if_neg (by omega)]
        rfl
      · rw [if_neg h2]
        refine Ev.const fun k => ?_
        rw [if_neg (by decide)]
        by_cases h3 : (l.length : Int) < 1
        · rw [if_pos h3]
        · rw [if_neg h3, if_pos (by omega)]
    · rw [decide_eq_false h] at hb
      subst hb
      rw [if_neg h]
      refine Ev.const fun k => ?_
      rw [if_pos (by decide)]
  by_cases h : c < 200
  · refine (hj true (by rw [decide_eq_false (by omega)]; rfl)).congr fun k => ?_
    rw [if_pos h]
  · refine (hj (decide (c > 599)) ?_).congr fun k => ?_
    · rw [Bool.eq_iff_iff, Bool.not_eq_true', decide_eq_true_iff, decide_eq_false_iff_not]; omega
    · rw [if_neg h]
theorem rfault_loop (c : Int) (l : List ByteArray) (hs : szOk l) (hl : l.length ≤ 20) : ∀ d i, i + d = l.length → Ev (fun k => posthouseref3_ReplyFault.l0 k (i : Int) c l) (lfa (l.drop i) i)
  | 0, i, h => by
    rw [List.drop_eq_nil_of_le (by omega)]
    refine Ev.succ (Ev.const fun k => ?_)
    unfold posthouseref3_ReplyFault.l0
    rw [if_neg (by omega)]
    rfl
  | d + 1, i, h => by
    have h1 := rfault_loop c l hs hl d (i + 1) (by omega)
    have hi : i < l.length := by omega
    have hw : wrap64 ((i : Int) + 1) = ((i + 1 : Nat) : Int) := by rw [w64 _ (by omega)]; omega
    have hsz := hs l[i] (List.getElem_mem hi)
    have he := rends_ev l[i] hsz
    rw [List.drop_eq_getElem_cons hi]
    unfold lfa
    refine Ev.succ ?_
    unfold posthouseref3_ReplyFault.l0
    simp only [rdO_get hi]
    by_cases e : l[i].size > 500
    · rw [if_pos e]
      refine Ev.const fun k => ?_
      rw [if_pos (by omega), if_pos (by omega), if_pos (by omega)]
      rfl
    rw [if_neg e]
    have hb : Ev (fun k => (posthouseref3_ends.f k l[i]).bind fun t116 => (if t116 = true then ((posthouseref3_At.f 5 (i : Int)).bind fun bt117 => (some (bt117.1, bt117.2))) else (posthouseref3_ReplyFault.l0 k (wrap64 ((i : Int) + 1)) c l))) (if (by_ l[i]).any crlf = true then (5, (i : Int)) else lfa (l.drop (i + 1)) (i + 1)) := by
      refine Ev.bind he ?_
      by_cases e2 : (by_ l[i]).any crlf = true
      · rw [if_pos e2]
        refine Ev.const fun k => ?_
        rw [if_pos e2]
        rfl
      · rw [if_neg e2]
        refine h1.congr fun k => ?_
        rw [if_neg e2, hw]
    refine hb.congr fun k => ?_
    rw [if_pos (by omega), if_pos (by omega), if_neg (by omega)]
theorem rFault_ev (c : Int) (l : List ByteArray) (hs : szOk l) : Ev (fun k => posthouseref3_ReplyFault.f k c l) (rfa c l) := by
  unfold posthouseref3_ReplyFault.f rfa
  simp only [In_val, Option.bind_some, decide_eq_true_eq]
  by_cases h : 200 ≤ c ∧ c ≤ 599
  · rw [if_pos h]
    by_cases h2 : 1 ≤ l.length ∧ l.length ≤ 20
    · rw [if_pos h2]
      refine (rfault_loop c l hs h2.2 l.length 0 (by omega)).congr fun k => ?_
      rw [if_pos h, if_pos (by omega)]
      rfl
    · rw [if_neg h2]
      refine Ev.const fun k => ?_
      rw [if_pos h, if_neg (by omega)]
      rfl
  · rw [if_neg h]
    refine Ev.const fun k => ?_
    rw [if_neg h]
    rfl

theorem digit_at (n : Nat) (h : n < 10) : (⟨#[48, 49, 50, 51, 52, 53, 54, 55, 56, 57]⟩ : ByteArray).extract n (n + 1) = ⟨#[UInt8.ofNat (48 + n)]⟩ := by
  have : ∀ m : Nat, m < 10 → ((⟨#[48, 49, 50, 51, 52, 53, 54, 55, 56, 57]⟩ : ByteArray).extract m (m + 1)).data = #[UInt8.ofNat (48 + m)] := by decide +kernel
  exact ByteArray.ext (this n h)
theorem digit1 (n : Nat) (h : n < 10) : Ev (fun k => posthouseref3_Digits.f k (n : Int)) ⟨#[UInt8.ofNat (48 + n)]⟩ := by
  refine Ev.succ (Ev.const fun k => ?_)
  have hw : wrap64 ((n : Int) + 1) = ((n + 1 : Nat) : Int) := by rw [w64 _ (by omega)]; omega
  simp only [posthouseref3_Digits.f, hw]
  rw [if_pos (by omega), if_pos (by omega), if_pos (by omega), if_pos (by omega), Int.toNat_natCast, Int.toNat_natCast, digit_at n h]
theorem dec_size (u : Nat) : (Lib.decDigits u).length ≤ u + 1 := by
  induction u using Nat.strongRecOn with
  | ind u ih =>
    rw [Lib.decDigits]
    by_cases h : u < 10
    · rw [dif_pos h]; simp
    · rw [dif_neg h, List.length_append]
      have := ih (u / 10) (by omega)
      simp only [List.length_cons, List.length_nil]
      omega
theorem digits_ev (n : Nat) (h : n ≤ 9223372036854775807) : Ev (fun k => posthouseref3_Digits.f k (n : Int)) ⟨(Lib.decDigits n).toArray⟩ := by
  induction n using Nat.strongRecOn with
  | ind n ih =>
    by_cases hl : n < 10
    · refine (digit1 n hl).val ?_
      rw [Lib.decDigits, dif_pos hl]
    · have h1 := ih (n / 10) (by omega) (by omega)
      have h2 := digit1 (n % 10) (by omega)
      have e1 : wrap64 (Int.tdiv (n : Int) 10) = ((n / 10 : Nat) : Int) := by
        have : Int.tdiv (n : Int) 10 = ((n / 10 : Nat) : Int) := rfl
        rw [this, w64 _ (by omega)]
      have e2 : Int.tmod (n : Int) 10 = ((n % 10 : Nat) : Int) := rfl
      rw [← e1] at h1
      rw [← e2] at h2
      refine Ev.succ ?_
      have hb : Ev (fun k => (posthouseref3_Digits.f k (wrap64 (Int.tdiv (n : Int) 10))).bind fun t210 => ((posthouseref3_Digits.f k (Int.tmod (n : Int) 10)).bind fun t211 => (if t210.size + t211.size ≤ 9223372036854775807 then (some (t210 ++ t211)) else (none)))) ⟨(Lib.decDigits n).toArray⟩ := by
        refine Ev.bind h1 (Ev.bind h2 (Ev.const fun k => ?_))
        have hs := dec_size (n / 10)
        rw [if_pos (by
          show (Lib.decDigits (n / 10)).toArray.size + 1 ≤ 9223372036854775807
          rw [List.size_toArray]
          omega)]
        congr 1
        rw [Lib.decDigits.eq_def n, dif_neg hl]
        apply ByteArray.ext
        rw [ByteArray.data_append]
        simp
      refine hb.congr fun k => ?_
      simp only [posthouseref3_Digits.f]
      rw [if_neg (by omega)]
theorem itoa_nat (n : Nat) : Lib.itoa (n : Int) = Lib.decDigits n := by
  unfold Lib.itoa
  rw [if_neg (by omega), Int.toNat_natCast]

def it (c : Int) : ByteArray := ⟨(Lib.itoa c).toArray⟩
theorem dec3 (n : Nat) (h : 100 ≤ n ∧ n ≤ 999) : Lib.decDigits n = [UInt8.ofNat (48 + n / 100), UInt8.ofNat (48 + n / 10 % 10), UInt8.ofNat (48 + n % 10)] := by
  rw [Lib.decDigits, dif_neg (by omega), Lib.decDigits, dif_neg (by omega), Lib.decDigits, dif_pos (by omega)]
  simp only [List.cons_append, List.nil_append]
  rw [show n / 10 / 10 = n / 100 by omega]
theorem it_size (c : Int) (h : 200 ≤ c ∧ c ≤ 599) : (it c).size = 3 := by
  obtain ⟨n, rfl⟩ : ∃ n : Nat, c = n := ⟨c.toNat, by omega⟩
  show (Lib.itoa (n : Int)).toArray.size = 3
  rw [itoa_nat, dec3 n (by omega)]
  rfl
theorem digits_it (c : Int) (h : 200 ≤ c ∧ c ≤ 599) : Ev (fun k => posthouseref3_Digits.f k c) (it c) := by
  obtain ⟨n, rfl⟩ : ∃ n : Nat, c = n := ⟨c.toNat, by omega⟩
  refine (digits_ev n (by omega)).val ?_
  unfold it
  rw [itoa_nat]
/-- The lines of a reply. -/
def pl (c : Int) : List ByteArray → List ByteArray
  | [] => []
  | s :: l => (it c ++ (if l = [] then ⟨#[32]⟩ else ⟨#[45]⟩) ++ s) :: pl c l
theorem pl_len (c : Int) : ∀ l : List ByteArray, (pl c l).length = l.length
  | [] => rfl
  | s :: l => by simp [pl, pl_len c l]
theorem app_size (c : Int) (h : 200 ≤ c ∧ c ≤ 599) (x : UInt8) : (it c ++ (⟨#[x]⟩ : ByteArray)).size = 4 := by rw [ByteArray.size_append, it_size c h]; rfl
theorem rprint_loop (c : Int) (hc : 200 ≤ c ∧ c ≤ 599) (l : List ByteArray) (hs : szOk l) (hl : l.length ≤ 20) : ∀ d i, i + d = l.length → ∀ out : List ByteArray, out.length = i → Ev (fun k => reply_Print.l0 k out l (l.length : Int) (i : Int) c l) (out ++ pl c (l.drop i), 0, 0)
  | 0, i, h => by
    intro out ho
    rw [List.drop_eq_nil_of_le (by omega)]
    refine Ev.succ (Ev.const fun k => ?_)
    unfold reply_Print.l0
    rw [if_neg (by omega)]
    simp [pl]
  | d + 1, i, h => by
    intro out ho
    have hi : i < l.length := by omega
    have hw : wrap64 ((i : Int) + 1) = ((i + 1 : Nat) : Int) := by rw [w64 _ (by omega)]; omega
    have hsz := hs l[i] (List.getElem_mem hi)
    have h1 := rprint_loop c hc l hs hl d (i + 1) (by omega) (out ++ [it c ++ (if l.drop (i + 1) = [] then ⟨#[32]⟩ else ⟨#[45]⟩) ++ l[i]]) (by rw [List.length_append, ho]; rfl)
    have hit : strconv_Itoa.f c = some (it c) := by unfold strconv_Itoa.f; rw [if_pos ⟨by omega, by omega⟩]; rfl
    have h3 := it_size c hc
    have a32 := app_size c hc 32
    have a45 := app_size c hc 45
    rw [List.drop_eq_getElem_cons hi]
    unfold pl
    refine Ev.succ ?_
    unfold reply_Print.l0
    simp only [rdO_get hi, hit, Option.bind_some, hw]
    by_cases e : i + 1 = l.length
    · rw [if_pos (by rw [List.drop_eq_nil_iff]; omega)] at h1 ⊢
      refine (h1.congr fun k => ?_).val (by rw [List.append_assoc]; rfl)
      rw [if_pos (by omega), if_pos (by omega), if_pos (by omega), if_pos (by omega), if_pos (by omega), if_pos (by omega), if_pos (by omega)]
    · rw [if_neg (by rw [List.drop_eq_nil_iff]; omega)] at h1 ⊢
      refine (h1.congr fun k => ?_).val (by rw [List.append_assoc]; rfl)
      rw [if_pos (by omega), if_pos (by omega), if_pos (by omega), if_neg (by omega), if_pos (by omega), if_pos (by omega), if_pos (by omega)]
theorem lfa_code : ∀ (l : List ByteArray) (i : Nat), (lfa l i).1 = 0 → lfa l i = (0, 0) ∧ ∀ s ∈ l, s.size ≤ 500 ∧ (by_ s).any crlf = false
  | [], i, _ => ⟨rfl, fun s hs => by cases hs⟩
  | s :: l, i, h => by
    unfold lfa at h ⊢
    by_cases e : s.size > 500
    · rw [if_pos e] at h; cases h
    rw [if_neg e] at h ⊢
    by_cases e2 : (by_ s).any crlf = true
    · rw [if_pos e2] at h; cases h
    rw [if_neg e2] at h ⊢
    obtain ⟨h1, h2⟩ := lfa_code l (i + 1) h
    refine ⟨h1, fun t ht => ?_⟩
    rcases List.mem_cons.1 ht with rfl | ht
    · exact ⟨by omega, by simpa using e2⟩
    · exact h2 t ht
theorem rfa_code {c : Int} {l : List ByteArray} (h : (rfa c l).1 = 0) : rfa c l = (0, 0) ∧ (200 ≤ c ∧ c ≤ 599) ∧ (1 ≤ l.length ∧ l.length ≤ 20) ∧ ∀ s ∈ l, s.size ≤ 500 ∧ (by_ s).any crlf = false := by
  unfold rfa at h ⊢
  by_cases e : 200 ≤ c ∧ c ≤ 599
  · rw [if_pos e] at h ⊢
    by_cases e2 : 1 ≤ l.length ∧ l.length ≤ 20
    · rw [if_pos e2] at h ⊢
      obtain ⟨h1, h2⟩ := lfa_code l 0 h
      exact ⟨h1, e, e2, h2⟩
    · rw [if_neg e2] at h; cases h
  · rw [if_neg e] at h; cases h
theorem rPrint_ev (c : Int) (l : List ByteArray) (hs : szOk l) : Ev (fun k => reply_Print.f k c l) (if (rfa c l).1 = 0 then (pl c l, 0, 0) else ([], rfa c l)) := by
  unfold reply_Print.f
  refine Ev.bind (rVal_ev c l hs) ?_
  by_cases e : (rfa c l).1 = 0
  · obtain ⟨e1, hc, hl, _⟩ := rfa_code e
    rw [if_pos e, e1]
    refine (rprint_loop c hc l hs hl.2 l.length 0 (by omega) [] rfl).congr fun k => ?_
    rw [if_neg (show ¬ (!((0 : Int) == 0) || (!((0 : Int) == 0))) = true by decide)]
    rfl
  · rw [if_neg e]
    refine Ev.const fun k => ?_
    rw [if_pos (by rw [show ((rfa c l).1 == 0) = false by simpa using e]; rfl)]
theorem rClass_ev (c : Int) (l : List ByteArray) (hs : szOk l) : Ev (fun k => reply_Class.f k c l) (if (rfa c l).1 = 0 then (wrap64 (Int.tdiv c 100), 0, 0) else (0, rfa c l)) := by
  unfold reply_Class.f
  refine Ev.bind (rVal_ev c l hs) ?_
  by_cases e : (rfa c l).1 = 0
  · obtain ⟨e1, hc, hl, _⟩ := rfa_code e
    rw [if_pos e, e1]
    refine Ev.const fun k => ?_
    rw [if_neg (show ¬ (!((0 : Int) == 0) || (!((0 : Int) == 0))) = true by decide)]
  · rw [if_neg e]
    refine Ev.const fun k => ?_
    rw [if_pos (by rw [show ((rfa c l).1 == 0) = false by simpa using e]; rfl)]

def dg (n : Nat) : Bool := decide (48 ≤ n ∧ n ≤ 57)
theorem In_bt (n : Nat) (h : n < 256) : posthouseref3_In.f (wrap64 (n : Int)) 48 57 = some (dg n) := by
  have hw : wrap64 (n : Int) = (n : Int) := w64 _ (by omega)
  rw [hw]
  unfold posthouseref3_In.f dg
  by_cases h1 : (n : Int) ≥ 48
  · rw [if_pos h1]
    congr 1
    exact decide_eq_decide.2 ⟨fun h2 => ⟨by omega, by omega⟩, fun h2 => by omega⟩
  · rw [if_neg h1, decide_eq_false (fun h2 => h1 (by omega))]
/-- The number that digits denote, behind those that were read. -/
def amt : List Nat → Int → Int
  | [], acc => acc
  | n :: l, acc => if dg n = true then amt l (10 * acc + ((n : Int) - 48)) else -1
theorem amt_loop (a : ByteArray) (hs : a.size ≤ 9) : ∀ d i, i + d = a.size → ∀ acc : Int, 0 ≤ acc → acc < 10 ^ i → Ev (fun k => posthouseref3_Amount.l0 k a acc (i : Int)) (amt ((by_ a).drop i) acc)
  | 0, i, h => by
    intro acc _ _
    rw [List.drop_eq_nil_of_le (by rw [by_len]; omega)]
    refine Ev.succ (Ev.const fun k => ?_)
    simp only [posthouseref3_Amount.l0]
    rw [if_neg (by omega)]
    rfl
  | d + 1, i, h => by
    intro acc h0 h9
    have hi : i < a.size := by omega
    have hil : i < (by_ a).length := by rw [by_len]; exact hi
    have hw : wrap64 ((i : Int) + 1) = ((i + 1 : Nat) : Int) := by rw [w64 _ (by omega)]; omega
    have hb := bt_by a i hi
    have hlt := by_lt a _ (List.getElem_mem hil)
    rw [List.drop_eq_getElem_cons hil]
    generalize (by_ a)[i] = n at hb hlt ⊢
    have hp : (10 : Int) ^ i ≤ 10 ^ 8 := by
      have : (10 : Nat) ^ i ≤ 10 ^ 8 := Nat.pow_le_pow_right (by decide) (by omega)
      exact_mod_cast this
    have hpe : (10 : Int) ^ (i + 1) = 10 * 10 ^ i := by rw [Int.pow_succ]; omega
    have h8 : (10 : Int) ^ 8 = 100000000 := by decide
    unfold amt
    refine Ev.succ ?_
    simp only [posthouseref3_Amount.l0, hb, In_bt n hlt, Option.bind_some]
    by_cases e : dg n = true
    · have e' := of_decide_eq_true e
      have hm : ((n : Int) - 48) % 256 = (n : Int) - 48 := Int.emod_eq_of_lt (by omega) (by omega)
      have hw1 : wrap64 (10 * acc) = 10 * acc := w64 _ (by omega)
      have hw2 : wrap64 (10 * acc + ((n : Int) - 48)) = 10 * acc + ((n : Int) - 48) := w64 _ (by omega)
      rw [if_pos e]
      refine (amt_loop a hs d (i + 1) (by omega) (10 * acc + ((n : Int) - 48)) (by omega) (by omega)).congr fun k => ?_
      rw [if_pos (by omega), if_pos (by omega), if_pos e, hw, hm, hw1, hw2]
    · rw [if_neg e]
      refine Ev.const fun k => ?_
      rw [if_pos (by omega), if_pos (by omega), if_neg e]
/-- The number that a text denotes; -1: none. -/
def amount (L : List Nat) : Int := if 1 ≤ L.length ∧ L.length ≤ 9 then (if 1 < L.length ∧ L.head? = some 48 then -1 else amt L 0) else -1
theorem Amount_ev (a : ByteArray) (hs : a.size ≤ 140737488351232) : Ev (fun k => posthouseref3_Amount.f k a) (amount (by_ a)) := by
  have hI : posthouseref3_In.f (a.size : Int) 1 9 = some (decide (1 ≤ (by_ a).length ∧ (by_ a).length ≤ 9)) := by
    rw [by_len]
    unfold posthouseref3_In.f
    by_cases h : (a.size : Int) ≥ 1
    · rw [if_pos h]
      congr 1
      exact decide_eq_decide.2 ⟨fun h2 => ⟨by omega, by omega⟩, fun h2 => by omega⟩
    · rw [if_neg h, decide_eq_false (fun h2 => h (by omega))]
  have hj : ∀ b : Bool, (a.size ≤ 9) → Ev (fun k => posthouseref3_Amount.j0 k a b) (if b = true then -1 else amt (by_ a) 0) := by
    intro b h9
    refine Ev.succ ?_
    simp only [posthouseref3_Amount.j0]
    cases b with
    | true => exact Ev.const fun k => rfl
    | false =>
      refine (amt_loop a h9 a.size 0 (by omega) 0 (by omega) (by omega)).congr fun k => ?_
      rfl
  have hjt : Ev (fun k => posthouseref3_Amount.j0 k a true) (-1) := by
    refine Ev.succ (Ev.const fun k => ?_)
    simp only [posthouseref3_Amount.j0]
    rfl
  unfold posthouseref3_Amount.f amount
  simp only [hI, Option.bind_some, decide_eq_true_eq]
  by_cases h : 1 ≤ (by_ a).length ∧ (by_ a).length ≤ 9
  · rw [if_pos h]
    rw [by_len] at h
    by_cases h1 : a.size > 1
    · have hb := bt_by a 0 (by omega)
      have hh : (by_ a).head? = some ((by_ a)[0]'(by rw [by_len]; omega)) := by rw [List.head?_eq_getElem?, List.getElem?_eq_getElem]
      generalize (by_ a)[0]'(by rw [by_len]; omega) = n at hb hh
      refine ((hj (bt a 0 == 48) h.2).congr fun k => ?_).val ?_
      · rw [if_pos (by rw [by_len]; omega), if_pos (by omega), if_pos (by omega)]
      · rw [hh, by_len]
        have : bt a 0 = (n : Int) := hb
        rw [this]
        by_cases e : n = 48
        · rw [if_pos (by rw [e]; rfl), if_pos ⟨by omega, by rw [e]⟩]
        · rw [if_neg (by rw [beq_iff_eq]; omega), if_neg (by rintro ⟨_, h⟩; exact e (Option.some.inj h))]
    · refine ((hj false h.2).congr fun k => ?_).val ?_
      · rw [if_pos (by rw [by_len]; omega), if_neg (by omega)]
      · rw [if_neg (by decide), if_neg (by rw [by_len]; omega)]
  · rw [if_neg h]
    refine hjt.congr fun k => ?_
    rw [if_neg h]

/-- The code at the beginning of a line. -/
def cd3 : List Nat → Option Nat
  | x :: y :: z :: d :: _ => if (d = 45 ∨ d = 32) ∧ (50 ≤ x ∧ x ≤ 53) ∧ dg y = true ∧ dg z = true then some (100 * (x - 48) + 10 * (y - 48) + (z - 48)) else none
  | _ => none
theorem cd3_cons (x y z d : Nat) (r : List Nat) : cd3 (x :: y :: z :: d :: r) = if (d = 45 ∨ d = 32) ∧ (50 ≤ x ∧ x ≤ 53) ∧ dg y = true ∧ dg z = true then some (100 * (x - 48) + 10 * (y - 48) + (z - 48)) else none := rfl
theorem cd3_range {L : List Nat} {c : Nat} (h : cd3 L = some c) : 200 ≤ c ∧ c ≤ 599 := by
  match L, h with
  | x :: y :: z :: d :: _, h =>
    rw [cd3_cons] at h
    by_cases e : (d = 45 ∨ d = 32) ∧ (50 ≤ x ∧ x ≤ 53) ∧ dg y = true ∧ dg z = true
    · rw [if_pos e] at h
      obtain ⟨_, hx, hy, hz⟩ := e
      have hy := of_decide_eq_true hy
      have hz := of_decide_eq_true hz
      have := Option.some.inj h
      omega
    · rw [if_neg e] at h; cases h
theorem four (L : List Nat) (h : 4 ≤ L.length) : ∃ x y z d r, L = x :: y :: z :: d :: r := by
  match L, h with
  | x :: y :: z :: d :: r, _ => exact ⟨x, y, z, d, r, rfl⟩
theorem by_take3 (s : ByteArray) : by_ (s.extract 0 3) = (by_ s).take 3 := by
  unfold by_
  rw [← List.map_take]
  congr 1
  rw [ByteArray.data_extract, Array.toList_extract]
  simp [List.extract]
/-- Three digits and their number. -/
theorem it_by (c : Nat) (h : 200 ≤ c ∧ c ≤ 599) : by_ (it (c : Int)) = [48 + c / 100, 48 + c / 10 % 10, 48 + c % 10] := by
  unfold by_ it
  simp only [itoa_nat, dec3 c (by omega)]
  have : ∀ n : Nat, n < 256 → (UInt8.ofNat n).toNat = n := fun n hn => by simp; omega
  simp only [List.map_cons, List.map_nil, this _ (show 48 + c / 100 < 256 by omega), this _ (show 48 + c / 10 % 10 < 256 by omega), this _ (show 48 + c % 10 < 256 by omega)]
theorem by_inj {a b : ByteArray} (h : by_ a = by_ b) : a = b := by
  apply ByteArray.ext
  apply Array.toList_inj.1
  unfold by_ at h
  have : Function.Injective UInt8.toNat := fun a b h => UInt8.toNat_inj.1 h
  exact (List.map_inj_right (fun a b h => UInt8.toNat_inj.1 h)).1 h
theorem atoi_it (c : Nat) (h : 200 ≤ c ∧ c ≤ 599) : Lib.atoiAll (Lib.itoa (c : Int)) = .ok (c : Int) := by
  have h0 : ∀ m : Nat, m < 400 → (match Lib.atoiAll [UInt8.ofNat (48 + (200 + m) / 100), UInt8.ofNat (48 + (200 + m) / 10 % 10), UInt8.ofNat (48 + (200 + m) % 10)] with | .ok v => v == ((200 + m : Nat) : Int) | _ => false) = true := by decide +kernel
  have h1 := h0 (c - 200) (by omega)
  rw [show 200 + (c - 200) = c by omega, ← dec3 c (by omega), ← itoa_nat] at h1
  revert h1
  cases Lib.atoiAll (Lib.itoa (c : Int)) with
  | ok v => intro h1; rw [beq_iff_eq.1 h1]
  | «syntax» => intro h1; cases h1
  | range => intro h1; cases h1
theorem atoi_norange (l : List UInt8) (h : l.length ≤ 3) : Lib.atoiAll l ≠ .range := by
  rw [Lib.atoiAll_short l (by omega)]
  cases Lib.atoi l <;> simp [Lib.NumEnd.ofOption]
theorem rhead_val (s : ByteArray) (hs : s.size ≤ 140737488351232) : ∃ v b ok, reply_head.f s = some (v, b, ok) ∧ (match cd3 (by_ s) with | some c => ok = true ∧ v = (c : Int) ∧ b = (bt s 3 == 32) | none => ok = false) := by
  unfold reply_head.f
  by_cases h4 : s.size < 4
  · rw [if_pos h4]
    refine ⟨_, _, _, rfl, ?_⟩
    have : cd3 (by_ s) = none := by
      have hl : (by_ s).length < 4 := by rw [by_len]; exact h4
      match by_ s, hl with
      | [], _ => rfl
      | [_], _ => rfl
      | [_, _], _ => rfl
      | [_, _, _], _ => rfl
    rw [this]
  rw [if_neg h4]
  obtain ⟨x, y, z, d, r, hL⟩ := four (by_ s) (by rw [by_len]; omega)
  have hb : bt s 3 = (d : Int) := by
    have := bt_by s 3 (by omega)
    simpa [hL] using this
  have ht : by_ (s.extract 0 3) = [x, y, z] := by rw [by_take3, hL]; rfl
  have hl3 : (s.extract 0 3).data.toList.length ≤ 3 := by
    have := congrArg List.length ht
    unfold by_ at this
    rw [List.length_map] at this
    rw [this]; simp
  by_cases hd : bt s 3 = 45 ∨ bt s 3 = 32
  · rw [if_pos hd]
    have hd' : d = 45 ∨ d = 32 := by omega
    cases hc : cd3 (by_ s) with
    | some c =>
      have hr := cd3_range hc
      have hti : s.extract 0 3 = it (c : Int) := by
        apply by_inj
        rw [ht, it_by c hr]
        rw [hL] at hc
        rw [cd3_cons] at hc
        by_cases e : (d = 45 ∨ d = 32) ∧ (50 ≤ x ∧ x ≤ 53) ∧ dg y = true ∧ dg z = true
        · rw [if_pos e] at hc
          obtain ⟨_, hx, hy, hz⟩ := e
          have hy := of_decide_eq_true hy
          have hz := of_decide_eq_true hz
          have := Option.some.inj hc
          rw [show 48 + c / 100 = x by omega, show 48 + c / 10 % 10 = y by omega, show 48 + c % 10 = z by omega]
        · rw [if_neg e] at hc; cases hc
      have ha : Lib.atoiAll (s.extract 0 3).data.toList = .ok (c : Int) := by
        rw [hti]
        exact atoi_it c hr
      rw [ha]
      refine ⟨_, _, _, rfl, ?_, rfl, rfl⟩
      rw [decide_eq_true (show 200 ≤ (c : Int) ∧ (c : Int) ≤ 599 by omega), Bool.true_and, decide_eq_true_iff, hti]
      rfl
    | none =>
      cases ha : Lib.atoiAll (s.extract 0 3).data.toList with
      | ok n =>
        refine ⟨_, _, _, rfl, ?_⟩
        rw [Bool.and_eq_false_iff]
        by_cases hn : 200 ≤ n ∧ n ≤ 599
        · right
          rw [decide_eq_false_iff_not]
          intro he
          obtain ⟨c, rfl⟩ : ∃ c : Nat, n = c := ⟨n.toNat, by omega⟩
          have h2 := it_by c (by omega)
          have he' : it (c : Int) = s.extract 0 3 := he
          rw [he', ht] at h2
          rw [hL] at hc
          rw [cd3_cons] at hc
          simp only [List.cons.injEq, and_true] at h2
          obtain ⟨e1, e2, e3⟩ := h2
          rw [if_pos ⟨hd', by omega, decide_eq_true (by omega), decide_eq_true (by omega)⟩] at hc
          cases hc
        · left
          exact decide_eq_false hn
      | «syntax» => exact ⟨_, _, _, rfl, rfl⟩
      | range => exact absurd ha (atoi_norange _ hl3)
  · rw [if_neg hd]
    refine ⟨_, _, _, rfl, ?_⟩
    have : cd3 (by_ s) = none := by
      rw [hL]
      rw [cd3_cons, if_neg (by rintro ⟨h, _⟩; omega)]
    rw [this]
/-- What a line tells: the code, whether it's the last one, an error. -/
def ln (s : ByteArray) (c : Int) : Int × Bool × Int :=
  match cd3 (by_ s) with
  | none => (0, false, 11)
  | some n => if (by_ s).any crlf = true then (0, false, 11) else if s.size > 504 then (0, false, 1) else if c ≠ 0 ∧ (n : Int) ≠ c then (0, false, 5) else ((n : Int), bt s 3 == 32, 0)
theorem line_ev (s : ByteArray) (c : Int) (hs : s.size ≤ 140737488351232) : Ev (fun k => reply_line.f k s c) (ln s c) := by
  obtain ⟨v, b, ok, h1, h2⟩ := rhead_val s hs
  have hj : Ev (fun k => reply_line.j0 k s c v b true) (0, false, 11) := by
    refine Ev.succ (Ev.const fun k => ?_)
    simp only [reply_line.j0]
    rw [if_pos trivial]
  unfold reply_line.f ln
  simp only [h1, Option.bind_some]
  cases hc : cd3 (by_ s) with
  | none =>
    rw [hc] at h2
    subst h2
    refine hj.congr fun k => ?_
    rw [if_neg (by decide)]
  | some n =>
    rw [hc] at h2
    obtain ⟨rfl, rfl, rfl⟩ := h2
    have hr := cd3_range hc
    simp only [rcont_val s hs, Option.bind_some, if_true]
    by_cases e : (by_ s).any crlf = true
    · simp only [e, if_true]
      exact hj
    · have e' : (by_ s).any crlf = false := by simpa using e
      rw [if_neg e, e']
      refine Ev.succ ?_
      simp only [reply_line.j0]
      refine Ev.const fun k => ?_
      have hw : wrap64 ((s.size : Int) - 4) = (s.size : Int) - 4 := w64 _ (by omega)
      rw [if_neg (by simp), hw]
      by_cases e2 : s.size > 504
      · rw [if_pos e2, if_pos (by omega)]
      rw [if_neg e2, if_neg (by omega)]
      by_cases e3 : c = 0
      · rw [if_pos e3, if_neg (by rintro ⟨h, _⟩; exact h e3)]
      · rw [if_neg e3]
        by_cases e4 : (n : Int) = c
        · rw [if_pos e4, if_neg (by rintro ⟨_, h⟩; exact h e4)]
        · rw [if_neg e4, if_pos ⟨e3, e4⟩]
/-- The reply at the beginning of lines. -/
def pr : List ByteArray → Nat → Int → List ByteArray → Int × List ByteArray × Int × Int × Int
  | [], _, _, _ => (0, [], 0, 9, -2)
  | s :: l, i, c, out => if i = 20 then (0, [], 0, 2, (i : Int)) else if (ln s c).2.2 = 0 then (if (ln s c).2.1 = true then ((ln s c).1, out ++ [s.extract 4 s.size], (i : Int) + 1, 0, 0) else pr l (i + 1) (ln s c).1 (out ++ [s.extract 4 s.size])) else (0, [], 0, (ln s c).2.2, (i : Int))
theorem ln_ok {s : ByteArray} {c : Int} (h : (ln s c).2.2 = 0) : ∃ n, cd3 (by_ s) = some n ∧ (by_ s).any crlf = false ∧ s.size ≤ 504 ∧ (c = 0 ∨ (n : Int) = c) ∧ ln s c = ((n : Int), bt s 3 == 32, 0) ∧ 4 ≤ s.size := by
  unfold ln at h ⊢
  cases hc : cd3 (by_ s) with
  | none => rw [hc] at h; cases h
  | some n =>
    rw [hc] at h
    simp only at h ⊢
    by_cases e : (by_ s).any crlf = true
    · rw [if_pos e] at h; cases h
    rw [if_neg e] at h ⊢
    by_cases e2 : s.size > 504
    · rw [if_pos e2] at h; cases h
    rw [if_neg e2] at h ⊢
    by_cases e3 : c ≠ 0 ∧ (n : Int) ≠ c
    · rw [if_pos e3] at h; cases h
    rw [if_neg e3]
    refine ⟨n, rfl, by simpa using e, by omega, ?_, rfl, ?_⟩
    · by_cases e4 : c = 0
      · exact .inl e4
      · exact .inr (Decidable.byContradiction fun h5 => e3 ⟨e4, h5⟩)
    · rw [← by_len]
      match by_ s, hc with
      | x :: y :: z :: d :: r, _ => simp
theorem parse_loop (l : List ByteArray) (hs : szOk l) (hl : l.length ≤ 300) : ∀ d i, i + d = l.length → ∀ (c : Int) (out : List ByteArray), out.length = i → Ev (fun k => reply_Parse.l0 k l (l.length : Int) (i : Int) c out) (pr (l.drop i) i c out)
  | 0, i, h => by
    intro c out ho
    rw [List.drop_eq_nil_of_le (by omega)]
    refine Ev.succ (Ev.const fun k => ?_)
    unfold reply_Parse.l0
    rw [if_neg (by omega)]
    rfl
  | d + 1, i, h => by
    intro c out ho
    have hi : i < l.length := by omega
    have hw : wrap64 ((i : Int) + 1) = (i : Int) + 1 := w64 _ (by omega)
    have hsz := hs l[i] (List.getElem_mem hi)
    rw [List.drop_eq_getElem_cons hi]
    unfold pr
    refine Ev.succ ?_
    unfold reply_Parse.l0
    simp only [rdO_get hi, hw]
    by_cases e : i = 20
    · rw [if_pos e]
      refine Ev.const fun k => ?_
      rw [if_pos (by omega), if_pos (by omega), if_pos (by omega), if_pos (by omega)]
    rw [if_neg e]
    simp only [if_pos (show (i : Int) < (l.length : Int) by omega), if_pos (show (0 : Int) ≤ (i : Int) by omega), if_neg (show ¬ (i : Int) = 20 by omega)]
    refine Ev.bind (line_ev _ c hsz) ?_
    by_cases e2 : (ln l[i] c).2.2 = 0
    · obtain ⟨n, h1, h2, h3, h4, h5, h6⟩ := ln_ok e2
      rw [if_pos e2]
      simp only [if_pos e2, if_pos (show (4 : Int) ≤ (l[i].size : Int) by omega), if_pos (show out.length < 8796093022208 by omega), Option.bind_some]
      by_cases e3 : (ln l[i] c).2.1 = true
      · rw [if_pos e3]
        refine Ev.const fun k => ?_
        rw [if_pos e3]
      · rw [if_neg e3]
        have := parse_loop l hs hl d (i + 1) (by omega) (ln l[i] c).1 (out ++ [l[i].extract 4 l[i].size]) (by rw [List.length_append, ho]; rfl)
        refine this.congr fun k => ?_
        rw [if_neg e3]
        rfl
    · rw [if_neg e2]
      refine Ev.const fun k => ?_
      rw [if_neg e2]
/-- The reply at the beginning of lines, if they are not too many. -/
def prs (l : List ByteArray) : Int × List ByteArray × Int × Int × Int := if l.length > 300 then (0, [], 0, 2, -1) else pr l 0 0 []
theorem Parse_ev (l : List ByteArray) (hs : szOk l) : Ev (fun k => reply_Parse.f k l) (prs l) := by
  unfold reply_Parse.f prs
  by_cases h : l.length > 300
  · rw [if_pos h]
    refine Ev.const fun k => ?_
    rw [if_pos (by omega)]
  · rw [if_neg h]
    refine (parse_loop l hs (by omega) l.length 0 (by omega) 0 [] rfl).congr fun k => ?_
    rw [if_neg (by omega)]
    rfl

theorem amount3 (x y z : Nat) : ((50 ≤ x ∧ x ≤ 53) ∧ dg y = true ∧ dg z = true → amount [x, y, z] = ((100 * (x - 48) + 10 * (y - 48) + (z - 48) : Nat) : Int)) ∧ (¬ ((50 ≤ x ∧ x ≤ 53) ∧ dg y = true ∧ dg z = true) → ¬ (200 ≤ amount [x, y, z] ∧ amount [x, y, z] ≤ 599)) := by
  have hu : amount [x, y, z] = if x = 48 then -1 else (if dg x = true then (if dg y = true then (if dg z = true then 10 * (10 * (10 * 0 + ((x : Int) - 48)) + ((y : Int) - 48)) + ((z : Int) - 48) else -1) else -1) else -1) := by
    unfold amount
    rw [if_pos ⟨by simp, by simp⟩]
    by_cases e : x = 48
    · rw [if_pos e, if_pos ⟨by simp, by rw [e]; rfl⟩]
    · rw [if_neg e, if_neg (by rintro ⟨_, h⟩; exact e (Option.some.inj h))]
      rfl
  rw [hu]
  constructor
  · rintro ⟨hx, hy, hz⟩
    rw [if_neg (by omega), if_pos (show dg x = true from decide_eq_true (by omega)), if_pos hy, if_pos hz]
    have hy := of_decide_eq_true hy
    have hz := of_decide_eq_true hz
    omega
  · intro hn
    by_cases e : x = 48
    · rw [if_pos e]; omega
    rw [if_neg e]
    by_cases e1 : dg x = true
    · rw [if_pos e1]
      by_cases e2 : dg y = true
      · rw [if_pos e2]
        by_cases e3 : dg z = true
        · rw [if_pos e3]
          have h1 := of_decide_eq_true e1
          have h2 := of_decide_eq_true e2
          have h3 := of_decide_eq_true e3
          have hx : ¬ (50 ≤ x ∧ x ≤ 53) := fun h => hn ⟨h, e2, e3⟩
          omega
        · rw [if_neg e3]; omega
      · rw [if_neg e2]; omega
    · rw [if_neg e1]; omega
/-- What a line with its number tells. -/
def okv (s : ByteArray) (v : Int) : Prop := match cd3 (by_ s) with
  | some n => if (by_ s).any crlf = true then ¬ (200 ≤ v ∧ v ≤ 599) else v = (n : Int)
  | none => ¬ (200 ≤ v ∧ v ≤ 599)
def stepv (s : ByteArray) (c : Int) (i : Nat) (out : List ByteArray) (rest : Int → List ByteArray → Int × List ByteArray × Int × Int × Int) : Int × List ByteArray × Int × Int × Int :=
  if (ln s c).2.2 = 0 then (if (ln s c).2.1 = true then ((ln s c).1, out ++ [s.extract 4 s.size], (i : Int) + 1, 0, 0) else rest (ln s c).1 (out ++ [s.extract 4 s.size])) else (0, [], 0, (ln s c).2.2, (i : Int))
theorem j2_ev (l : List ByteArray) (s : ByteArray) (hs : s.size ≤ 140737488351232) (i : Nat) (hi : i ≤ 300) (c : Int) (hci : c = 0 ↔ i = 0) (out : List ByteArray) (ho : out.length = i) (v : Int) (hv : okv s v) (rest : Int → List ByteArray → Int × List ByteArray × Int × Int × Int)
    (hr : ∀ n : Int, 200 ≤ n → ∀ o : List ByteArray, o.length = i + 1 → Ev (fun k => posthouseref3_ReplyOf.l0 k l (wrap64 ((i : Int) + 1)) 0 n o) (rest n o)) :
    Ev (fun k => posthouseref3_ReplyOf.j2 k l (i : Int) s v 0 c out) (stepv s c i out rest) := by
  have hw : wrap64 ((i : Int) + 1) = (i : Int) + 1 := w64 _ (by omega)
  refine Ev.succ ?_
  simp only [posthouseref3_ReplyOf.j2, In_val, Option.bind_some, decide_eq_true_eq]
  unfold stepv ln
  unfold okv at hv
  cases hc : cd3 (by_ s) with
  | none =>
    rw [hc] at hv
    refine Ev.const fun k => ?_
    rw [if_neg hv]
    rfl
  | some n =>
    rw [hc] at hv
    have hn := cd3_range hc
    have h4 : 4 ≤ s.size := by
      rw [← by_len]
      match by_ s, hc with
      | x :: y :: z :: d :: r, _ => simp
    simp only at hv ⊢
    by_cases e : (by_ s).any crlf = true
    · rw [if_pos e] at hv
      refine Ev.const fun k => ?_
      rw [if_neg hv, if_pos e]
      rfl
    rw [if_neg e] at hv
    subst hv
    rw [if_neg e]
    simp only [if_pos (show 200 ≤ (n : Int) ∧ (n : Int) ≤ 599 by omega)]
    by_cases e2 : s.size > 504
    · refine Ev.const fun k => ?_
      rw [if_pos e2, if_pos (by omega)]
      rfl
    rw [if_neg e2]
    simp only [if_neg (show ¬ (s.size : Int) > 504 by omega)]
    have hj : ∀ b : Bool, b = decide (c ≠ 0 ∧ (n : Int) ≠ c) → Ev (fun k => posthouseref3_ReplyOf.j3 k l (i : Int) s (n : Int) b 0 c out) (if (if c ≠ 0 ∧ (n : Int) ≠ c then ((0 : Int), false, (5 : Int)) else ((n : Int), bt s 3 == 32, 0)).2.2 = 0 then (if (if c ≠ 0 ∧ (n : Int) ≠ c then ((0 : Int), false, (5 : Int)) else ((n : Int), bt s 3 == 32, 0)).2.1 = true then ((if c ≠ 0 ∧ (n : Int) ≠ c then ((0 : Int), false, (5 : Int)) else ((n : Int), bt s 3 == 32, 0)).1, out ++ [s.extract 4 s.size], (i : Int) + 1, 0, 0) else rest (if c ≠ 0 ∧ (n : Int) ≠ c then ((0 : Int), false, (5 : Int)) else ((n : Int), bt s 3 == 32, 0)).1 (out ++ [s.extract 4 s.size])) else (0, [], 0, (if c ≠ 0 ∧ (n : Int) ≠ c then ((0 : Int), false, (5 : Int)) else ((n : Int), bt s 3 == 32, 0)).2.2, (i : Int))) := by
      intro b hb
      refine Ev.succ ?_
      simp only [posthouseref3_ReplyOf.j3]
      by_cases e3 : c ≠ 0 ∧ (n : Int) ≠ c
      · rw [decide_eq_true e3] at hb
        subst hb
        rw [if_pos e3]
        exact Ev.const fun k => rfl
      · rw [decide_eq_false e3] at hb
        subst hb
        rw [if_neg e3]
        simp only [Option.bind_some, if_pos (show (4 : Int) ≤ (s.size : Int) by omega), if_pos (show out.length < 8796093022208 by omega), if_pos (show (3 : Int) < (s.size : Int) by omega)]
        by_cases e4 : bt s 3 = 32
        · have hb4 : (bt s 3 == 32) = true := by simpa using e4
          rw [hb4]
          refine Ev.const fun k => ?_
          simp only [if_pos e4, hw]
          simp
        · have hb4 : (bt s 3 == 32) = false := by simpa using e4
          rw [hb4]
          refine ((hr (n : Int) (by omega) (out ++ [s.extract 4 s.size]) (by rw [List.length_append, ho]; rfl)).congr fun k => ?_).val ?_
          · simp only [if_neg e4]
            simp
          · simp
    by_cases e5 : i = 0
    · refine (hj false ?_).congr fun k => ?_
      · exact (decide_eq_false (fun h => h.1 (hci.2 e5))).symm
      · rw [if_neg (by omega)]
    · refine (hj ((n : Int) != c) ?_).congr fun k => ?_
      · have : c ≠ 0 := fun h => e5 (hci.1 h)
        rw [Bool.eq_iff_iff, bne_iff_ne, decide_eq_true_iff]
        exact ⟨fun h => ⟨this, h⟩, fun h => h.2⟩
      · rw [if_pos (by omega)]
theorem of_loop (l : List ByteArray) (hs : szOk l) (hl : l.length ≤ 300) : ∀ d i, i + d = l.length → ∀ (c : Int) (out : List ByteArray), out.length = i → (c = 0 ↔ i = 0) → Ev (fun k => posthouseref3_ReplyOf.l0 k l (i : Int) 0 c out) (pr (l.drop i) i c out)
  | 0, i, h => by
    intro c out ho hci
    rw [List.drop_eq_nil_of_le (by omega)]
    refine Ev.succ (Ev.const fun k => ?_)
    simp only [posthouseref3_ReplyOf.l0]
    rw [if_neg (by omega)]
    rfl
  | d + 1, i, h => by
    intro c out ho hci
    have hi : i < l.length := by omega
    have hw : wrap64 ((i : Int) + 1) = ((i + 1 : Nat) : Int) := by rw [w64 _ (by omega)]; omega
    have hsz := hs l[i] (List.getElem_mem hi)
    have hr : ∀ n : Int, 200 ≤ n → ∀ o : List ByteArray, o.length = i + 1 → Ev (fun k => posthouseref3_ReplyOf.l0 k l (wrap64 ((i : Int) + 1)) 0 n o) (pr (l.drop (i + 1)) (i + 1) n o) := by
      intro n hn o hoo
      rw [hw]
      exact of_loop l hs hl d (i + 1) (by omega) n o hoo ⟨fun h => by omega, fun h => by omega⟩
    rw [List.drop_eq_getElem_cons hi]
    unfold pr
    refine Ev.succ ?_
    simp only [posthouseref3_ReplyOf.l0, rdO_get hi]
    generalize l[i] = s at hsz ⊢
    by_cases e : i = 20
    · rw [if_pos e]
      refine Ev.const fun k => ?_
      rw [if_pos (by omega), if_pos (by omega), if_pos (by omega)]
      rfl
    rw [if_neg e]
    simp only [if_pos (show (i : Int) < (l.length : Int) by omega), if_pos (show (0 : Int) ≤ (i : Int) by omega), if_neg (show ¬ (i : Int) = 20 by omega)]
    have hj2 := fun v hv => j2_ev l s hsz i (by omega) c hci out ho v hv (fun n o => pr (l.drop (i + 1)) (i + 1) n o) hr
    have hjf : okv s (-1) → Ev (fun k => posthouseref3_ReplyOf.j1 k l (i : Int) s (-1) false 0 c out) (stepv s c i out (fun n o => pr (l.drop (i + 1)) (i + 1) n o)) := by
      intro hv
      refine Ev.succ ?_
      simp only [posthouseref3_ReplyOf.j1]
      refine (hj2 (-1) hv).congr fun k => ?_
      rw [if_neg (by simp)]
    have hm1 : cd3 (by_ s) = none → okv s (-1) := by
      intro h
      unfold okv
      rw [h]
      show ¬ ((200 : Int) ≤ -1 ∧ (-1 : Int) ≤ 599)
      omega
    have hcr : (by_ s).any crlf = true → okv s (-1) := by
      intro h
      unfold okv
      cases cd3 (by_ s) with
      | none => show ¬ ((200 : Int) ≤ -1 ∧ (-1 : Int) ≤ 599); omega
      | some n =>
        simp only
        rw [if_pos h]
        omega
    by_cases h4 : 4 ≤ s.size
    · obtain ⟨x, y, z, dd, r, hL⟩ := four (by_ s) (by rw [by_len]; omega)
      have hb : bt s 3 = (dd : Int) := by
        have := bt_by s 3 (by omega)
        simpa [hL] using this
      have ht : by_ (s.extract 0 3) = [x, y, z] := by rw [by_take3, hL]; rfl
      have htz : (s.extract 0 3).size ≤ 140737488351232 := by
        rw [← by_len, ht]; simp
      have hjt : (dd = 45 ∨ dd = 32) → Ev (fun k => (posthouseref3_ends.f k s).bind fun t257 => (posthouseref3_ReplyOf.j1 k l (i : Int) s (-1) (!t257) 0 c out)) (stepv s c i out (fun n o => pr (l.drop (i + 1)) (i + 1) n o)) := by
        intro hdd
        refine Ev.bind (rends_ev s hsz) ?_
        by_cases ec : (by_ s).any crlf = true
        · rw [ec]
          exact hjf (hcr ec)
        · have ec' : (by_ s).any crlf = false := by simpa using ec
          rw [ec']
          refine Ev.succ ?_
          simp only [posthouseref3_ReplyOf.j1]
          have hA := Amount_ev (s.extract 0 3) htz
          rw [ht] at hA
          have hov : okv s (amount [x, y, z]) := by
            unfold okv
            rw [hL, cd3_cons]
            have ha := amount3 x y z
            by_cases e9 : (50 ≤ x ∧ x ≤ 53) ∧ dg y = true ∧ dg z = true
            · rw [if_pos ⟨hdd, e9⟩]
              simp only
              rw [← hL, if_neg ec]
              exact ha.1 e9
            · rw [if_neg (fun h => e9 h.2)]
              exact ha.2 e9
          refine (Ev.bind (g := fun k t259 => posthouseref3_ReplyOf.j2 k l (i : Int) s t259 0 c out) hA (hj2 _ hov)).congr fun k => ?_
          rw [if_pos (by simp), if_pos (by omega), if_pos (by omega)]
      simp only [if_pos (show (s.size : Int) ≥ 4 by omega), if_pos (show (3 : Int) < (s.size : Int) by omega)]
      by_cases e45 : bt s 3 = 45
      · refine (hjt (.inl (by omega))).congr fun k => ?_
        rw [if_pos e45]
      · by_cases e32 : bt s 3 = 32
        · refine (hjt (.inr (by omega))).congr fun k => ?_
          rw [if_neg e45, if_pos e32]
        · refine (hjf (hm1 ?_)).congr fun k => ?_
          · rw [hL, cd3_cons, if_neg (by rintro ⟨h, _⟩; omega)]
          · rw [if_neg e45, if_neg e32]
    · refine (hjf (hm1 ?_)).congr fun k => ?_
      · have hl : (by_ s).length < 4 := by rw [by_len]; omega
        match by_ s, hl with
        | [], _ => rfl
        | [_], _ => rfl
        | [_, _], _ => rfl
        | [_, _, _], _ => rfl
      · rw [if_neg (by omega)]
theorem ReplyOf_ev (l : List ByteArray) (hs : szOk l) : Ev (fun k => posthouseref3_ReplyOf.f k l) (prs l) := by
  unfold posthouseref3_ReplyOf.f prs
  by_cases h : l.length > 300
  · rw [if_pos h]
    refine Ev.const fun k => ?_
    rw [if_pos (by omega)]
    rfl
  · rw [if_neg h]
    refine (of_loop l hs (by omega) l.length 0 (by omega) 0 [] rfl ⟨fun _ => rfl, fun _ => rfl⟩).congr fun k => ?_
    rw [if_neg (by omega)]
    rfl

theorem SameReply_ev (a b : Int) (l m : List ByteArray) (hl : l.length ≤ 8796093022208) : Ev (fun k => posthouseref3_SameReply.f k a l b m) (decide (a = b ∧ l = m)) := by
  unfold posthouseref3_SameReply.f
  by_cases e : a = b
  · refine ((Ev.bind (g := fun _ t => some t) (Strings_ev l m hl) (Ev.some_ _)).congr fun k => ?_).val ?_
    · rw [if_pos e]
    · exact decide_eq_decide.2 ⟨fun h => ⟨e, h⟩, fun h => h.2⟩
  · rw [decide_eq_false (fun h => e h.1)]
    exact Ev.const fun k => if_neg e
theorem it250 : it 250 = ⟨#[50, 53, 48]⟩ := by
  unfold it
  rw [show (250 : Int) = ((250 : Nat) : Int) from rfl, itoa_nat, dec3 250 (by omega)]
  rfl
theorem szOk_small (l : List ByteArray) (h : (l.all fun s => decide (s.size ≤ 140737488351232)) = true) : szOk l := fun s hs => of_decide_eq_true (List.all_eq_true.1 h s hs)
theorem replies_ev : Ev (fun k => posthouselaw3_replies.f k) true := by
  have P1 : Ev (fun k => reply_Print.f k 250 [(⟨#[97]⟩ : ByteArray), (⟨#[98]⟩ : ByteArray)]) ([⟨#[50, 53, 48, 45, 97]⟩, ⟨#[50, 53, 48, 32, 98]⟩], 0, 0) := by
    refine (rPrint_ev 250 _ (szOk_small _ (by decide +kernel))).val ?_
    rw [if_pos (by decide +kernel)]
    simp only [pl, it250]
    rfl
  have P2 : Ev (fun k => reply_Parse.f k [(⟨#[50, 53, 48, 45, 97]⟩ : ByteArray), (⟨#[50, 53, 48, 32, 98]⟩ : ByteArray), (⟨#[50, 50, 48, 32, 99]⟩ : ByteArray)]) (250, [⟨#[97]⟩, ⟨#[98]⟩], 2, 0, 0) := by
    refine (Parse_ev _ (szOk_small _ (by decide +kernel))).val ?_
    decide +kernel
  have P3 : Ev (fun k => reply_Class.f k 354 [(⟨#[]⟩ : ByteArray)]) (3, 0, 0) := by
    refine (rClass_ev 354 _ (szOk_small _ (by decide +kernel))).val ?_
    rw [if_pos (by decide +kernel)]
    decide +kernel
  have P4 : Ev (fun k => reply_Parse.f k [(⟨#[50, 53, 48, 45, 97]⟩ : ByteArray)]) (0, [], 0, 9, -2) := by
    refine (Parse_ev _ (szOk_small _ (by decide +kernel))).val ?_
    decide +kernel
  unfold posthouselaw3_replies.f
  refine Ev.bind P1 (Ev.bind P2 (Ev.bind P3 (Ev.bind P4 ?_)))
  simp only [if_true, posthouseref3_At.f, Option.bind_some, BEq.rfl, Bool.and_self]
  refine Ev.bind (Strings_ev _ _ (by decide)) ?_
  rw [decide_eq_true rfl]
  simp only [if_true]
  refine Ev.bind (SameReply_ev _ _ _ _ (by decide)) ?_
  rw [decide_eq_true ⟨rfl, rfl⟩]
  simp only [if_true]
  exact Ev.const fun k => rfl
theorem szOk_wf {l : List ByteArray} (h : XOpen.WFs 16 (fun x_ : ByteArray => x_.size ≤ 140737488351232) l) : szOk l := h.2

theorem by_app (a b : ByteArray) : by_ (a ++ b) = by_ a ++ by_ b := by
  unfold by_
  rw [ByteArray.data_append, Array.toList_append, List.map_append]
theorem by_drop (a : ByteArray) (n : Nat) : by_ (a.extract n a.size) = (by_ a).drop n := by
  have hl : a.data.toList.length = a.size := Array.length_toList
  unfold by_
  rw [ByteArray.data_extract, Array.toList_extract, List.extract_eq_take_drop, List.take_of_length_le (by rw [List.length_drop]; omega), List.map_drop]
theorem dash_by (c : Nat) (hc : 200 ≤ c ∧ c ≤ 599) (x : UInt8) (s : ByteArray) : by_ (it (c : Int) ++ (⟨#[x]⟩ : ByteArray) ++ s) = (48 + c / 100) :: (48 + c / 10 % 10) :: (48 + c % 10) :: x.toNat :: by_ s := by
  rw [by_app, by_app, it_by c hc]
  rfl
theorem dash_ln (c : Nat) (hc : 200 ≤ c ∧ c ≤ 599) (x : UInt8) (hx : x = 32 ∨ x = 45) (s : ByteArray) (h1 : s.size ≤ 500) (h2 : (by_ s).any crlf = false) (code : Int) (hcode : code = 0 ∨ code = (c : Int)) :
    ln (it (c : Int) ++ (⟨#[x]⟩ : ByteArray) ++ s) code = ((c : Int), decide (x = 32), 0) := by
  have hb := dash_by c hc x s
  have hsz : (it (c : Int) ++ (⟨#[x]⟩ : ByteArray) ++ s).size = 4 + s.size := by rw [ByteArray.size_append, app_size _ (by omega)]
  have hx2 : x.toNat = 45 ∨ x.toNat = 32 := by
    rcases hx with rfl | rfl
    · right; rfl
    · left; rfl
  have hbt : bt (it (c : Int) ++ (⟨#[x]⟩ : ByteArray) ++ s) 3 = (x.toNat : Int) := by
    have := bt_by (it (c : Int) ++ (⟨#[x]⟩ : ByteArray) ++ s) 3 (by omega)
    simpa [hb] using this
  unfold ln
  rw [hb, cd3_cons, if_pos ⟨hx2, by omega, decide_eq_true (by omega), decide_eq_true (by omega)⟩]
  have hn : 100 * (48 + c / 100 - 48) + 10 * (48 + c / 10 % 10 - 48) + (48 + c % 10 - 48) = c := by omega
  simp only [hn]
  have hany : ((48 + c / 100) :: (48 + c / 10 % 10) :: (48 + c % 10) :: x.toNat :: by_ s).any crlf = false := by
    have hd : ∀ n : Nat, 14 ≤ n → crlf n = false := fun n hn => by unfold crlf; simp; omega
    simp only [List.any_cons, h2, Bool.or_false, hd _ (show 14 ≤ 48 + c / 100 by omega), hd _ (show 14 ≤ 48 + c / 10 % 10 by omega), hd _ (show 14 ≤ 48 + c % 10 by omega), hd _ (show 14 ≤ x.toNat by omega)]
  rw [hany, if_neg (by simp), if_neg (by omega), if_neg (by rintro ⟨h3, h4⟩; rcases hcode with h | h <;> omega), hbt]
  congr 2
  rcases hx with rfl | rfl <;> rfl
theorem dash_drop (c : Nat) (hc : 200 ≤ c ∧ c ≤ 599) (x : UInt8) (s : ByteArray) : (it (c : Int) ++ (⟨#[x]⟩ : ByteArray) ++ s).extract 4 (it (c : Int) ++ (⟨#[x]⟩ : ByteArray) ++ s).size = s := by
  apply by_inj
  rw [by_drop, dash_by c hc]
  rfl
theorem pr_back (c : Nat) (hc : 200 ≤ c ∧ c ≤ 599) (more : List ByteArray) : ∀ (l : List ByteArray), l ≠ [] → (∀ s ∈ l, s.size ≤ 500 ∧ (by_ s).any crlf = false) → ∀ (i : Nat) (code : Int) (out : List ByteArray), (code = 0 ∨ code = (c : Int)) → i + l.length ≤ 20 →
    pr (pl (c : Int) l ++ more) i code out = ((c : Int), out ++ l, ((i + l.length : Nat) : Int), 0, 0)
  | [], h, _ => absurd rfl h
  | s :: l, _, hs => by
    intro i code out hcode hi
    rw [List.length_cons] at hi
    obtain ⟨h1, h2⟩ := hs s (List.mem_cons_self ..)
    unfold pl
    rw [List.cons_append]
    unfold pr
    rw [if_neg (by omega)]
    by_cases e : l = []
    · subst e
      rw [if_pos rfl, dash_ln c hc 32 (.inl rfl) s h1 h2 code hcode, dash_drop c hc]
      rfl
    · rw [if_neg e, dash_ln c hc 45 (.inr rfl) s h1 h2 code hcode, dash_drop c hc]
      rw [if_pos rfl, if_neg (by simp)]
      rw [pr_back c hc more l e (fun t ht => hs t (List.mem_cons_of_mem _ ht)) (i + 1) (c : Int) (out ++ [s]) (.inr rfl) (by omega)]
      rw [List.append_assoc, List.length_cons]
      simp only [List.cons_append, List.nil_append]
      rw [show i + 1 + l.length = i + (l.length + 1) by omega]
theorem pr_cut (c : Nat) (hc : 200 ≤ c ∧ c ≤ 599) : ∀ (l : List ByteArray), l ≠ [] → (∀ s ∈ l, s.size ≤ 500 ∧ (by_ s).any crlf = false) → ∀ (i : Nat) (code : Int) (out : List ByteArray), (code = 0 ∨ code = (c : Int)) → i + l.length ≤ 20 →
    pr ((pl (c : Int) l).take (l.length - 1)) i code out = (0, [], 0, 9, -2)
  | [], h, _ => absurd rfl h
  | s :: l, _, hs => by
    intro i code out hcode hi
    rw [List.length_cons] at hi ⊢
    obtain ⟨h1, h2⟩ := hs s (List.mem_cons_self ..)
    by_cases e : l = []
    · subst e
      rfl
    · have hl : 0 < l.length := List.length_pos_iff.2 e
      unfold pl
      rw [show l.length + 1 - 1 = (l.length - 1) + 1 by omega, List.take_succ_cons]
      unfold pr
      rw [if_neg (by omega), if_neg e, dash_ln c hc 45 (.inr rfl) s h1 h2 code hcode]
      rw [if_pos rfl, if_neg (by simp)]
      exact pr_cut c hc l e (fun t ht => hs t (List.mem_cons_of_mem _ ht)) (i + 1) (c : Int) _ (.inr rfl) (by omega)
theorem pl_size (c : Int) (hc : 200 ≤ c ∧ c ≤ 599) : ∀ (l : List ByteArray), (∀ s ∈ l, s.size ≤ 500) → ∀ s ∈ pl c l, s.size ≤ 504
  | [], _, s, h => by cases h
  | t :: l, hl, s, h => by
    unfold pl at h
    rcases List.mem_cons.1 h with rfl | h
    · have := hl t (List.mem_cons_self ..)
      have h3 := it_size c hc
      by_cases e : l = []
      · rw [if_pos e, ByteArray.size_append, app_size c hc]; omega
      · rw [if_neg e, ByteArray.size_append, app_size c hc]; omega
    · exact pl_size c hc l (fun x hx => hl x (List.mem_cons_of_mem _ hx)) s h
theorem pure : posthouselaw3_ReplyRoundTrips.PureX := by
  intro x more hwf hm
  obtain ⟨hcw, hl⟩ := hwf
  have hs := szOk_wf hl
  have hms := szOk_wf hm
  have hP := rPrint_ev x.f0 x.f1 hs
  have hjt : ∀ (a : List ByteArray) (f g : Int), (f = 0 ∨ a = []) → Ev (fun k => posthouselaw3_ReplyRoundTrips.j0 k more a true x.f0 x.f1 f g) true := by
    intro a f g hfa
    refine Ev.succ ?_
    simp only [posthouselaw3_ReplyRoundTrips.j0]
    have hb : Ev (fun k => (posthouselaw3_replies.f k).bind fun t298 => (if t298 = true then (if f = 0 then (some true) else (some ((a.length : Int) == 0))) else (some false))) true := by
      refine Ev.bind replies_ev (Ev.const fun k => ?_)
      simp only [if_true]
      by_cases e : f = 0
      · rw [if_pos e]
      · rw [if_neg e]
        rcases hfa with h | rfl
        · exact absurd h e
        · rfl
    refine hb.congr fun k => ?_
    simp
  refine Ev.ex ?_
  unfold posthouselaw3_ReplyRoundTrips.f
  refine Ev.bind hP (Ev.bind replies_ev ?_)
  simp only [if_true]
  by_cases e : (rfa x.f0 x.f1).1 = 0
  · obtain ⟨e1, hr, hn, hok⟩ := rfa_code e
    simp only [if_pos e, if_true]
    by_cases hmore : more.length > 100
    · rw [decide_eq_true (by omega)]
      exact hjt _ _ _ (.inl rfl)
    rw [decide_eq_false (by omega)]
    obtain ⟨c, hc0⟩ : ∃ c : Nat, x.f0 = c := ⟨x.f0.toNat, by omega⟩
    have hcr : 200 ≤ c ∧ c ≤ 599 := by omega
    have hne : x.f1 ≠ [] := fun h => by rw [h] at hn; simp at hn
    have hpl := pl_len x.f0 x.f1
    have hps := pl_size x.f0 hr x.f1 (fun s h => (hok s h).1)
    have hw1 : wrap64 (((pl x.f0 x.f1).length : Int) - 1) = ((x.f1.length - 1 : Nat) : Int) := by rw [hpl, w64 _ (by omega)]; omega
    refine Ev.succ ?_
    simp only [posthouselaw3_ReplyRoundTrips.j0, hw1, Int.toNat_natCast, posthouseref3_At.f, Option.bind_some, List.nil_append]
    have hcut : Ev (fun k => reply_Parse.f k ((pl x.f0 x.f1).take (x.f1.length - 1))) (0, [], 0, 9, -2) := by
      refine (Parse_ev _ (fun s h => ?_)).val ?_
      · have := hps s (List.mem_of_mem_take h)
        omega
      · unfold prs
        rw [if_neg (by rw [List.length_take, hpl]; omega), hc0]
        exact pr_cut c hcr x.f1 hne hok 0 0 [] (.inl rfl) (by omega)
    have hback : Ev (fun k => reply_Parse.f k (pl x.f0 x.f1 ++ more)) (x.f0, x.f1, ((pl x.f0 x.f1).length : Int), 0, 0) := by
      refine (Parse_ev _ (fun s h => ?_)).val ?_
      · rcases List.mem_append.1 h with h | h
        · have := hps s h
          omega
        · exact hms s h
      · unfold prs
        rw [if_neg (by rw [List.length_append, hpl]; omega), hpl, hc0, pr_back c hcr more x.f1 hne hok 0 0 [] (.inl rfl) (by omega)]
        simp
    have hb : Ev (fun k => (reply_Parse.f k ((pl x.f0 x.f1).take (x.f1.length - 1))).bind fun bt303 => (if ([] : List ByteArray).length + (pl x.f0 x.f1).length < 8796093022208 then (if (pl x.f0 x.f1).length + more.length < 8796093022208 then ((reply_Parse.f k (pl x.f0 x.f1 ++ more)).bind fun bt318 => (if (bt303.2.2.2.1 == 9 && (bt303.2.2.2.2 == -2)) = true then (if bt318.2.2.2.1 = 0 then (if bt318.2.2.1 = ((pl x.f0 x.f1).length : Int) then ((posthouseref3_SameReply.f k bt318.1 bt318.2.1 x.f0 x.f1).bind fun t329 => (some t329)) else (some false)) else (some false)) else (some false))) else none) else none)) true := by
      refine Ev.bind hcut ?_
      simp only [if_pos (show ([] : List ByteArray).length + (pl x.f0 x.f1).length < 8796093022208 by rw [hpl]; simp; omega), if_pos (show (pl x.f0 x.f1).length + more.length < 8796093022208 by rw [hpl]; omega)]
      refine Ev.bind hback ?_
      simp only [BEq.rfl, Bool.and_self, if_true]
      refine Ev.bind (g := fun _ t => some t) (SameReply_ev _ _ _ _ (by omega)) ?_
      rw [decide_eq_true ⟨rfl, rfl⟩]
      exact Ev.some_ _
    refine hb.congr fun k => ?_
    rw [if_neg (by simp), if_neg (by rw [hpl]; omega), if_pos (by omega), if_pos (by rw [hpl]; omega)]
  · have hb : ((rfa x.f0 x.f1).1 = 0) = False := eq_false e
    simp only [if_neg e]
    exact hjt _ _ _ (.inr rfl)

end Go.Proofs.YtbmeebhcanknmaaDoor.XRep.PReplyRoundTrips
