/- A text of this claim. -/
import Derived.Test.YtcaaadaikfnbaaaGreatDoorPureB
import Derived.Test.YtcaaadaikfnbaaaGreatDoorHTopUtfx8
import Derived.Lib.Join
set_option linter.all false
namespace Go.Proofs.YtcaaadaikfnbaaaGreatDoor.Pure
open Go Go.RowKit Go.Proofs.YtcaaadaikfnbaaaGreatDoor.HTopUtf Go.Proofs.YtcaaadaikfnbaaaGreatDoorW.PrintWords Go.Proofs.YtcaaadaikfnbaaaGreatDoorW.PrintLast
theorem ints_total (l : List Int) (hl : l.length ≤ 200) : ∀ (d i : Nat), l.length - i = d → i ≤ l.length → ∀ (k : Nat) (acc : List Int), acc.length ≤ 4 * i → d + 1 ≤ k →
    ∃ r, inkhorntop_quillInts.l0 k acc l (l.length : Int) (i : Int) = some r := by
  intro d
  induction d with
  | zero =>
    intro i hd hi k acc ha hk
    obtain ⟨k, rfl⟩ : ∃ m, k = m + 1 := ⟨k - 1, by omega⟩
    refine ⟨acc, ?_⟩
    simp only [inkhorntop_quillInts.l0]
    rw [if_neg (by omega)]
  | succ d ih =>
    intro i hd hi k acc ha hk
    obtain ⟨k, rfl⟩ : ∃ m, k = m + 1 := ⟨k - 1, by omega⟩
    simp only [inkhorntop_quillInts.l0]
    have g1 : (i : Int) < (l.length : Int) := by omega
    have g2 : (0 : Int) ≤ (i : Int) := by omega
    have hw : wrap64 ((i : Int) + 1) = ((i + 1 : Nat) : Int) := by rw [w64e (by omega) (by omega)]; omega
    simp only [if_pos g1, if_pos g2, Option.bind_some, hw]
    clear hw
    rw [if_pos (by
      have : acc.length ≤ 800 := by omega
      simp only [List.length_cons, List.length_nil]
      exact Nat.lt_of_le_of_lt (Nat.add_le_add_right this _) (by decide))]
    exact ih (i + 1) (by omega) (by omega) k _ (by simp; omega) (by omega)
theorem runes_refl (l : List Int) (hl : l.length ≤ 200) (k : Nat) (hk : 300 ≤ k) : inkhorntop_quillRunes.f k l l = some true := by
  obtain ⟨r, h⟩ := ints_total l hl (l.length - 0) 0 rfl (by omega) k [] (by simp) (by omega)
  have h' : inkhorntop_quillInts.f k l = some r := h
  unfold inkhorntop_quillRunes.f
  rw [h']
  simp only [Option.bind_some, beq_self_eq_true]
theorem faults_refl (l : List S52) (hl : l.length ≤ 200) : ∀ (d i : Nat), l.length - i = d → i ≤ l.length → ∀ (k : Nat), d + 1 ≤ k →
    inkhorntop_quillFaults.l0 k l l (l.length : Int) (i : Int) = some true := by
  intro d
  induction d with
  | zero =>
    intro i hd hi k hk
    obtain ⟨k, rfl⟩ : ∃ m, k = m + 1 := ⟨k - 1, by omega⟩
    simp only [inkhorntop_quillFaults.l0]
    rw [if_neg (by omega)]
  | succ d ih =>
    intro i hd hi k hk
    obtain ⟨k, rfl⟩ : ∃ m, k = m + 1 := ⟨k - 1, by omega⟩
    simp only [inkhorntop_quillFaults.l0]
    have g1 : (i : Int) < (l.length : Int) := by omega
    have g2 : (0 : Int) ≤ (i : Int) := by omega
    have hw : wrap64 ((i : Int) + 1) = ((i + 1 : Nat) : Int) := by rw [w64e (by omega) (by omega)]; omega
    simp only [if_pos g1, if_pos g2, hw, beq_self_eq_true, Bool.not_true, Bool.or_self]
    clear hw
    rw [if_neg (by decide)]
    exact ih (i + 1) (by omega) (by omega) k (by omega)
theorem faults_same (l : List S52) (hl : l.length ≤ 200) (k : Nat) (hk : 300 ≤ k) : inkhorntop_quillFaults.f k l l = some true := by
  unfold inkhorntop_quillFaults.f
  rw [if_pos rfl]
  exact faults_refl l hl (l.length - 0) 0 rfl (by omega) k (by omega)
theorem split_ok (s : ByteArray) (hs : s.size ≤ 200) (a2 : Int) : ∃ t : Nat, t ≤ s.size ∧ inkhorntop_quillSplit.f s a2 = some (s.extract 0 t, s.extract t s.size) := by
  unfold inkhorntop_quillSplit.f
  have hn : wrap64 ((s.size : Int) + 1) = (s.size : Int) + 1 := w64e (by omega) (by omega)
  simp only [hn]
  clear hn
  have l1 := Int.tmod_lt_of_pos a2 (show 0 < (s.size : Int) + 1 by omega)
  have l2 := Int.lt_tmod_of_pos a2 (show 0 < (s.size : Int) + 1 by omega)
  generalize Int.tmod a2 ((s.size : Int) + 1) = x at l1 l2
  have e1 : wrap64 (x + (s.size : Int)) = x + (s.size : Int) := w64e (by omega) (by omega)
  simp only [e1]
  clear e1
  have e2 : wrap64 (x + (s.size : Int) + 1) = x + (s.size : Int) + 1 := w64e (by omega) (by omega)
  simp only [e2]
  clear e2
  have l3 := Int.tmod_lt_of_pos (x + (s.size : Int) + 1) (show 0 < (s.size : Int) + 1 by omega)
  have l4 := Int.tmod_nonneg ((s.size : Int) + 1) (show 0 ≤ x + (s.size : Int) + 1 by omega)
  generalize Int.tmod (x + (s.size : Int) + 1) ((s.size : Int) + 1) = y at l3 l4
  refine ⟨y.toNat, by omega, ?_⟩
  rw [if_neg (by omega), if_pos l4, if_pos (by omega)]
theorem bytes_small (s : ByteArray) (hs : s.size ≤ 200) : s.data.toList.length ≤ 140737488355328 := by
  rw [← Lib.size_eq]
  exact Nat.le_trans hs (by decide)
theorem back (s : ByteArray) : (⟨s.data.toList.toArray⟩ : ByteArray) = s := by
  apply ByteArray.ext; simp
theorem join3 (s : ByteArray) (hs : s.size ≤ 200) (t : Nat) (ht : t ≤ s.size) : strings_Join.f [s.extract 0 t, (⟨#[]⟩ : ByteArray), s.extract t s.size] (⟨#[]⟩ : ByteArray) = some s := by
  have hj : Lib.join ([s.extract 0 t, (⟨#[]⟩ : ByteArray), s.extract t s.size].map (·.data.toList)) (⟨#[]⟩ : ByteArray).data.toList = s.data.toList := by
    simp only [List.map_cons, List.map_nil, Lib.join_cons, Lib.joinTail, Lib.extract_data]
    simp only [List.flatten_cons, List.flatten_nil, List.append_nil, List.nil_append]
    have : List.take (s.size - t) (List.drop t s.data.toList) = List.drop t s.data.toList := by
      apply List.take_of_length_le
      rw [List.length_drop, ← Lib.size_eq]
      omega
    rw [this]
    simp
  unfold strings_Join.f
  rw [hj, if_pos ⟨show 3 ≤ 140737488355328 by decide, bytes_small s hs⟩, back]
theorem join1 (s : ByteArray) (hs : s.size ≤ 200) : strings_Join.f [s] (⟨#[]⟩ : ByteArray) = some s := by
  unfold strings_Join.f
  have hj : Lib.join ([s].map (·.data.toList)) (⟨#[]⟩ : ByteArray).data.toList = s.data.toList := Lib.join_one _ _
  rw [hj, if_pos ⟨show 1 ≤ 140737488355328 by decide, bytes_small s hs⟩, back]
theorem or_i32 (i : Nat) (hi : i ≤ 31) {x y : Int} (hx₀ : 0 ≤ x) (hx : x % 2 ^ i = 0) (hx₁ : x < 2 ^ 31) (h₀ : 0 ≤ y) (h₁ : y < 2 ^ i) (h2 : y < 2 ^ 31) : bits .or .i32 x y = x + y :=
  bits_join .i32 31 (by decide) wraps_i32 i x y hx₀ hx hx₁ h₀ h₁ h2
theorem or_i64 (i : Nat) (hi : i ≤ 31) {x y : Int} (hx₀ : 0 ≤ x) (hx : x % 2 ^ i = 0) (hx₁ : x < 2 ^ 62) (h₀ : 0 ≤ y) (h₁ : y < 2 ^ i) (h2 : y < 2 ^ 62) : bits .or .i64 x y = x + y :=
  bits_join .i64 62 (by decide) wraps_i64 i x y hx₀ hx hx₁ h₀ h₁ h2
theorem and63_i32 {x : Int} (h₀ : 0 ≤ x) (h₁ : x < 2 ^ 31) : bits .and .i32 x 63 = x % 64 := bits_mask .i32 31 (by decide) wraps_i32 6 (by decide) x h₀ h₁
theorem and63_i64 {x : Int} (h₀ : 0 ≤ x) (h₁ : x < 2 ^ 62) : bits .and .i64 x 63 = x % 64 := bits_mask .i64 62 (by decide) wraps_i64 6 (by decide) x h₀ h₁
theorem wi64 {x : Int} (h0 : 0 ≤ x) (h1 : x < 2 ^ 62) : IntKind.wrap .i64 x = x := wraps_i64 x h0 h1
def oct (x : Int) : UInt8 := x.toNat.toUInt8
theorem next_eq {x : Int} (h0 : 0 ≤ x) (h1 : x ≤ 1114111) (n : Nat) (hn : n = 0 ∨ n = 6 ∨ n = 12) : nextB x n = oct (putN x n) := by
  have hq : 0 ≤ Int.fdiv x (2 ^ n) ∧ Int.fdiv x (2 ^ n) ≤ 1114111 := by
    rcases hn with rfl | rfl | rfl
    all_goals (rw [Int.fdiv_eq_ediv_of_nonneg _ (by decide)]; simp; omega)
  unfold nextB putN oct u8
  rw [wi64 h0 (by omega)]
  generalize Int.fdiv x (2 ^ n) = y at hq
  rw [and63_i32 hq.1 (by omega), and63_i64 hq.1 (by omega), or_i32 6 (by decide) (by decide) (by decide) (by decide) (by omega) (by omega) (by omega), or_i64 6 (by decide) (by decide) (by decide) (by decide) (by omega) (by omega) (by omega)]
theorem first_eq {x : Int} (h0 : 0 ≤ x) (h1 : x ≤ 1114111) (m : Int) (n i : Nat) (hm : (m = 192 ∧ n = 6 ∧ i = 5 ∧ x < 2048) ∨ (m = 224 ∧ n = 12 ∧ i = 4 ∧ x < 65536) ∨ (m = 240 ∧ n = 18 ∧ i = 3)) : firstB m x n = oct (put1 x m n) := by
  unfold firstB put1 oct u8
  rw [wi64 h0 (by omega)]
  rcases hm with ⟨rfl, rfl, rfl, h2⟩ | ⟨rfl, rfl, rfl, h2⟩ | ⟨rfl, rfl, rfl⟩
  all_goals
    rw [Int.fdiv_eq_ediv_of_nonneg _ (by decide)]
  · have hq : 0 ≤ x / 2 ^ 6 ∧ x / 2 ^ 6 < 32 := by simp; omega
    generalize x / 2 ^ 6 = y at hq
    rw [or_i32 5 (by decide) (by decide) (by decide) (by decide) hq.1 (by omega) (by omega), or_i64 5 (by decide) (by decide) (by decide) (by decide) hq.1 (by omega) (by omega)]
  · have hq : 0 ≤ x / 2 ^ 12 ∧ x / 2 ^ 12 < 16 := by simp; omega
    generalize x / 2 ^ 12 = y at hq
    rw [or_i32 4 (by decide) (by decide) (by decide) (by decide) hq.1 (by omega) (by omega), or_i64 4 (by decide) (by decide) (by decide) (by decide) hq.1 (by omega) (by omega)]
  · have hq : 0 ≤ x / 2 ^ 18 ∧ x / 2 ^ 18 < 8 := by simp; omega
    generalize x / 2 ^ 18 = y at hq
    rw [or_i32 3 (by decide) (by decide) (by decide) (by decide) hq.1 (by omega) (by omega), or_i64 3 (by decide) (by decide) (by decide) (by decide) hq.1 (by omega) (by omega)]
theorem ascii_eq {x : Int} (h0 : 0 ≤ x) (h1 : x < 128) : HTopUtf.u8 x = oct (put1 x 0 0) := by
  unfold HTopUtf.u8 put1 oct
  rw [wi64 h0 (by omega), Int.fdiv_eq_ediv_of_nonneg _ (by decide)]
  have e : x / 2 ^ 0 = x := by simp
  rw [e, or_i64 7 (by decide) (by decide) (by decide) (by decide) h0 (by omega) (by omega)]
  simp
theorem sign_ok {x : Int} (h0 : 0 ≤ x) (h1 : x ≤ 1114111) (hsc : x < 55296 ∨ 57343 < x) :
    ∃ (n : Nat) (p : List Int), p.length = n ∧ n ≤ 4 ∧ inkhorntop_quillBytes.f 5 x = some (Go.Ar.bytesI p) ∧ utf8_Len.f x = some (n : Int) ∧ ∀ bs r, encRest bs (x :: r) = encRest (bs ++ p) r := by
  unfold inkhorntop_quillBytes.f
  rw [if_pos rfl]
  by_cases c1 : x < 128
  · have hl : utf8_Len.f x = some 1 := by unfold utf8_Len.f; rw [if_neg (by omega), if_pos (by omega)]
    refine ⟨1, put_1 x, rfl, by decide, ?_, hl, fun bs r => ?_⟩
    · rw [if_pos c1, ascii_eq h0 c1]; rfl
    · rw [encRest, if_pos hl]
  by_cases c2 : x < 2048
  · have hl : utf8_Len.f x = some 2 := by unfold utf8_Len.f; rw [if_neg (by omega), if_neg (by omega), if_pos (by omega)]
    refine ⟨2, put_2 x, rfl, by decide, ?_, hl, fun bs r => ?_⟩
    · rw [if_neg c1, if_pos c2, first_eq h0 h1 192 6 5 (.inl ⟨rfl, rfl, rfl, c2⟩), next_eq h0 h1 0 (.inl rfl)]; rfl
    · rw [encRest, if_neg (by rw [hl]; decide), if_pos hl]
  by_cases c3 : x < 65536
  · have hl : utf8_Len.f x = some 3 := by
      unfold utf8_Len.f
      rw [if_neg (by omega), if_neg (by omega), if_neg (by omega)]
      by_cases c4 : x < 55296
      · rw [if_pos c4]
      · rw [if_neg c4, if_neg (by omega), if_pos (by omega)]
    refine ⟨3, put_3 x, rfl, by decide, ?_, hl, fun bs r => ?_⟩
    · rw [if_neg c1, if_neg c2, if_pos c3, first_eq h0 h1 224 12 4 (.inr (.inl ⟨rfl, rfl, rfl, c3⟩)), next_eq h0 h1 0 (.inl rfl), next_eq h0 h1 6 (.inr (.inl rfl))]; rfl
    · rw [encRest, if_neg (by rw [hl]; decide), if_neg (by rw [hl]; decide), if_pos hl]
  · have hl : utf8_Len.f x = some 4 := by unfold utf8_Len.f; rw [if_neg (by omega), if_neg (by omega), if_neg (by omega), if_neg (by omega), if_neg (by omega), if_neg (by omega), if_pos (by omega)]
    refine ⟨4, put_4 x, rfl, by decide, ?_, hl, fun bs r => ?_⟩
    · rw [if_neg c1, if_neg c2, if_neg c3, first_eq h0 h1 240 18 3 (.inr (.inr ⟨rfl, rfl, rfl⟩)), next_eq h0 h1 0 (.inl rfl), next_eq h0 h1 6 (.inr (.inl rfl)), next_eq h0 h1 12 (.inr (.inr rfl))]; rfl
    · rw [encRest, if_neg (by rw [hl]; decide), if_neg (by rw [hl]; decide), if_neg (by rw [hl]; decide), if_pos hl]
theorem sign_bad {x : Int} (h : ¬ (0 ≤ x ∧ x ≤ 1114111 ∧ (x < 55296 ∨ 57343 < x))) : utf8_Len.f x = some 0 ∧ ∀ bs r, encRest bs (x :: r) = none := by
  have hl : utf8_Len.f x = some 0 := by
    unfold utf8_Len.f
    by_cases c0 : x < 0
    · rw [if_pos c0]
    rw [if_neg c0, if_neg (by omega), if_neg (by omega), if_neg (by omega)]
    by_cases c1 : x ≤ 57343
    · rw [if_pos c1]
    · rw [if_neg c1, if_neg (by omega), if_neg (by omega)]
  refine ⟨hl, fun bs r => ?_⟩
  rw [encRest, if_neg (by rw [hl]; decide), if_neg (by rw [hl]; decide), if_neg (by rw [hl]; decide), if_neg (by rw [hl]; decide)]
theorem scalar_eq (x : Int) : api_Scalar.f x = some (decide (0 ≤ x ∧ x ≤ 1114111 ∧ (x < 55296 ∨ 57343 < x))) := by
  unfold api_Scalar.f
  repeat' split
  all_goals (congr 1; first | (symm; apply decide_eq_true; omega) | (symm; apply decide_eq_false; omega) | (apply decide_eq_decide.mpr; omega))
theorem bytesI_size (p : List Int) : (Go.Ar.bytesI p).size = p.length := by
  unfold Go.Ar.bytesI
  rw [Lib.size_eq]; simp
theorem bytesI_append (p q : List Int) : Go.Ar.bytesI p ++ Go.Ar.bytesI q = Go.Ar.bytesI (p ++ q) := by
  apply ByteArray.ext
  unfold Go.Ar.bytesI
  simp
theorem top (l : List Int) (hl : l.length ≤ 60) : ∀ (d i : Nat), l.length - i = d → i ≤ l.length → ∀ (k : Nat) (acc : ByteArray) (bs : List Int) (e : Int), acc.size ≤ 4 * i →
    (e = 0 ∧ acc = Go.Ar.bytesI bs ∧ encRest bs (l.drop i) = encRest [] l ∨ e = 11 ∧ encRest [] l = none) → d + 1 ≤ k →
    inkhorntop_TopUtf.l0 k l acc e l (l.length : Int) (i : Int) = some true := by
  intro d
  induction d with
  | zero =>
    intro i hd hi k acc bs e ha he hk
    obtain ⟨k, rfl⟩ : ∃ m, k = m + 1 := ⟨k - 1, by omega⟩
    simp only [inkhorntop_TopUtf.l0]
    rw [if_neg (by omega)]
    have hi' : i = l.length := by omega
    have hE : utf8_Encode.f l = some (encAns (encRest [] l)) := by
      unfold utf8_Encode.f
      rw [if_pos (Nat.le_trans hl (by decide))]
    rw [hE]
    rcases he with ⟨rfl, rfl, h⟩ | ⟨rfl, h⟩
    · subst hi'
      rw [List.drop_length, encRest] at h
      rw [if_pos rfl, ← h]
      simp only [Option.bind_some, encAns, if_true]
      rfl
    · rw [if_neg (by decide), h]
      have e0 : (⟨#[]⟩ : ByteArray).toList = [] := List.eq_nil_of_length_eq_zero (by rw [tl]; rfl)
      simp only [Option.bind_some, encAns, e0, if_true]
      rfl
  | succ d ih =>
    intro i hd hi k acc bs e ha he hk
    obtain ⟨k, rfl⟩ : ∃ m, k = m + 1 := ⟨k - 1, by omega⟩
    simp only [inkhorntop_TopUtf.l0]
    have g1 : (i : Int) < (l.length : Int) := by omega
    have g2 : (0 : Int) ≤ (i : Int) := by omega
    have hil : i < l.length := by omega
    have hrd : rd l (i : Int) = l[i] := by
      unfold rd
      have : ((i : Int)).toNat = i := by omega
      rw [this, List.getD_eq_getElem?_getD, List.getElem?_eq_getElem hil]
      rfl
    have hdrop : l.drop i = l[i] :: l.drop (i + 1) := (List.getElem_cons_drop hil).symm
    have hw : wrap64 ((i : Int) + 1) = ((i + 1 : Nat) : Int) := by rw [w64e (by omega) (by omega)]; omega
    simp only [if_pos g1, if_pos g2, hw, hrd]
    clear hw hrd g1 g2
    rw [hdrop] at he
    clear hdrop
    generalize l[i] = x at he
    rw [scalar_eq]
    simp only [Option.bind_some]
    by_cases hs : 0 ≤ x ∧ x ≤ 1114111 ∧ (x < 55296 ∨ 57343 < x)
    · rw [if_pos (decide_eq_true hs)]
      obtain ⟨n, p, hp, hn, h1, h2, h3⟩ := sign_ok hs.1 hs.2.1 hs.2.2
      rw [h1]
      simp only [Option.bind_some]
      have hsz : acc.size + (Go.Ar.bytesI p).size ≤ 300 := by rw [bytesI_size]; omega
      rw [if_pos (Nat.le_trans hsz (by decide)), h2]
      simp only [Option.bind_some]
      rw [if_pos (by rw [bytesI_size, hp])]
      refine ih (i + 1) (by omega) (by omega) k _ (bs ++ p) e (by rw [ByteArray.size_append, bytesI_size]; omega) ?_ (by omega)
      rcases he with ⟨rfl, rfl, h⟩ | ⟨rfl, h⟩
      · refine .inl ⟨rfl, bytesI_append _ _, ?_⟩
        rw [← h, h3]
      · exact .inr ⟨rfl, h⟩
    · rw [if_neg (by rw [decide_eq_false hs]; decide)]
      obtain ⟨h1, h2⟩ := sign_bad hs
      rw [h1]
      simp only [Option.bind_some, if_true]
      refine ih (i + 1) (by omega) (by omega) k acc bs 11 (by omega) (.inr ⟨rfl, ?_⟩) (by omega)
      rcases he with ⟨rfl, rfl, h⟩ | ⟨rfl, h⟩
      · rw [← h, h2]
      · exact h
theorem j2_true (l : List Int) (hl : l.length ≤ 60) (k : Nat) (hk : 100 ≤ k) : inkhorntop_TopUtf.j2 k l false = some true := by
  obtain ⟨k, rfl⟩ : ∃ m, k = m + 1 := ⟨k - 1, by omega⟩
  simp only [inkhorntop_TopUtf.j2]
  rw [if_neg (by decide)]
  exact top l hl (l.length - 0) 0 rfl (by omega) k _ [] 0 (by decide) (.inl ⟨rfl, rfl, rfl⟩) (by omega)
theorem j1_true (l : List Int) (hl : l.length ≤ 60) (k : Nat) (hk : 400 ≤ k) (e : Int) (xs : List Int) (fs : List S52) (hx : xs.length ≤ 200) (hf : fs.length ≤ 200) : inkhorntop_TopUtf.j1 k l e e xs fs xs fs = some true := by
  obtain ⟨k, rfl⟩ : ∃ m, k = m + 1 := ⟨k - 1, by omega⟩
  simp only [inkhorntop_TopUtf.j1, if_true]
  rw [runes_refl xs hx k (by omega)]
  simp only [Option.bind_some, if_true]
  rw [faults_same fs hf k (by omega)]
  simp only [Option.bind_some]
  exact j2_true l hl k (by omega)
theorem j0_true (a0 a2 : Int) (s : ByteArray) (hs : s.size ≤ 200) (l : List Int) (hl : l.length ≤ 60) (k : Nat) (hk : 1000 ≤ k) : inkhorntop_TopUtf.j0 k a0 s a2 l false = some true := by
  obtain ⟨k, rfl⟩ : ∃ m, k = m + 1 := ⟨k - 1, by omega⟩
  obtain ⟨k', hk'⟩ : ∃ m, k = m + 1 := ⟨k - 1, by omega⟩
  simp only [inkhorntop_TopUtf.j0]
  rw [if_neg (by decide)]
  obtain ⟨r1, r3, v1, v3, v⟩ := val s hs (s.size - 0) 0 rfl (by omega) k [] (by simp) (by omega)
  have q3 : inkhorntop_quillDecode.f k 5 3 s 0 = some r3 := v3
  obtain ⟨r1', w1, w2, _, _, _⟩ := dec s hs 1 (s.size - 0) 0 rfl (by omega) k k' [] [] (by simp) (by simp) (by omega) (by omega)
  have hr1 : r1' = r1 := Option.some.inj (w1.symm.trans v1)
  subst hr1
  have q1 : utf8_Valid.f k s = some (r1'.2.2 == 0) := by
    unfold utf8_Valid.f utf8_Decode.f
    rw [if_neg (by decide)]
    subst hk'
    simp only [utf8_Decode.j0]
    rw [if_neg (by decide), join1 s hs]
    simp only [Option.bind_some]
    have := w2 (.inl rfl)
    have this : utf8_Decode.l0 k' 1 s [] [] 0 = some r1' := this
    rw [this]
    rfl
  rw [q3, q1]
  simp only [Option.bind_some]
  rw [v]
  rw [if_neg (by simp)]
  obtain ⟨t, ht, hsp⟩ := split_ok s hs a2
  rw [hsp]
  simp only [Option.bind_some]
  obtain ⟨r, d1, d2, _, d4, d5⟩ := dec s hs a0 (s.size - 0) 0 rfl (by omega) k k' [] [] (by simp) (by simp) (by omega) (by omega)
  have p1 : inkhorntop_quillDecode.f k 5 a0 s 0 = some r := d1
  rw [p1]
  unfold inkhorntop_quillIs.f
  by_cases hm : a0 = 1 ∨ a0 = 2 ∨ a0 = 3
  · have p2 : utf8_Decode.f k a0 [s.extract 0 t, (⟨#[]⟩ : ByteArray), s.extract t s.size] = some r := by
      unfold utf8_Decode.f
      rw [if_neg (by omega), decide_eq_false (by omega)]
      subst hk'
      simp only [utf8_Decode.j0]
      rw [if_neg (by decide), join3 s hs t ht]
      exact d2 hm
    rw [p2]
    simp only [Option.bind_some]
    rw [if_pos (by omega)]
    simp only [Option.bind_some]
    rw [if_pos (decide_eq_true (by omega))]
    exact j1_true l hl k (by omega) _ _ _ d5 d4
  · have p2 : utf8_Decode.f k a0 [s.extract 0 t, (⟨#[]⟩ : ByteArray), s.extract t s.size] = some ([], [], 16) := by
      unfold utf8_Decode.f
      have hj : utf8_Decode.j0 k a0 [s.extract 0 t, (⟨#[]⟩ : ByteArray), s.extract t s.size] true = some ([], [], 16) := by
        subst hk'
        simp only [utf8_Decode.j0, if_true]
      by_cases c : a0 < 1
      · rw [if_pos c]; exact hj
      · rw [if_neg c, decide_eq_true (by omega)]; exact hj
    rw [p2]
    simp only [Option.bind_some]
    have hj := j1_true l hl k (by omega) 16 [] [] (by simp) (by simp)
    by_cases c : a0 ≥ 1
    · rw [if_pos c]
      simp only [Option.bind_some]
      rw [if_neg (by rw [decide_eq_false (by omega)]; decide)]
      exact hj
    · rw [if_neg c]
      simp only [Option.bind_some]
      rw [if_neg (by decide)]
      exact hj
theorem TopUtf : inkhorntop_TopUtf.Pure := by
  intro a0 a1 a2 l3 _ h1 _ h2 h3 h4
  refine ⟨1000, ?_⟩
  have m1 : 0 ≤ mn (a1.size : Int) 200 ∧ mn (a1.size : Int) 200 ≤ (a1.size : Int) ∧ mn (a1.size : Int) 200 ≤ 200 := by unfold mn; split <;> omega
  have m2 : 0 ≤ mn (l3.length : Int) 60 ∧ mn (l3.length : Int) 60 ≤ (l3.length : Int) ∧ mn (l3.length : Int) 60 ≤ 60 := by unfold mn; split <;> omega
  unfold inkhorntop_TopUtf.f
  rw [if_pos m1.1, if_pos m1.2.1, if_pos m2.1, if_pos m2.2.1]
  have hs : (a1.extract 0 (mn (a1.size : Int) 200).toNat).size ≤ 200 := by simp; omega
  have hl : (l3.take (mn (l3.length : Int) 60).toNat).length ≤ 60 := by simp; omega
  generalize a1.extract 0 (mn (a1.size : Int) 200).toNat = s at hs
  generalize l3.take (mn (l3.length : Int) 60).toNat = l at hl
  have hs' : s.size ≤ 140737488351232 := Nat.le_trans hs (by decide)
  rw [nx_next hs' (by decide), nx_quill hs' (by decide)]
  simp only [Option.bind_some, if_true]
  obtain ⟨c, c1, c2⟩ := cuts s hs 1000 (by decide)
  rw [c1, c2]
  simp only [Option.bind_some]
  have : (c != c) = false := by simp
  rw [this]
  exact j0_true a0 a2 s hs l hl 1000 (by decide)
end Go.Proofs.YtcaaadaikfnbaaaGreatDoor.Pure
