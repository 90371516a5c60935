/- A text of this claim. -/
import Derived.Test.YtcaaadaikfnbaaaGreatDoorHTopUtfx2
import Derived.Test.YtcaaadaikfnbaaaGreatDoorHTopUtfx3
import Derived.Lib.Strings
set_option linter.all false
namespace Go.Proofs.YtcaaadaikfnbaaaGreatDoor.Pure
open Go.RowKit Go.Proofs.YtcaaadaikfnbaaaGreatDoor.HTopUtf Go.Proofs.YtcaaadaikfnbaaaGreatDoorW.PrintWords Go.Proofs.YtcaaadaikfnbaaaGreatDoorW.PrintLast
theorem wraps_i64 (n : Int) (h₀ : 0 ≤ n) (h₁ : n < 2 ^ 62) : IntKind.i64.wrap n = n := by rw [IntKind.wrap_i64]; omega
theorem or64 {x y : Int} (hx₀ : 0 ≤ x) (hx : x % 64 = 0) (hx₁ : x < 2147483648) (h₀ : 0 ≤ y) (h₁ : y < 64) : bits .or .i64 x y = x + y :=
  bits_join .i64 62 (by decide) wraps_i64 6 x y hx₀ hx (by omega) h₀ h₁ (by omega)
theorem and31 {x : Int} (h₀ : 0 ≤ x) (h₁ : x < 2147483648) : bits .and .i32 x 31 = x % 32 := bits_mask .i32 31 (by decide) wraps_i32 5 (by decide) x h₀ h₁
theorem and15 {x : Int} (h₀ : 0 ≤ x) (h₁ : x < 2147483648) : bits .and .i32 x 15 = x % 16 := bits_mask .i32 31 (by decide) wraps_i32 4 (by decide) x h₀ h₁
theorem and7 {x : Int} (h₀ : 0 ≤ x) (h₁ : x < 2147483648) : bits .and .i32 x 7 = x % 8 := bits_mask .i32 31 (by decide) wraps_i32 3 (by decide) x h₀ h₁
theorem w64e {x : Int} (h0 : -9223372036854775808 ≤ x) (h1 : x ≤ 9223372036854775807) : wrap64 x = x := by unfold wrap64; omega
theorem w32e {x : Int} (h0 : -2147483648 ≤ x) (h1 : x ≤ 2147483647) : wrap32 x = x := by unfold wrap32; omega
theorem whole (s : ByteArray) : s.extract 0 s.size = s := by
  apply ByteArray.ext; simp
theorem tl (s : ByteArray) : s.toList.length = s.size := by
  have h := Go.Lib.extract_toList s 0 s.size
  rw [whole] at h
  rw [h]
  simp
structure Ans (s : ByteArray) (r : Int × Int × Int) : Prop where
  n1 : 1 ≤ r.2.1
  nle : r.2.1 ≤ (s.size : Int)
  e : r.2.2 = 0 ∨ r.2.2 = 17 ∨ r.2.2 = 18
  more : r.2.2 = 18 → r.2.1 = (s.size : Int) ∧ r.2.1 ≤ 3
  tail : ∀ j : Int, 1 ≤ j → j < r.2.1 → 128 ≤ bt s j ∧ bt s j ≤ 191
theorem loops (s : ByteArray) (hs : s.size ≤ 140737488351232) (many : Int) (hm : many ≤ 4) : ∀ (d : Nat) (k : Nat) (n x lo hi : Int), many - n = d → 1 ≤ n → n ≤ (s.size : Int) → 0 ≤ x → x * 64 ^ d < 2147483648 → 128 ≤ lo → hi ≤ 191 → d < k →
    (∀ j : Int, 1 ≤ j → j < n → 128 ≤ bt s j ∧ bt s j ≤ 191) →
    ∃ r, utf8_Next.l0 k s n many x lo hi = some r ∧ inkhorntop_quillNext.l0 k s many lo hi x n = some r ∧ Ans s r
  | 0, k, n, x, lo, hi, hd, hn, hns, hx, hxb, hlo, hhi, hk, ht => by
    obtain ⟨k, rfl⟩ : ∃ m, k = m + 1 := ⟨k - 1, by omega⟩
    have e : n = many := by omega
    subst e
    refine ⟨(x, n, 0), ?_, ?_, ⟨hn, hns, .inl rfl, (fun h => by simp at h), ht⟩⟩
    · simp only [utf8_Next.l0]; rw [if_neg (by omega), w32e (by omega) (by simp at hxb; omega)]
    · simp only [inkhorntop_quillNext.l0]; rw [if_neg (by omega)]
  | d + 1, k, n, x, lo, hi, hd, hn, hns, hx, hxb, hlo, hhi, hk, ht => by
    obtain ⟨k, rfl⟩ : ∃ m, k = m + 1 := ⟨k - 1, by omega⟩
    have hlt : n < many := by omega
    have hp : (64 : Int) ^ (d + 1) = 64 ^ d * 64 := by rw [Int.pow_succ]
    have hpos : (1 : Int) ≤ 64 ^ d := Int.pow_pos (by decide)
    have hx64 : x * 64 < 2147483648 := by
      rw [hp] at hxb
      have h1 : x * 64 * 1 ≤ x * 64 * 64 ^ d := Int.mul_le_mul_of_nonneg_left hpos (by omega)
      have h2 : x * (64 ^ d * 64) = x * 64 * 64 ^ d := by rw [Int.mul_comm (64 ^ d) 64, Int.mul_assoc]
      omega
    by_cases hend : n = (s.size : Int)
    · refine ⟨(0, n, 18), ?_, ?_, ⟨hn, hns, .inr (.inr rfl), (fun _ => ⟨hend, by show n ≤ 3; omega⟩), ht⟩⟩
      · simp only [utf8_Next.l0]; rw [if_pos hlt, if_pos hend]
      · simp only [inkhorntop_quillNext.l0]; rw [if_pos hlt, if_pos hend]
    · have hn2 : n < (s.size : Int) := by omega
      by_cases hb1 : bt s n < lo
      · refine ⟨(0, n, 17), ?_, ?_, ⟨hn, hns, .inr (.inl rfl), (fun h => by simp at h), ht⟩⟩
        · simp only [utf8_Next.l0]; rw [if_pos hlt, if_neg hend, if_pos (by omega), if_pos hn2, if_pos hb1]
        · simp only [inkhorntop_quillNext.l0]; rw [if_pos hlt, if_neg hend, if_pos (by omega), if_pos hn2, if_pos hb1]
      · by_cases hb2 : bt s n > hi
        · refine ⟨(0, n, 17), ?_, ?_, ⟨hn, hns, .inr (.inl rfl), (fun h => by simp at h), ht⟩⟩
          · simp only [utf8_Next.l0]; rw [if_pos hlt, if_neg hend, if_pos (by omega), if_pos hn2, if_neg hb1, if_pos hb2]
          · simp only [inkhorntop_quillNext.l0]; rw [if_pos hlt, if_neg hend, if_pos (by omega), if_pos hn2, if_neg hb1, if_pos hb2]
        · have hbr := bt_range s n
          have hand : bits .and .u8 (bt s n) 63 = bt s n % 64 := u8_and63 _ hbr.1 (by omega)
          have e1 : Go.bits .or .i64 (wrap64 (x * 64)) (wrap64 (Go.bits .and .u8 (bt s n) 63)) = x * 64 + bt s n % 64 := by
            rw [hand, w64e (by omega) (by omega), w64e (by omega) (by omega)]
            exact or64 (by omega) (by omega) (by omega) (by omega) (by omega)
          have e2 : Go.bits .or .i32 (wrap32 (x * 64)) (wrap32 (Go.bits .and .u8 (bt s n) 63)) = x * 64 + bt s n % 64 := by
            rw [hand, w32e (by omega) (by omega), w32e (by omega) (by omega)]
            exact i32_or6 _ _ (by omega) (by omega) (by omega) (by omega) (by omega)
          obtain ⟨r, h1, h2, h3⟩ := loops s hs many hm d k (n + 1) (x * 64 + bt s n % 64) 128 191 (by omega) (by omega) (by omega) (by omega) (by
            rw [hp] at hxb
            rcases d with _ | _ | _ | d
            · simp at hxb ⊢; omega
            · simp at hxb ⊢; omega
            · simp at hxb ⊢; omega
            · omega) (by omega) (by omega) (by omega) (fun j hj1 hj2 => by
              rcases Int.lt_or_le j n with hj | hj
              · exact ht j hj1 hj
              · have : j = n := by omega
                subst this; omega)
          refine ⟨r, ?_, ?_, h3⟩
          · simp only [utf8_Next.l0]
            rw [if_pos hlt, if_neg hend, if_pos (by omega), if_pos hn2, if_neg hb1, if_neg hb2, e1, w64e (by omega) (by omega)]; exact h1
          · simp only [inkhorntop_quillNext.l0]
            rw [if_pos hlt, if_neg hend, if_pos (by omega), if_pos hn2, if_neg hb1, if_neg hb2, e2, w64e (by omega) (by omega)]; exact h2
def Ans2 (s : ByteArray) (r : Int × Int × Int) : Prop := Ans s r ∧ (r.2.2 = 18 → 194 ≤ bt s 0 ∧ bt s 0 ≤ 244)
theorem up {α : Type} {f : Nat → Option α} (hm : ∀ k, LeO (f k) (f (k + 1))) {r : α} {k0 : Nat} (h : f k0 = some r) : ∀ k, k0 ≤ k → f k = some r := by
  intro k hk
  induction hk with
  | refl => exact h
  | step _ ih => exact hm _ _ ih
theorem next10 (s : ByteArray) (hs : s.size ≤ 140737488351232) (h0 : 0 < s.size) :
    ∃ r, utf8_Next.f 12 s = some r ∧ inkhorntop_quillNext.f 12 s = some r ∧ Ans2 s r := by
  have hne : ¬ (s.toList = ([] : List UInt8)) := by
    intro h
    have : s.toList.length = 0 := by rw [h]; rfl
    rw [tl] at this
    omega
  have hp : 0 < (s.size : Int) := by omega
  have hb := bt_range s 0
  generalize hbb : bt s 0 = b at hb
  have bad : Ans2 s (0, 1, 17) := ⟨⟨by decide, by show (1 : Int) ≤ _; omega, .inr (.inl rfl), (fun h => absurd h (by decide)), fun j h1 h2 => by have : j < 1 := h2; omega⟩, fun h => absurd h (by decide)⟩
  unfold utf8_Next.f inkhorntop_quillNext.f
  rw [if_neg hne, if_neg hne, if_pos hp, if_pos hp, hbb]
  by_cases c1 : b < 128
  · refine ⟨(b, 1, 0), ?_, ?_, ⟨⟨by simp, by show (1 : Int) ≤ _; omega, .inl rfl, (fun h => by simp at h), fun j h1 h2 => by have : j < 1 := h2; omega⟩, fun h => by simp at h⟩⟩
    · have e : utf8_lead.f b = some (1, b) := by unfold utf8_lead.f; rw [if_neg (by omega), if_pos c1]
      rw [e]
      simp only [Option.bind_some]
      rw [if_neg (by decide), if_neg (by decide)]
      have e2 : utf8_second.f b = some (128, 191) := by unfold utf8_second.f; rw [if_neg (by omega), if_neg (by omega), if_neg (by omega), if_neg (by omega)]
      simp only [utf8_Next.j0]
      rw [if_neg (by simp; omega), if_pos hp, hbb, e2]
      simp only [Option.bind_some, utf8_Next.l0]
      rw [if_neg (by decide), w32e (by omega) (by omega)]
    · rw [if_pos c1, w32e (by omega) (by omega)]
  by_cases c2 : b < 194
  · refine ⟨(0, 1, 17), ?_, ?_, bad⟩
    · by_cases c3 : b < 192
      · have e : utf8_lead.f b = some (0, 0) := by unfold utf8_lead.f; rw [if_neg (by omega), if_neg c1, if_pos c3]
        rw [e]
        rfl
      · have e : utf8_lead.f b = some (2, b - 192) := by unfold utf8_lead.f; rw [if_neg (by omega), if_neg c1, if_neg c3, if_pos (by omega)]
        rw [e]
        simp only [Option.bind_some]
        simp only [if_true]
        rw [if_neg (by decide), if_pos c2]
        rfl
    · rw [if_neg c1, if_neg (by omega)]
      simp only [inkhorntop_quillNext.j0, inkhorntop_quillNext.j1]
      rw [if_neg (by decide), if_neg (by omega), if_neg (by decide), if_neg (by omega)]
  by_cases c4 : 244 < b
  · refine ⟨(0, 1, 17), ?_, ?_, bad⟩
    · by_cases c3 : b < 248
      · have e : utf8_lead.f b = some (4, b - 240) := by unfold utf8_lead.f; rw [if_neg (by omega), if_neg c1, if_neg (by omega), if_neg (by omega), if_neg (by omega), if_pos c3]
        rw [e]
        simp only [Option.bind_some]
        rw [if_neg (by decide), if_neg (by decide)]
        simp only [utf8_Next.j0]
        rw [if_pos (by simp; omega)]
      · have e : utf8_lead.f b = some (0, 0) := by unfold utf8_lead.f; rw [if_neg (by omega), if_neg c1, if_neg (by omega), if_neg (by omega), if_neg (by omega), if_neg c3, if_pos (by omega)]
        rw [e]
        rfl
    · rw [if_neg c1, if_pos (by omega)]
      simp only [inkhorntop_quillNext.j0, inkhorntop_quillNext.j1]
      rw [if_neg (by simp; omega), if_pos (by omega), if_neg (by simp; omega), if_pos (by omega), if_neg (by omega)]
  have gen : ∀ (many x lo hi : Int) (d : Nat), utf8_lead.f b = some (many, x) → utf8_second.f b = some (lo, hi) → many - 1 = d → many ≤ 4 → 2 ≤ many → 0 ≤ x → x * 64 ^ d < 2147483648 → 128 ≤ lo → hi ≤ 191 → d ≤ 3 →
      (∀ r, inkhorntop_quillNext.l0 8 s many lo hi x 1 = some r → (if b ≥ 194 then inkhorntop_quillNext.j0 12 s b 128 191 (wrap32 b) (decide (b ≤ 223)) else inkhorntop_quillNext.j0 12 s b 128 191 (wrap32 b) false) = some r) →
      ∃ r, ((utf8_lead.f b).bind fun bt101 => (if bt101.1 = 0 then (utf8_Next.j0 12 s bt101.1 bt101.2 true) else (if bt101.1 = 2 then (if b < 194 then (utf8_Next.j0 12 s bt101.1 bt101.2 true) else (utf8_Next.j0 12 s bt101.1 bt101.2 (decide (b > 244)))) else (utf8_Next.j0 12 s bt101.1 bt101.2 (decide (b > 244)))))) = some r ∧ (if b < 128 then (some (wrap32 b, 1, 0)) else (if b ≥ 194 then inkhorntop_quillNext.j0 12 s b 128 191 (wrap32 b) (decide (b ≤ 223)) else inkhorntop_quillNext.j0 12 s b 128 191 (wrap32 b) false)) = some r ∧ Ans2 s r := by
    intro many x lo hi d e1 e2 hd hm4 hm2 hx hxb hlo hhi hd3 hq
    obtain ⟨r, h1, h2, h3⟩ := loops s hs many hm4 d 8 1 x lo hi hd (by omega) (by omega) hx hxb hlo hhi (by omega) (fun j a b => by omega)
    obtain ⟨r', h1', h2', h3'⟩ := loops s hs many hm4 d 11 1 x lo hi hd (by omega) (by omega) hx hxb hlo hhi (by omega) (fun j a b => by omega)
    have hrr : r = r' := by
      have := up (f := fun k => inkhorntop_quillNext.l0 k s many lo hi x 1) (fun k => (inkhorntop_quillNext.mono_l k).2.2.1 _ _ _ _ _ _) h2 11 (by decide)
      exact Option.some.inj (this.symm.trans h2')
    subst hrr
    refine ⟨r, ?_, ?_, ⟨h3, fun _ => by omega⟩⟩
    · rw [e1]
      simp only [Option.bind_some]
      have hdec : decide (b > 244) = false := decide_eq_false (by omega)
      rw [if_neg (by omega)]
      have hj : utf8_Next.j0 12 s many x (decide (b > 244)) = some r := by
        rw [hdec]
        simp only [utf8_Next.j0]
        rw [if_neg (by decide), if_pos hp, hbb, e2]
        exact h1'
      repeat' split
      all_goals first | exact hj | omega
    · rw [if_neg c1]
      exact hq r h2
  by_cases c5 : b < 224
  · refine gen 2 (b - 192) 128 191 1 ?_ ?_ (by decide) (by decide) (by decide) (by omega) (by simp; omega) (by decide) (by decide) (by decide) ?_
    · unfold utf8_lead.f; rw [if_neg (by omega), if_neg c1, if_neg (by omega), if_pos c5]
    · unfold utf8_second.f; rw [if_neg (by omega), if_neg (by omega), if_neg (by omega), if_neg (by omega)]
    · intro r h
      rw [if_pos (by omega)]
      simp only [inkhorntop_quillNext.j0, inkhorntop_quillNext.j2, inkhorntop_quillNext.j3]
      rw [if_pos (by simp; omega), if_neg (by omega), if_neg (by omega), if_neg (by omega), if_neg (by omega), w32e (by omega) (by omega), and31 (by omega) (by omega)]
      have : b % 32 = b - 192 := by omega
      rw [this]
      exact up (f := fun k => inkhorntop_quillNext.l0 k s 2 128 191 (b - 192) 1) (fun k => (inkhorntop_quillNext.mono_l k).2.2.1 _ _ _ _ _ _) h _ (by decide)
  by_cases c6 : b < 240
  · have e1 : utf8_lead.f b = some (3, b - 224) := by unfold utf8_lead.f; rw [if_neg (by omega), if_neg c1, if_neg (by omega), if_neg c5, if_pos c6]
    have hq : ∀ lo hi : Int, utf8_second.f b = some (lo, hi) → ∀ r, inkhorntop_quillNext.l0 8 s 3 lo hi (b - 224) 1 = some r → (if b ≥ 194 then inkhorntop_quillNext.j0 12 s b 128 191 (wrap32 b) (decide (b ≤ 223)) else inkhorntop_quillNext.j0 12 s b 128 191 (wrap32 b) false) = some r := by
      intro lo hi h2 r h
      rw [if_pos (by omega)]
      simp only [inkhorntop_quillNext.j0, inkhorntop_quillNext.j1, inkhorntop_quillNext.j2, inkhorntop_quillNext.j3]
      rw [if_neg (by simp; omega), if_pos (by omega), if_pos (by simp; omega), w32e (by omega) (by omega), and15 (by omega) (by omega)]
      have : b % 16 = b - 224 := by omega
      rw [this]
      have hu := fun lo hi => up (f := fun k => inkhorntop_quillNext.l0 k s 3 lo hi (b - 224) 1) (r := r) (k0 := 8) (fun k => (inkhorntop_quillNext.mono_l k).2.2.1 _ _ _ _ _ _)
      unfold utf8_second.f at h2
      by_cases d1 : b = 224
      · rw [if_pos d1] at h2 ⊢; cases h2; exact hu _ _ h _ (by decide)
      rw [if_neg d1] at h2 ⊢
      by_cases d2 : b = 237
      · rw [if_pos d2] at h2 ⊢; cases h2; exact hu _ _ h _ (by decide)
      rw [if_neg d2, if_neg (by omega), if_neg (by omega)] at h2 ⊢
      cases h2; exact hu _ _ h _ (by decide)
    have hsec : ∃ lo hi : Int, utf8_second.f b = some (lo, hi) ∧ 128 ≤ lo ∧ hi ≤ 191 := by
      unfold utf8_second.f
      repeat' split
      all_goals exact ⟨_, _, rfl, by decide, by decide⟩
    obtain ⟨lo, hi, h2, hlo, hhi⟩ := hsec
    exact gen 3 (b - 224) lo hi 2 e1 h2 (by decide) (by decide) (by decide) (by omega) (by simp; omega) hlo hhi (by decide) (hq lo hi h2)
  · have e1 : utf8_lead.f b = some (4, b - 240) := by unfold utf8_lead.f; rw [if_neg (by omega), if_neg c1, if_neg (by omega), if_neg c5, if_neg c6, if_pos (by omega)]
    have hq : ∀ lo hi : Int, utf8_second.f b = some (lo, hi) → ∀ r, inkhorntop_quillNext.l0 8 s 4 lo hi (b - 240) 1 = some r → (if b ≥ 194 then inkhorntop_quillNext.j0 12 s b 128 191 (wrap32 b) (decide (b ≤ 223)) else inkhorntop_quillNext.j0 12 s b 128 191 (wrap32 b) false) = some r := by
      intro lo hi h2 r h
      rw [if_pos (by omega)]
      simp only [inkhorntop_quillNext.j0, inkhorntop_quillNext.j1, inkhorntop_quillNext.j2, inkhorntop_quillNext.j3]
      rw [if_neg (by simp; omega), if_pos (by omega), if_neg (by simp; omega), if_pos (by omega), if_pos (by omega), w32e (by omega) (by omega), and7 (by omega) (by omega)]
      have : b % 8 = b - 240 := by omega
      rw [this]
      have hu := fun lo hi => up (f := fun k => inkhorntop_quillNext.l0 k s 4 lo hi (b - 240) 1) (r := r) (k0 := 8) (fun k => (inkhorntop_quillNext.mono_l k).2.2.1 _ _ _ _ _ _)
      unfold utf8_second.f at h2
      rw [if_neg (by omega), if_neg (by omega)] at h2 ⊢
      by_cases d1 : b = 240
      · rw [if_pos d1] at h2 ⊢; cases h2; exact hu _ _ h _ (by decide)
      rw [if_neg d1] at h2 ⊢
      by_cases d2 : b = 244
      · rw [if_pos d2] at h2 ⊢; cases h2; exact hu _ _ h _ (by decide)
      rw [if_neg d2] at h2 ⊢
      cases h2; exact hu _ _ h _ (by decide)
    have hsec : ∃ lo hi : Int, utf8_second.f b = some (lo, hi) ∧ 128 ≤ lo ∧ hi ≤ 191 := by
      unfold utf8_second.f
      repeat' split
      all_goals exact ⟨_, _, rfl, by decide, by decide⟩
    obtain ⟨lo, hi, h2, hlo, hhi⟩ := hsec
    exact gen 4 (b - 240) lo hi 3 e1 h2 (by decide) (by decide) (by decide) (by omega) (by simp; omega) hlo hhi (by decide) (hq lo hi h2)
def nx (s : ByteArray) : Int × Int × Int := (utf8_Next.f 12 s).getD (0, 0, 18)
theorem nx_ans {s : ByteArray} (hs : s.size ≤ 140737488351232) (h0 : 0 < s.size) : Ans2 s (nx s) := by
  obtain ⟨r, h1, h2, h3⟩ := next10 s hs h0
  unfold nx; rw [h1]; exact h3
theorem nx_next {s : ByteArray} (hs : s.size ≤ 140737488351232) {k : Nat} (hk : 12 ≤ k) : utf8_Next.f k s = some (nx s) := by
  by_cases h0 : 0 < s.size
  · obtain ⟨r, h1, h2, h3⟩ := next10 s hs h0
    have := up (f := fun k => utf8_Next.f k s) (fun k => utf8_Next.mono s k) h1 k hk
    unfold nx; rw [h1]; exact this
  · have he : s.toList = ([] : List UInt8) := List.eq_nil_of_length_eq_zero (by rw [tl]; omega)
    unfold nx utf8_Next.f; rw [if_pos he, if_pos he]; rfl
theorem nx_quill {s : ByteArray} (hs : s.size ≤ 140737488351232) {k : Nat} (hk : 12 ≤ k) : inkhorntop_quillNext.f k s = some (nx s) := by
  by_cases h0 : 0 < s.size
  · obtain ⟨r, h1, h2, h3⟩ := next10 s hs h0
    have := up (f := fun k => inkhorntop_quillNext.f k s) (fun k => inkhorntop_quillNext.mono s k) h2 k hk
    unfold nx; rw [h1]; exact this
  · have he : s.toList = ([] : List UInt8) := List.eq_nil_of_length_eq_zero (by rw [tl]; omega)
    unfold nx inkhorntop_quillNext.f utf8_Next.f; rw [if_pos he, if_pos he]; rfl
end Go.Proofs.YtcaaadaikfnbaaaGreatDoor.Pure
