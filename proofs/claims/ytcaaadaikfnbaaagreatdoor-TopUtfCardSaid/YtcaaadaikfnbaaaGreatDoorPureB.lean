/- A text of this claim. -/
import Derived.Test.YtcaaadaikfnbaaaGreatDoorPureA
import Derived.Test.YtcaaadaikfnbaaaGreatDoorHTopUtfx6
set_option linter.all false
namespace Go.Proofs.YtcaaadaikfnbaaaGreatDoor.Pure
open Go.RowKit Go.Proofs.YtcaaadaikfnbaaaGreatDoor.HTopUtf Go.Proofs.YtcaaadaikfnbaaaGreatDoorW.PrintWords Go.Proofs.YtcaaadaikfnbaaaGreatDoorW.PrintLast
theorem sfx_size (s : ByteArray) (p : Nat) : (s.extract p s.size).size = s.size - p := by simp
theorem bt_sfx (s : ByteArray) (p : Nat) (j : Int) (hj : 0 ≤ j) (h : (p : Int) + j < (s.size : Int)) : bt (s.extract p s.size) j = bt s ((p : Int) + j) := by
  have h1 : j.toNat < (s.extract p s.size).size := by rw [sfx_size]; omega
  have h2 : ((p : Int) + j).toNat < s.size := by omega
  unfold bt
  rw [dif_pos h1, dif_pos h2]
  have e : ((p : Int) + j).toNat = p + j.toNat := by omega
  simp only [ByteArray.getElem_extract, e]
theorem wide5 {s : ByteArray} (hs : s.size ≤ 140737488351232) {k : Nat} (hk : 12 ≤ k) : inkhorntop_quillWide.f k 5 s = some (nx s) := by
  unfold inkhorntop_quillWide.f
  rw [if_pos rfl, nx_quill hs hk]
  rfl
theorem step {s : ByteArray} (hs : s.size ≤ 200) {p : Nat} (hp : p < s.size) :
    ∃ q : Nat, p < q ∧ q ≤ s.size ∧ wrap64 ((p : Int) + (nx (s.extract p s.size)).2.1) = (q : Int) ∧ (nx (s.extract p s.size)).2.1 = (q : Int) - (p : Int) := by
  have ha := (nx_ans (s := s.extract p s.size) (by rw [sfx_size]; omega) (by rw [sfx_size]; omega)).1
  have h1 := ha.n1
  have h2 := ha.nle
  rw [sfx_size] at h2
  refine ⟨((p : Int) + (nx (s.extract p s.size)).2.1).toNat, by omega, by omega, ?_, by omega⟩
  rw [w64e (by omega) (by omega)]
  omega
theorem small1 {n : Nat} (h : n ≤ 200) : n < 35184372088832 := Nat.lt_of_le_of_lt h (by decide)
theorem small2 {n : Nat} (h : n ≤ 200) : n < 8796093022208 := Nat.lt_of_le_of_lt h (by decide)
theorem dec (s : ByteArray) (hs : s.size ≤ 200) (m : Int) : ∀ (d p : Nat), s.size - p = d → p ≤ s.size → ∀ (k kk : Nat) (xs : List Int) (fs : List S52), xs.length ≤ p → fs.length ≤ p → d + 13 ≤ k → 3 * d + 13 ≤ kk →
    ∃ r, inkhorntop_quillDecode.l0 k 5 m s 0 xs fs (p : Int) = some r ∧ (m = 1 ∨ m = 2 ∨ m = 3 → utf8_Decode.l0 kk m s xs fs (p : Int) = some r) ∧ fs.length ≤ r.2.1.length ∧ r.2.1.length ≤ 200 ∧ r.1.length ≤ 200 := by
  intro d
  induction d using Nat.strongRecOn with
  | _ d ih =>
  intro p hd hp k kk xs fs hx hf hk hkk
  obtain ⟨k, rfl⟩ : ∃ m, k = m + 1 := ⟨k - 1, by omega⟩
  obtain ⟨kk, rfl⟩ : ∃ m, kk = m + 1 := ⟨kk - 1, by omega⟩
  simp only [inkhorntop_quillDecode.l0, utf8_Decode.l0]
  by_cases he : p = s.size
  · refine ⟨(xs, fs, 0), ?_, ?_, Nat.le_refl _, by show fs.length ≤ 200; omega, by show xs.length ≤ 200; omega⟩
    · rw [if_neg (by omega)]
    · intro _; rw [if_neg (by omega)]
  have hlt : p < s.size := by omega
  obtain ⟨q, hq1, hq2, hq3, hq4⟩ := step hs hlt
  have hsz : (s.extract p s.size).size ≤ 140737488351232 := by rw [sfx_size]; omega
  have hat : ((p : Int)).toNat = p := by omega
  obtain ⟨kk, rfl⟩ : ∃ m, kk = m + 2 := ⟨kk - 2, by omega⟩
  have g1 : (p : Int) < (s.size : Int) := by omega
  have g2 : (0 : Int) ≤ (p : Int) := by omega
  have g3 : (p : Int) ≤ (s.size : Int) := by omega
  simp only [if_pos g1, if_pos g2, if_pos g3, hat]
  have n1 := wide5 hsz (k := k) (by omega)
  have n2 := nx_next hsz (k := kk + 2) (by omega)
  rw [n1, n2]
  clear g1 g2 g3 n1 n2
  simp only [Option.bind_some]
  have hz : wrap64 (0 + (p : Int)) = (p : Int) := by rw [w64e (by omega) (by omega)]; omega
  rw [hz, hq3]
  clear hz
  have l1 : xs.length < 35184372088832 := small1 (by omega)
  have l2 : fs.length < 8796093022208 := small2 (by omega)
  by_cases h0 : (nx (s.extract p s.size)).2.2 = 0
  · rw [if_pos h0, if_pos h0, if_pos l1]
    obtain ⟨r, g1, g2, g3, g4, g5⟩ := ih (s.size - q) (by omega) q rfl hq2 k kk (xs ++ [(nx (s.extract p s.size)).1]) fs (by simp; omega) (by omega) (by omega) (by omega)
    refine ⟨r, g1, ?_, g3, g4, g5⟩
    intro hm
    simp only [utf8_Decode.j2, utf8_Decode.j3]
    rw [if_pos h0, if_neg (by decide), if_pos h0, if_pos l1, hq3]
    exact g2 hm
  · simp only [if_neg h0, if_pos l2]
    try simp only [Option.bind_some]
    have hfl : ∀ n : Int, (fs ++ [(⟨(p : Int), n⟩ : S52)]).length = fs.length + 1 := fun n => by simp
    by_cases m1 : m = 1
    · rw [if_pos m1]
      refine ⟨_, rfl, ?_, ?_, ?_, ?_⟩
      · intro _
        simp only [utf8_Decode.j2, utf8_Decode.j3]
        rw [if_neg h0, if_pos (by rw [m1]; rfl)]
      · show fs.length ≤ (fs ++ [_]).length; rw [hfl]; omega
      · show (fs ++ [_]).length ≤ 200; rw [hfl]; omega
      · show xs.length ≤ 200; omega
    rw [if_neg m1]
    by_cases m2 : m = 2
    · rw [if_pos m2, if_pos l1]
      obtain ⟨r, g1, g2, g3, g4, g5⟩ := ih (s.size - q) (by omega) q rfl hq2 k kk (xs ++ [65533]) (fs ++ [(⟨(p : Int), (nx (s.extract p s.size)).2.1⟩ : S52)]) (by simp; omega) (by rw [hfl]; omega) (by omega) (by omega)
      refine ⟨r, g1, ?_, by rw [hfl] at g3; omega, g4, g5⟩
      intro hm
      simp only [utf8_Decode.j2, utf8_Decode.j3]
      rw [if_neg h0, if_neg (by rw [m2]; decide), if_neg h0, if_pos m2, if_pos l1, hq3]
      exact g2 hm
    · rw [if_neg m2]
      obtain ⟨r, g1, g2, g3, g4, g5⟩ := ih (s.size - q) (by omega) q rfl hq2 k kk xs (fs ++ [(⟨(p : Int), (nx (s.extract p s.size)).2.1⟩ : S52)]) (by omega) (by rw [hfl]; omega) (by omega) (by omega)
      refine ⟨r, g1, ?_, by rw [hfl] at g3; omega, g4, g5⟩
      intro hm
      simp only [utf8_Decode.j2, utf8_Decode.j3]
      rw [if_neg h0, if_neg (by rw [beq_eq_false_iff_ne.mpr m1]; decide), if_neg h0, if_neg m2, hq3]
      exact g2 hm
theorem val (s : ByteArray) (hs : s.size ≤ 200) : ∀ (d p : Nat), s.size - p = d → p ≤ s.size → ∀ (k : Nat) (xs : List Int), xs.length ≤ p → d + 13 ≤ k →
    ∃ r1 r3, inkhorntop_quillDecode.l0 k 5 1 s 0 xs [] (p : Int) = some r1 ∧ inkhorntop_quillDecode.l0 k 5 3 s 0 xs [] (p : Int) = some r3 ∧ (r1.2.2 == 0) = ((r3.2.1.length : Int) == 0) := by
  intro d
  induction d using Nat.strongRecOn with
  | _ d ih =>
  intro p hd hp k xs hx hk
  obtain ⟨k, rfl⟩ : ∃ m, k = m + 1 := ⟨k - 1, by omega⟩
  simp only [inkhorntop_quillDecode.l0]
  by_cases he : p = s.size
  · refine ⟨(xs, [], 0), (xs, [], 0), ?_, ?_, rfl⟩ <;> rw [if_neg (by omega)]
  have hlt : p < s.size := by omega
  obtain ⟨q, hq1, hq2, hq3, hq4⟩ := step hs hlt
  have hsz : (s.extract p s.size).size ≤ 140737488351232 := by rw [sfx_size]; omega
  have hat : ((p : Int)).toNat = p := by omega
  have g1 : (p : Int) < (s.size : Int) := by omega
  have g2 : (0 : Int) ≤ (p : Int) := by omega
  have g3 : (p : Int) ≤ (s.size : Int) := by omega
  simp only [if_pos g1, if_pos g2, if_pos g3, hat]
  have n1 := wide5 hsz (k := k) (by omega)
  rw [n1]
  clear g1 g2 g3 n1
  simp only [Option.bind_some]
  have hz : wrap64 (0 + (p : Int)) = (p : Int) := by rw [w64e (by omega) (by omega)]; omega
  rw [hz, hq3]
  clear hz
  have l1 : xs.length < 35184372088832 := small1 (by omega)
  have l2 : ([] : List S52).length < 8796093022208 := small2 (by decide)
  by_cases h0 : (nx (s.extract p s.size)).2.2 = 0
  · simp only [if_pos h0, if_pos l1]
    exact ih (s.size - q) (by omega) q rfl hq2 k (xs ++ [(nx (s.extract p s.size)).1]) (by simp; omega) (by omega)
  · simp only [if_neg h0, if_pos l2, Option.bind_some]
    simp only [if_true]
    rw [if_neg (by decide), if_neg (by decide)]
    obtain ⟨r, g1, g2, g3, g4, g5⟩ := dec s hs 3 (s.size - q) q rfl hq2 k (3 * (s.size - q) + 13) xs ([] ++ [(⟨(p : Int), (nx (s.extract p s.size)).2.1⟩ : S52)]) (by omega) (by simp; omega) (by omega) (by omega)
    refine ⟨_, r, rfl, g1, ?_⟩
    have : 1 ≤ r.2.1.length := by simpa using g3
    rw [beq_eq_false_iff_ne.mpr (show ((r.2.1.length : Nat) : Int) ≠ 0 by omega)]
    rfl
theorem lead_any {b : Int} (h0 : 0 ≤ b) (h1 : b ≤ 255) : ∃ m x, utf8_lead.f b = some (m, x) ∧ (128 ≤ b → b ≤ 191 → m = 0) ∧ (192 ≤ b → b < 248 → 0 < m) ∧ (0 < m → b < 128 ∨ 191 < b) := by
  unfold utf8_lead.f
  rw [if_neg (by omega)]
  split
  · exact ⟨_, _, rfl, by omega, by omega, by omega⟩
  split
  · exact ⟨_, _, rfl, by omega, by omega, by omega⟩
  split
  · exact ⟨_, _, rfl, by omega, by omega, by omega⟩
  split
  · exact ⟨_, _, rfl, by omega, by omega, by omega⟩
  split
  · exact ⟨_, _, rfl, by omega, by omega, by omega⟩
  split
  · exact ⟨_, _, rfl, by omega, by omega, by omega⟩
  · omega
def Full (s : ByteArray) (p : Nat) : Prop := ∀ q : Nat, p ≤ q → q < s.size → bt s q < 128 ∨ 191 < bt s q → (nx (s.extract q s.size)).2.2 ≠ 18
theorem hcut (s : ByteArray) (hs : s.size ≤ 200) : ∀ (d p : Nat), s.size - p = d → p ≤ s.size → ∀ k : Nat, d + 13 ≤ k →
    ∃ c : Nat, inkhorntop_quillCut.l0 k 5 s (p : Int) = some (c : Int) ∧ ((c = s.size ∧ Full s p) ∨ (c < s.size ∧ (nx (s.extract c s.size)).2.2 = 18)) := by
  intro d
  induction d using Nat.strongRecOn with
  | _ d ih =>
  intro p hd hp k hk
  obtain ⟨k, rfl⟩ : ∃ m, k = m + 1 := ⟨k - 1, by omega⟩
  simp only [inkhorntop_quillCut.l0]
  by_cases he : p = s.size
  · refine ⟨p, ?_, .inl ⟨he, fun q h1 h2 => by omega⟩⟩
    rw [if_neg (by omega)]
  have hlt : p < s.size := by omega
  obtain ⟨q, hq1, hq2, hq3, hq4⟩ := step hs hlt
  have hsz : (s.extract p s.size).size ≤ 140737488351232 := by rw [sfx_size]; omega
  have hat : ((p : Int)).toNat = p := by omega
  rw [if_pos (by omega), if_pos (by omega), if_pos (by omega), hat, wide5 hsz (by omega)]
  simp only [Option.bind_some]
  by_cases h18 : (nx (s.extract p s.size)).2.2 = 18
  · rw [if_pos h18]
    exact ⟨p, rfl, .inr ⟨hlt, h18⟩⟩
  · rw [if_neg h18, hq3]
    obtain ⟨c, g1, g2⟩ := ih (s.size - q) (by omega) q rfl hq2 k (by omega)
    refine ⟨c, g1, ?_⟩
    rcases g2 with ⟨g2, g3⟩ | g2
    · refine .inl ⟨g2, ?_⟩
      intro j hj1 hj2 hb
      by_cases hjp : j = p
      · subst hjp; exact h18
      by_cases hjq : q ≤ j
      · exact g3 j hjq hj2 hb
      · have ha := (nx_ans (s := s.extract p s.size) hsz (by rw [sfx_size]; omega)).1
        have ht := ha.tail ((j : Int) - (p : Int)) (by omega) (by omega)
        rw [bt_sfx s p _ (by omega) (by omega)] at ht
        have e : (p : Int) + ((j : Int) - (p : Int)) = (j : Int) := by omega
        rw [e] at ht
        omega
    · exact .inr g2
theorem cut_full (s : ByteArray) (hs : s.size ≤ 200) (hf : Full s 0) : ∀ (d : Nat) (j : Int), 4 - j = d → 1 ≤ j → ∀ k, 2 * d + 15 ≤ k → utf8_Cut.l0 k s j = some (s.size : Int) := by
  intro d
  induction d with
  | zero =>
    intro j hj h1 k hk
    obtain ⟨k, rfl⟩ : ∃ m, k = m + 2 := ⟨k - 2, by omega⟩
    simp only [utf8_Cut.l0, utf8_Cut.j1]
    rw [if_neg (by omega), if_neg (by decide)]
  | succ d ih =>
    intro j hj h1 k hk
    obtain ⟨k, rfl⟩ : ∃ m, k = m + 2 := ⟨k - 2, by omega⟩
    simp only [utf8_Cut.l0, utf8_Cut.j1]
    rw [if_pos (by omega)]
    by_cases hjs : j ≤ (s.size : Int)
    · have hw : wrap64 ((s.size : Int) - j) = (((s.size : Int) - j).toNat : Int) := by rw [w64e (by omega) (by omega)]; omega
      generalize hpe : ((s.size : Int) - j).toNat = p at hw
      rw [if_pos (by simpa using hjs), hw, if_pos (by omega), if_pos (by omega)]
      have hb := bt_range s p
      obtain ⟨m, x, e1, e2, e3, e4⟩ := lead_any hb.1 hb.2
      rw [e1]
      simp only [Option.bind_some]
      by_cases hm : 0 < m
      · have hat : ((p : Int)).toNat = p := by omega
        have hsz : (s.extract p s.size).size ≤ 140737488351232 := by rw [sfx_size]; omega
        rw [if_pos hm, if_pos (by omega), hat, nx_next hsz (by omega)]
        simp only [Option.bind_some]
        rw [if_neg (hf p (by omega) (by omega) (e4 hm))]
      · rw [if_neg hm, w64e (by omega) (by omega)]
        exact ih (j + 1) (by omega) (by omega) k (by omega)
    · rw [if_neg (by simpa using hjs)]
theorem cut_early (s : ByteArray) (hs : s.size ≤ 200) (c : Nat) (hc : c < s.size) (h18 : (nx (s.extract c s.size)).2.2 = 18) :
    ∀ (d : Nat) (j : Int), (s.size : Int) - (c : Int) - j = d → 1 ≤ j → ∀ k, 2 * d + 15 ≤ k → utf8_Cut.l0 k s j = some (c : Int) := by
  have hsz : (s.extract c s.size).size ≤ 140737488351232 := by rw [sfx_size]; omega
  have ha := nx_ans (s := s.extract c s.size) hsz (by rw [sfx_size]; omega)
  have hm := ha.1.more h18
  have hf := ha.2 h18
  rw [sfx_size] at hm
  rw [bt_sfx s c 0 (by omega) (by omega)] at hf
  have e0 : (c : Int) + 0 = (c : Int) := by omega
  rw [e0] at hf
  intro d
  induction d with
  | zero =>
    intro j hj h1 k hk
    obtain ⟨k, rfl⟩ : ∃ m, k = m + 2 := ⟨k - 2, by omega⟩
    simp only [utf8_Cut.l0, utf8_Cut.j1]
    have hw : wrap64 ((s.size : Int) - j) = (c : Int) := by rw [w64e (by omega) (by omega)]; omega
    rw [if_pos (by omega), if_pos (by simp; omega), hw, if_pos (by omega), if_pos (by omega)]
    obtain ⟨m, x, e1, e2, e3, e4⟩ := lead_any (b := bt s c) (by omega) (by omega)
    have hat : ((c : Int)).toNat = c := by omega
    rw [e1]
    simp only [Option.bind_some]
    rw [if_pos (e3 (by omega) (by omega)), if_pos (by omega), hat, nx_next hsz (by omega)]
    simp only [Option.bind_some]
    rw [if_pos h18]
  | succ d ih =>
    intro j hj h1 k hk
    obtain ⟨k, rfl⟩ : ∃ m, k = m + 2 := ⟨k - 2, by omega⟩
    simp only [utf8_Cut.l0, utf8_Cut.j1]
    have hw : wrap64 ((s.size : Int) - j) = (((s.size : Int) - j).toNat : Int) := by rw [w64e (by omega) (by omega)]; omega
    generalize hpe : ((s.size : Int) - j).toNat = p at hw
    rw [if_pos (by omega), if_pos (by simp; omega), hw, if_pos (by omega), if_pos (by omega)]
    have ht := ha.1.tail ((p : Int) - (c : Int)) (by omega) (by omega)
    rw [bt_sfx s c _ (by omega) (by omega)] at ht
    have e : (c : Int) + ((p : Int) - (c : Int)) = (p : Int) := by omega
    rw [e] at ht
    obtain ⟨m, x, e1, e2, e3, e4⟩ := lead_any (b := bt s p) (by omega) (by omega)
    rw [e1]
    simp only [Option.bind_some]
    rw [if_neg (by have := e2 ht.1 ht.2; omega), w64e (by omega) (by omega)]
    exact ih (j + 1) (by omega) (by omega) k (by omega)
theorem cuts (s : ByteArray) (hs : s.size ≤ 200) (k : Nat) (hk : 500 ≤ k) : ∃ c, utf8_Cut.f k s = some c ∧ inkhorntop_quillCut.f k 5 s = some c := by
  obtain ⟨c, h1, h2⟩ := hcut s hs (s.size - 0) 0 rfl (by omega) k (by omega)
  refine ⟨c, ?_, h1⟩
  unfold utf8_Cut.f
  rcases h2 with ⟨h2, h3⟩ | ⟨h2, h3⟩
  · subst h2
    exact cut_full s hs h3 3 1 (by decide) (by decide) k (by omega)
  · exact cut_early s hs c h2 h3 (s.size - c - 1) 1 (by omega) (by decide) k (by omega)
end Go.Proofs.YtcaaadaikfnbaaaGreatDoor.Pure
