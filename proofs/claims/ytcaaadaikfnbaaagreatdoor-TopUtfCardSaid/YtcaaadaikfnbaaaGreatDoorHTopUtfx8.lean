/- A text of this claim. -/
import Derived.Test.YtcaaadaikfnbaaaGreatDoorHTopUtfx0
import Derived.Test.YtcaaadaikfnbaaaGreatDoorHTopUtfx2
import Derived.Test.YtcaaadaikfnbaaaGreatDoorHTopUtfx3
import Derived.Test.YtcaaadaikfnbaaaGreatDoorHTopUtfx4
import Derived.Test.YtcaaadaikfnbaaaGreatDoorHTopUtfx5
import Derived.Test.YtcaaadaikfnbaaaGreatDoorHTopUtfx6
import Derived.Test.YtcaaadaikfnbaaaGreatDoorHTopUtfx7
set_option linter.all false
namespace Go.Proofs.YtcaaadaikfnbaaaGreatDoor.HTopUtf
open Go.RowKit Go.Proofs.YtcaaadaikfnbaaaGreatDoorW.PrintWords Go.Proofs.YtcaaadaikfnbaaaGreatDoorW.PrintLast Go.Proofs.YtcaaadaikfnbaaaGreatDoorW.PrintMore
attribute [local go_sem] max2_int min2_int max_two min_two max_three min_three max_four min_four
set_option linter.unusedVariables false
set_option linter.unusedSimpArgs false
mutual
def inkhorntop_TopUtf.j0 : Nat → Int → ByteArray → Int → List Int → Bool → Option (Bool)
  | 0, _, _, _, _, _ => none
  | k + 1, x0, x1, x2, x3, x71 => if x71 = true then (some false) else ((inkhorntop_quillDecode.f k 5 3 x1 0).bind fun bt181 => ((utf8_Valid.f k x1).bind fun t188 => (if (t188 != ((bt181.2.1.length : Int) == 0)) = true then (some false) else ((inkhorntop_quillSplit.f x1 x2).bind fun bt189 => ((utf8_Decode.f k x0 (([bt189.1, (⟨#[]⟩ : ByteArray), bt189.2] : List ByteArray))).bind fun bt194 => ((inkhorntop_quillDecode.f k 5 x0 x1 0).bind fun bt201 => ((inkhorntop_quillIs.f x0 3).bind fun t208 => (if t208 = true then (inkhorntop_TopUtf.j1 k x3 bt194.2.2 bt201.2.2 bt194.1 bt194.2.1 bt201.1 bt201.2.1) else (inkhorntop_TopUtf.j1 k x3 bt194.2.2 16 bt194.1 bt194.2.1 ([] : List Int) ([] : List (S52)))))))))))
def inkhorntop_TopUtf.j1 : Nat → List Int → Int → Int → List Int → List (S52) → List Int → List (S52) → Option (Bool)
  | 0, _, _, _, _, _, _, _ => none
  | k + 1, x3, x11, x14, x20, x21, x22, x23 => if x11 = x14 then ((inkhorntop_quillRunes.f k x20 x22).bind fun t209 => (if t209 = true then ((inkhorntop_quillFaults.f k x21 x23).bind fun t210 => (inkhorntop_TopUtf.j2 k x3 (!t210))) else (inkhorntop_TopUtf.j2 k x3 true))) else (inkhorntop_TopUtf.j2 k x3 true)
def inkhorntop_TopUtf.j2 : Nat → List Int → Bool → Option (Bool)
  | 0, _, _ => none
  | k + 1, x3, x123 => if x123 = true then (some false) else (inkhorntop_TopUtf.l0 k x3 (⟨#[]⟩ : ByteArray) 0 x3 (x3.length : Int) 0)
def inkhorntop_TopUtf.l0 : Nat → List Int → ByteArray → Int → List Int → Int → Int → Option (Bool)
  | 0, _, _, _, _, _, _ => none
  | k + 1, x3, x24, x25, x124, x125, x126 => if x126 < x125 then (if 0 ≤ x126 then (if x126 < (x124.length : Int) then ((api_Scalar.f (rd x124 x126)).bind fun t212 => (if t212 = true then ((inkhorntop_quillBytes.f 5 (rd x124 x126)).bind fun t213 => (if x24.size + t213.size ≤ 9223372036854775807 then ((utf8_Len.f (rd x124 x126)).bind fun t214 => (if t214 = (t213.size : Int) then (inkhorntop_TopUtf.l0 k x3 (x24 ++ t213) x25 x124 x125 (wrap64 (x126 + 1))) else (some false))) else (none))) else ((utf8_Len.f (rd x124 x126)).bind fun t215 => (if t215 = 0 then (inkhorntop_TopUtf.l0 k x3 x24 11 x124 x125 (wrap64 (x126 + 1))) else (some false))))) else (none)) else (none)) else (if x25 = 0 then ((utf8_Encode.f x3).bind fun bt216 => (if bt216.1.toList = x24.toList then (if bt216.2 = x25 then ((inkhorntop_awake.f).bind fun t218 => (some t218)) else (some false)) else (some false))) else ((utf8_Encode.f x3).bind fun bt219 => (if bt219.1.toList = ([] : List UInt8) then (if bt219.2 = x25 then ((inkhorntop_awake.f).bind fun t221 => (some t221)) else (some false)) else (some false))))
end
def inkhorntop_TopUtf.f (k : Nat) (a0 : Int) (a1 : ByteArray) (a2 : Int) (l3 : List Int) : Option (Bool) := if 0 ≤ (mn (a1.size : Int) 200) then (if (mn (a1.size : Int) 200) ≤ (a1.size : Int) then (if 0 ≤ (mn (l3.length : Int) 60) then (if (mn (l3.length : Int) 60) ≤ (l3.length : Int) then ((utf8_Next.f k (a1.extract 0 ((mn (a1.size : Int) 200) : Int).toNat)).bind fun bt173 => ((inkhorntop_quillNext.f k (a1.extract 0 ((mn (a1.size : Int) 200) : Int).toNat)).bind fun bt176 => (if bt173.1 = bt176.1 then (if bt173.2.1 = bt176.2.1 then (if bt173.2.2 = bt176.2.2 then ((utf8_Cut.f k (a1.extract 0 ((mn (a1.size : Int) 200) : Int).toNat)).bind fun t179 => ((inkhorntop_quillCut.f k 5 (a1.extract 0 ((mn (a1.size : Int) 200) : Int).toNat)).bind fun t180 => (inkhorntop_TopUtf.j0 k a0 (a1.extract 0 ((mn (a1.size : Int) 200) : Int).toNat) a2 (l3.take ((mn (l3.length : Int) 60) : Int).toNat) (t179 != t180)))) else (inkhorntop_TopUtf.j0 k a0 (a1.extract 0 ((mn (a1.size : Int) 200) : Int).toNat) a2 (l3.take ((mn (l3.length : Int) 60) : Int).toNat) true)) else (inkhorntop_TopUtf.j0 k a0 (a1.extract 0 ((mn (a1.size : Int) 200) : Int).toNat) a2 (l3.take ((mn (l3.length : Int) 60) : Int).toNat) true)) else (inkhorntop_TopUtf.j0 k a0 (a1.extract 0 ((mn (a1.size : Int) 200) : Int).toNat) a2 (l3.take ((mn (l3.length : Int) 60) : Int).toNat) true)))) else (none)) else (none)) else (none)) else (none)
theorem inkhorntop_TopUtf.mono_l : ∀ k, (∀ y0 y1 y2 y3 y4, LeO (inkhorntop_TopUtf.j0 k y0 y1 y2 y3 y4) (inkhorntop_TopUtf.j0 (k + 1) y0 y1 y2 y3 y4)) ∧ (∀ y0 y1 y2 y3 y4 y5 y6, LeO (inkhorntop_TopUtf.j1 k y0 y1 y2 y3 y4 y5 y6) (inkhorntop_TopUtf.j1 (k + 1) y0 y1 y2 y3 y4 y5 y6)) ∧ (∀ y0 y1, LeO (inkhorntop_TopUtf.j2 k y0 y1) (inkhorntop_TopUtf.j2 (k + 1) y0 y1)) ∧ (∀ y0 y1 y2 y3 y4 y5, LeO (inkhorntop_TopUtf.l0 k y0 y1 y2 y3 y4 y5) (inkhorntop_TopUtf.l0 (k + 1) y0 y1 y2 y3 y4 y5))
  | 0 => ⟨fun _ _ _ _ _ r h => by simp [inkhorntop_TopUtf.j0] at h, fun _ _ _ _ _ _ _ r h => by simp [inkhorntop_TopUtf.j1] at h, fun _ _ r h => by simp [inkhorntop_TopUtf.j2] at h, fun _ _ _ _ _ _ r h => by simp [inkhorntop_TopUtf.l0] at h⟩
  | k + 1 => by
    obtain ⟨ih0, ih1, ih2, ih3⟩ := inkhorntop_TopUtf.mono_l k
    refine ⟨?_, ?_, ?_, ?_⟩
    · intro y0 y1 y2 y3 y4
      unfold inkhorntop_TopUtf.j0
      repeat' first
      | (with_reducible exact ih0 _ _ _ _ _)
      | (with_reducible exact ih1 _ _ _ _ _ _ _)
      | (with_reducible exact ih2 _ _)
      | (with_reducible exact ih3 _ _ _ _ _ _)
      | (with_reducible exact inkhorntop_quillCut.mono _ _ _)
      | (with_reducible exact inkhorntop_quillDecode.mono _ _ _ _ _)
      | (with_reducible exact inkhorntop_quillFaults.mono _ _ _)
      | (with_reducible exact inkhorntop_quillNext.mono _ _)
      | (with_reducible exact inkhorntop_quillRunes.mono _ _ _)
      | (with_reducible exact utf8_Cut.mono _ _)
      | (with_reducible exact utf8_Decode.mono _ _ _)
      | (with_reducible exact utf8_Next.mono _ _)
      | (with_reducible exact utf8_Valid.mono _ _)
      | (with_reducible exact LeO.refl _)
      | (with_reducible exact LeO.none _)
      | (with_reducible refine LeO.ite ?_ ?_)
      | (with_reducible refine LeO.bind ?_ (fun _ => ?_))
      | exact ih0 _ _ _ _ _
      | exact ih1 _ _ _ _ _ _ _
      | exact ih2 _ _
      | exact ih3 _ _ _ _ _ _
      | exact inkhorntop_quillCut.mono _ _ _
      | exact inkhorntop_quillDecode.mono _ _ _ _ _
      | exact inkhorntop_quillFaults.mono _ _ _
      | exact inkhorntop_quillNext.mono _ _
      | exact inkhorntop_quillRunes.mono _ _ _
      | exact utf8_Cut.mono _ _
      | exact utf8_Decode.mono _ _ _
      | exact utf8_Next.mono _ _
      | exact utf8_Valid.mono _ _
      | exact LeO.none _
      | refine LeO.ite ?_ ?_
      | refine LeO.bind ?_ (fun _ => ?_)
    · intro y0 y1 y2 y3 y4 y5 y6
      unfold inkhorntop_TopUtf.j1
      repeat' first
      | (with_reducible exact ih0 _ _ _ _ _)
      | (with_reducible exact ih1 _ _ _ _ _ _ _)
      | (with_reducible exact ih2 _ _)
      | (with_reducible exact ih3 _ _ _ _ _ _)
      | (with_reducible exact inkhorntop_quillCut.mono _ _ _)
      | (with_reducible exact inkhorntop_quillDecode.mono _ _ _ _ _)
      | (with_reducible exact inkhorntop_quillFaults.mono _ _ _)
      | (with_reducible exact inkhorntop_quillNext.mono _ _)
      | (with_reducible exact inkhorntop_quillRunes.mono _ _ _)
      | (with_reducible exact utf8_Cut.mono _ _)
      | (with_reducible exact utf8_Decode.mono _ _ _)
      | (with_reducible exact utf8_Next.mono _ _)
      | (with_reducible exact utf8_Valid.mono _ _)
      | (with_reducible exact LeO.refl _)
      | (with_reducible exact LeO.none _)
      | (with_reducible refine LeO.ite ?_ ?_)
      | (with_reducible refine LeO.bind ?_ (fun _ => ?_))
      | exact ih0 _ _ _ _ _
      | exact ih1 _ _ _ _ _ _ _
      | exact ih2 _ _
      | exact ih3 _ _ _ _ _ _
      | exact inkhorntop_quillCut.mono _ _ _
      | exact inkhorntop_quillDecode.mono _ _ _ _ _
      | exact inkhorntop_quillFaults.mono _ _ _
      | exact inkhorntop_quillNext.mono _ _
      | exact inkhorntop_quillRunes.mono _ _ _
      | exact utf8_Cut.mono _ _
      | exact utf8_Decode.mono _ _ _
      | exact utf8_Next.mono _ _
      | exact utf8_Valid.mono _ _
      | exact LeO.none _
      | refine LeO.ite ?_ ?_
      | refine LeO.bind ?_ (fun _ => ?_)
    · intro y0 y1
      unfold inkhorntop_TopUtf.j2
      repeat' first
      | (with_reducible exact ih0 _ _ _ _ _)
      | (with_reducible exact ih1 _ _ _ _ _ _ _)
      | (with_reducible exact ih2 _ _)
      | (with_reducible exact ih3 _ _ _ _ _ _)
      | (with_reducible exact inkhorntop_quillCut.mono _ _ _)
      | (with_reducible exact inkhorntop_quillDecode.mono _ _ _ _ _)
      | (with_reducible exact inkhorntop_quillFaults.mono _ _ _)
      | (with_reducible exact inkhorntop_quillNext.mono _ _)
      | (with_reducible exact inkhorntop_quillRunes.mono _ _ _)
      | (with_reducible exact utf8_Cut.mono _ _)
      | (with_reducible exact utf8_Decode.mono _ _ _)
      | (with_reducible exact utf8_Next.mono _ _)
      | (with_reducible exact utf8_Valid.mono _ _)
      | (with_reducible exact LeO.refl _)
      | (with_reducible exact LeO.none _)
      | (with_reducible refine LeO.ite ?_ ?_)
      | (with_reducible refine LeO.bind ?_ (fun _ => ?_))
      | exact ih0 _ _ _ _ _
      | exact ih1 _ _ _ _ _ _ _
      | exact ih2 _ _
      | exact ih3 _ _ _ _ _ _
      | exact inkhorntop_quillCut.mono _ _ _
      | exact inkhorntop_quillDecode.mono _ _ _ _ _
      | exact inkhorntop_quillFaults.mono _ _ _
      | exact inkhorntop_quillNext.mono _ _
      | exact inkhorntop_quillRunes.mono _ _ _
      | exact utf8_Cut.mono _ _
      | exact utf8_Decode.mono _ _ _
      | exact utf8_Next.mono _ _
      | exact utf8_Valid.mono _ _
      | exact LeO.none _
      | refine LeO.ite ?_ ?_
      | refine LeO.bind ?_ (fun _ => ?_)
    · intro y0 y1 y2 y3 y4 y5
      unfold inkhorntop_TopUtf.l0
      repeat' first
      | (with_reducible exact ih0 _ _ _ _ _)
      | (with_reducible exact ih1 _ _ _ _ _ _ _)
      | (with_reducible exact ih2 _ _)
      | (with_reducible exact ih3 _ _ _ _ _ _)
      | (with_reducible exact inkhorntop_quillCut.mono _ _ _)
      | (with_reducible exact inkhorntop_quillDecode.mono _ _ _ _ _)
      | (with_reducible exact inkhorntop_quillFaults.mono _ _ _)
      | (with_reducible exact inkhorntop_quillNext.mono _ _)
      | (with_reducible exact inkhorntop_quillRunes.mono _ _ _)
      | (with_reducible exact utf8_Cut.mono _ _)
      | (with_reducible exact utf8_Decode.mono _ _ _)
      | (with_reducible exact utf8_Next.mono _ _)
      | (with_reducible exact utf8_Valid.mono _ _)
      | (with_reducible exact LeO.refl _)
      | (with_reducible exact LeO.none _)
      | (with_reducible refine LeO.ite ?_ ?_)
      | (with_reducible refine LeO.bind ?_ (fun _ => ?_))
      | exact ih0 _ _ _ _ _
      | exact ih1 _ _ _ _ _ _ _
      | exact ih2 _ _
      | exact ih3 _ _ _ _ _ _
      | exact inkhorntop_quillCut.mono _ _ _
      | exact inkhorntop_quillDecode.mono _ _ _ _ _
      | exact inkhorntop_quillFaults.mono _ _ _
      | exact inkhorntop_quillNext.mono _ _
      | exact inkhorntop_quillRunes.mono _ _ _
      | exact utf8_Cut.mono _ _
      | exact utf8_Decode.mono _ _ _
      | exact utf8_Next.mono _ _
      | exact utf8_Valid.mono _ _
      | exact LeO.none _
      | refine LeO.ite ?_ ?_
      | refine LeO.bind ?_ (fun _ => ?_)
theorem inkhorntop_TopUtf.mono : ∀ a0 a1 a2 a3 k, LeO (inkhorntop_TopUtf.f k a0 a1 a2 a3) (inkhorntop_TopUtf.f (k + 1) a0 a1 a2 a3) := by
  intro a0 a1 a2 a3 k
  obtain ⟨ih0, ih1, ih2, ih3⟩ := inkhorntop_TopUtf.mono_l k
  unfold inkhorntop_TopUtf.f
  repeat' first
      | (with_reducible exact ih0 _ _ _ _ _)
      | (with_reducible exact ih1 _ _ _ _ _ _ _)
      | (with_reducible exact ih2 _ _)
      | (with_reducible exact ih3 _ _ _ _ _ _)
      | (with_reducible exact inkhorntop_quillCut.mono _ _ _)
      | (with_reducible exact inkhorntop_quillDecode.mono _ _ _ _ _)
      | (with_reducible exact inkhorntop_quillFaults.mono _ _ _)
      | (with_reducible exact inkhorntop_quillNext.mono _ _)
      | (with_reducible exact inkhorntop_quillRunes.mono _ _ _)
      | (with_reducible exact utf8_Cut.mono _ _)
      | (with_reducible exact utf8_Decode.mono _ _ _)
      | (with_reducible exact utf8_Next.mono _ _)
      | (with_reducible exact utf8_Valid.mono _ _)
      | (with_reducible exact LeO.refl _)
      | (with_reducible exact LeO.none _)
      | (with_reducible refine LeO.ite ?_ ?_)
      | (with_reducible refine LeO.bind ?_ (fun _ => ?_))
      | exact ih0 _ _ _ _ _
      | exact ih1 _ _ _ _ _ _ _
      | exact ih2 _ _
      | exact ih3 _ _ _ _ _ _
      | exact inkhorntop_quillCut.mono _ _ _
      | exact inkhorntop_quillDecode.mono _ _ _ _ _
      | exact inkhorntop_quillFaults.mono _ _ _
      | exact inkhorntop_quillNext.mono _ _
      | exact inkhorntop_quillRunes.mono _ _ _
      | exact utf8_Cut.mono _ _
      | exact utf8_Decode.mono _ _ _
      | exact utf8_Next.mono _ _
      | exact utf8_Valid.mono _ _
      | exact LeO.none _
      | refine LeO.ite ?_ ?_
      | refine LeO.bind ?_ (fun _ => ?_)
set_option maxHeartbeats 8000000 in
set_option maxRecDepth 100000 in
theorem inkhorntop_TopUtf.calls (k : Nat) (a0 : Int) (a1 : ByteArray) (a2 : Int) (A3 : Option Addr) (c3 : Nat) (l3 : List Int) (r : Bool) (w : World) (hG : Glob w) (hr3 : Kd.C (Kd.int .i32) w A3 l3.length l3) (hc3 : l3.length ≤ c3) (h : inkhorntop_TopUtf.f k a0 a1 a2 l3 = some r) :
    Calls Tryz.prog 3 #[.int .i64 a0, .string a1, .int .i64 a2, .slice A3 l3.length c3] w fun e w' => e = .returned (.bool r) ∧ Below w.heap.size w w' := by
  have HR3 := Aside0.mk hr3
  have HC3 := Aside0.mk hc3
  clear hr3 hc3
  have HB := Aside0.mk (Below.refl w.heap.size w)
  have H : (if 0 ≤ (mn (a1.size : Int) 200) then (if (mn (a1.size : Int) 200) ≤ (a1.size : Int) then (if 0 ≤ (mn (l3.length : Int) 60) then (if (mn (l3.length : Int) 60) ≤ (l3.length : Int) then ((utf8_Next.f k (a1.extract 0 ((mn (a1.size : Int) 200) : Int).toNat)).bind fun bt173 => ((inkhorntop_quillNext.f k (a1.extract 0 ((mn (a1.size : Int) 200) : Int).toNat)).bind fun bt176 => (if bt173.1 = bt176.1 then (if bt173.2.1 = bt176.2.1 then (if bt173.2.2 = bt176.2.2 then ((utf8_Cut.f k (a1.extract 0 ((mn (a1.size : Int) 200) : Int).toNat)).bind fun t179 => ((inkhorntop_quillCut.f k 5 (a1.extract 0 ((mn (a1.size : Int) 200) : Int).toNat)).bind fun t180 => (inkhorntop_TopUtf.j0 k a0 (a1.extract 0 ((mn (a1.size : Int) 200) : Int).toNat) a2 (l3.take ((mn (l3.length : Int) 60) : Int).toNat) (t179 != t180)))) else (inkhorntop_TopUtf.j0 k a0 (a1.extract 0 ((mn (a1.size : Int) 200) : Int).toNat) a2 (l3.take ((mn (l3.length : Int) 60) : Int).toNat) true)) else (inkhorntop_TopUtf.j0 k a0 (a1.extract 0 ((mn (a1.size : Int) 200) : Int).toNat) a2 (l3.take ((mn (l3.length : Int) 60) : Int).toNat) true)) else (inkhorntop_TopUtf.j0 k a0 (a1.extract 0 ((mn (a1.size : Int) 200) : Int).toNat) a2 (l3.take ((mn (l3.length : Int) 60) : Int).toNat) true)))) else (none)) else (none)) else (none)) else (none)) = some r := h
  clear h
  obtain ⟨ji5, hji5⟩ : ∃ j_ : Int, (mn (a1.size : Int) 200) = j_ := ⟨_, rfl⟩
  replace H : (if 0 ≤ (ji5) then (if (ji5) ≤ (a1.size : Int) then (if 0 ≤ (mn (l3.length : Int) 60) then (if (mn (l3.length : Int) 60) ≤ (l3.length : Int) then ((utf8_Next.f k (a1.extract 0 ((ji5) : Int).toNat)).bind fun bt173 => ((inkhorntop_quillNext.f k (a1.extract 0 ((ji5) : Int).toNat)).bind fun bt176 => (if bt173.1 = bt176.1 then (if bt173.2.1 = bt176.2.1 then (if bt173.2.2 = bt176.2.2 then ((utf8_Cut.f k (a1.extract 0 ((ji5) : Int).toNat)).bind fun t179 => ((inkhorntop_quillCut.f k 5 (a1.extract 0 ((ji5) : Int).toNat)).bind fun t180 => (inkhorntop_TopUtf.j0 k a0 (a1.extract 0 ((ji5) : Int).toNat) a2 (l3.take ((mn (l3.length : Int) 60) : Int).toNat) (t179 != t180)))) else (inkhorntop_TopUtf.j0 k a0 (a1.extract 0 ((ji5) : Int).toNat) a2 (l3.take ((mn (l3.length : Int) 60) : Int).toNat) true)) else (inkhorntop_TopUtf.j0 k a0 (a1.extract 0 ((ji5) : Int).toNat) a2 (l3.take ((mn (l3.length : Int) 60) : Int).toNat) true)) else (inkhorntop_TopUtf.j0 k a0 (a1.extract 0 ((ji5) : Int).toNat) a2 (l3.take ((mn (l3.length : Int) 60) : Int).toNat) true)))) else (none)) else (none)) else (none)) else (none)) = some r := by first | (rw [hji5] at H; exact H) | (simp only [hji5] at H ⊢; exact H)
  (try (have hji5h : ji5 ≤ 200 := by (rw [← hji5]; unfold mn; (repeat' split) <;> omega)))
  (try (have hji5g : ji5 ≤ 64 := by omega))
  (try (have hji5l : 0 ≤ ji5 := by (rw [← hji5]; unfold mn; (repeat' split) <;> omega)))
  (try (have hji5m : 0 ≤ ji5 := by omega))
  have hji5_ : (if 200 < (a1.size : Int) then 200 else (a1.size : Int)) = ji5 := hji5
  by_cases c6 : 0 ≤ (ji5)
  · rw [if_pos c6] at H
    have c6b0 := eq_true c6
    have c6b1 : decide (0 ≤ (ji5)) = true := decide_eq_true c6
    clear c6
    by_cases c7 : (ji5) ≤ (a1.size : Int)
    · rw [if_pos c7] at H
      have c7b0 := eq_true c7
      have c7b1 : decide ((ji5) ≤ (a1.size : Int)) = true := decide_eq_true c7
      clear c7
      obtain ⟨ji8, hji8⟩ : ∃ j_ : Int, (mn (l3.length : Int) 60) = j_ := ⟨_, rfl⟩
      replace H : (if 0 ≤ (ji8) then (if (ji8) ≤ (l3.length : Int) then ((utf8_Next.f k (a1.extract 0 ((ji5) : Int).toNat)).bind fun bt173 => ((inkhorntop_quillNext.f k (a1.extract 0 ((ji5) : Int).toNat)).bind fun bt176 => (if bt173.1 = bt176.1 then (if bt173.2.1 = bt176.2.1 then (if bt173.2.2 = bt176.2.2 then ((utf8_Cut.f k (a1.extract 0 ((ji5) : Int).toNat)).bind fun t179 => ((inkhorntop_quillCut.f k 5 (a1.extract 0 ((ji5) : Int).toNat)).bind fun t180 => (inkhorntop_TopUtf.j0 k a0 (a1.extract 0 ((ji5) : Int).toNat) a2 (l3.take ((ji8) : Int).toNat) (t179 != t180)))) else (inkhorntop_TopUtf.j0 k a0 (a1.extract 0 ((ji5) : Int).toNat) a2 (l3.take ((ji8) : Int).toNat) true)) else (inkhorntop_TopUtf.j0 k a0 (a1.extract 0 ((ji5) : Int).toNat) a2 (l3.take ((ji8) : Int).toNat) true)) else (inkhorntop_TopUtf.j0 k a0 (a1.extract 0 ((ji5) : Int).toNat) a2 (l3.take ((ji8) : Int).toNat) true)))) else (none)) else (none)) = some r := by first | (rw [hji8] at H; exact H) | (simp only [hji8] at H ⊢; exact H)
      (try (have hji8h : ji8 ≤ 60 := by (rw [← hji8]; unfold mn; (repeat' split) <;> omega)))
      (try (have hji8g : ji8 ≤ 64 := by omega))
      (try (have hji8l : 0 ≤ ji8 := by (rw [← hji8]; unfold mn; (repeat' split) <;> omega)))
      (try (have hji8m : 0 ≤ ji8 := by omega))
      have hji8_ : (if 60 < (l3.length : Int) then 60 else (l3.length : Int)) = ji8 := hji8
      by_cases c9 : 0 ≤ (ji8)
      · rw [if_pos c9] at H
        have c9b0 := eq_true c9
        have c9b1 : decide (0 ≤ (ji8)) = true := decide_eq_true c9
        clear c9
        by_cases c10 : (ji8) ≤ (l3.length : Int)
        · rw [if_pos c10] at H
          have c10b0 := eq_true c10
          have c10b1 : decide ((ji8) ≤ (l3.length : Int)) = true := decide_eq_true c10
          clear c10
          replace H := Option.bind_eq_some_iff.mp H
          obtain ⟨⟨t173, t174, t175⟩, A110, H⟩ := H
          replace H : ((inkhorntop_quillNext.f k (a1.extract 0 ((ji5) : Int).toNat)).bind fun bt176 => (if t173 = bt176.1 then (if t174 = bt176.2.1 then (if t175 = bt176.2.2 then ((utf8_Cut.f k (a1.extract 0 ((ji5) : Int).toNat)).bind fun t179 => ((inkhorntop_quillCut.f k 5 (a1.extract 0 ((ji5) : Int).toNat)).bind fun t180 => (inkhorntop_TopUtf.j0 k a0 (a1.extract 0 ((ji5) : Int).toNat) a2 (l3.take ((ji8) : Int).toNat) (t179 != t180)))) else (inkhorntop_TopUtf.j0 k a0 (a1.extract 0 ((ji5) : Int).toNat) a2 (l3.take ((ji8) : Int).toNat) true)) else (inkhorntop_TopUtf.j0 k a0 (a1.extract 0 ((ji5) : Int).toNat) a2 (l3.take ((ji8) : Int).toNat) true)) else (inkhorntop_TopUtf.j0 k a0 (a1.extract 0 ((ji5) : Int).toNat) a2 (l3.take ((ji8) : Int).toNat) true))) = some r := H
          have A11 := Aside0.mk A110
          clear A110
          replace H := Option.bind_eq_some_iff.mp H
          obtain ⟨⟨t176, t177, t178⟩, A120, H⟩ := H
          replace H : (if t173 = t176 then (if t174 = t177 then (if t175 = t178 then ((utf8_Cut.f k (a1.extract 0 ((ji5) : Int).toNat)).bind fun t179 => ((inkhorntop_quillCut.f k 5 (a1.extract 0 ((ji5) : Int).toNat)).bind fun t180 => (inkhorntop_TopUtf.j0 k a0 (a1.extract 0 ((ji5) : Int).toNat) a2 (l3.take ((ji8) : Int).toNat) (t179 != t180)))) else (inkhorntop_TopUtf.j0 k a0 (a1.extract 0 ((ji5) : Int).toNat) a2 (l3.take ((ji8) : Int).toNat) true)) else (inkhorntop_TopUtf.j0 k a0 (a1.extract 0 ((ji5) : Int).toNat) a2 (l3.take ((ji8) : Int).toNat) true)) else (inkhorntop_TopUtf.j0 k a0 (a1.extract 0 ((ji5) : Int).toNat) a2 (l3.take ((ji8) : Int).toNat) true)) = some r := H
          have A12 := Aside0.mk A120
          clear A120
          have HC13 := Aside0.mk H
          clear H
          obtain ⟨i014, hi014, _, hsz14, _⟩ := info_parts info21
          obtain ⟨hcut14, hA14, hC14⟩ := print_take_of (P := Tryz.prog) (Value.int .i32) 0 22 21 .i64 Tryz.underlying22 hi014 hsz14 A3 c3 l3 (ji8) (of_decide_eq_true (by first | (with_reducible assumption) | assumption)) (of_decide_eq_true (by first | (with_reducible assumption) | assumption)) HC3.out
          have HR172 := Aside0.mk (Kd.C_of_reads (h1 := fun _ => rfl) (hA14 _ (Kd.reads_of_C HR3.out)))
          have HC172 := Aside0.mk hC14
          clear hA14 hC14 hi014 hsz14
          go_enter Tryz.func3, Tryz.ntmps3
          go_upto_region 4 with (first | (go_at_call 4; (with_reducible refine (utf8_Next.calls k (a1.extract 0 ((ji5) : Int).toNat) t173 t174 t175 _ (by first | exact hG | exact Glob.drewN hG | exact Glob.below hG (by repeat (first | (with_reducible first | exact HB.out | apply below_alloc | apply pw_below_drewN | apply below_drew1) | exact HB.out))) A11.out).mono ?_); rintro e w15 ⟨rfl, hb⟩; have n0_ := Aside0.mk (below_step (by repeat (first | (with_reducible first | exact HB.out | apply below_alloc | apply pw_below_drewN | apply below_drew1) | exact HB.out)) hb); clear HB; have HB := n0_; clear n0_; (try clear hb); (try clear hb2); (try clear hk); (try clear hi)) | (go_at_call 5; (with_reducible refine (inkhorntop_quillNext.calls k (a1.extract 0 ((ji5) : Int).toNat) t176 t177 t178 _ A12.out).mono ?_); rintro e w' ⟨rfl, ⟨nd, rfl⟩⟩; (try first | exact ⟨rfl, _, World.drewN_drewN _ _ _⟩ | exact ⟨rfl, _, Eq.trans (World.drewN_drewN _ _ _) (congrArg (World.drewN _) (Nat.add_assoc _ _ _))⟩)))
          repeat (go_quiet (first | (go_at_call 4; (with_reducible refine (utf8_Next.calls k (a1.extract 0 ((ji5) : Int).toNat) t173 t174 t175 _ (by first | exact hG | exact Glob.drewN hG | exact Glob.below hG (by repeat (first | (with_reducible first | exact HB.out | apply below_alloc | apply pw_below_drewN | apply below_drew1) | exact HB.out))) A11.out).mono ?_); rintro e w15 ⟨rfl, hb⟩; have n0_ := Aside0.mk (below_step (by repeat (first | (with_reducible first | exact HB.out | apply below_alloc | apply pw_below_drewN | apply below_drew1) | exact HB.out)) hb); clear HB; have HB := n0_; clear n0_; (try clear hb); (try clear hb2); (try clear hk); (try clear hi)) | (go_at_call 5; (with_reducible refine (inkhorntop_quillNext.calls k (a1.extract 0 ((ji5) : Int).toNat) t176 t177 t178 _ A12.out).mono ?_); rintro e w' ⟨rfl, ⟨nd, rfl⟩⟩; (try first | exact ⟨rfl, _, World.drewN_drewN _ _ _⟩ | exact ⟨rfl, _, Eq.trans (World.drewN_drewN _ _ _) (congrArg (World.drewN _) (Nat.add_assoc _ _ _))⟩))); go_upto_region 4 with (first | (go_at_call 4; (with_reducible refine (utf8_Next.calls k (a1.extract 0 ((ji5) : Int).toNat) t173 t174 t175 _ (by first | exact hG | exact Glob.drewN hG | exact Glob.below hG (by repeat (first | (with_reducible first | exact HB.out | apply below_alloc | apply pw_below_drewN | apply below_drew1) | exact HB.out))) A11.out).mono ?_); rintro e w15 ⟨rfl, hb⟩; have n0_ := Aside0.mk (below_step (by repeat (first | (with_reducible first | exact HB.out | apply below_alloc | apply pw_below_drewN | apply below_drew1) | exact HB.out)) hb); clear HB; have HB := n0_; clear n0_; (try clear hb); (try clear hb2); (try clear hk); (try clear hi)) | (go_at_call 5; (with_reducible refine (inkhorntop_quillNext.calls k (a1.extract 0 ((ji5) : Int).toNat) t176 t177 t178 _ A12.out).mono ?_); rintro e w' ⟨rfl, ⟨nd, rfl⟩⟩; (try first | exact ⟨rfl, _, World.drewN_drewN _ _ _⟩ | exact ⟨rfl, _, Eq.trans (World.drewN_drewN _ _ _) (congrArg (World.drewN _) (Nat.add_assoc _ _ _))⟩))))
          (try simp only [Act.put, List.setIfInBounds_toArray, List.set_cons_zero, List.set_cons_succ])
          go_cut [71] (fun v71 wc => ∃ (kq : Nat) (x71_12 : Bool), v71 = .bool x71_12 ∧ Aside0 (inkhorntop_TopUtf.j0 kq a0 (a1.extract 0 ((ji5) : Int).toNat) a2 (l3.take ((ji8) : Int).toNat) x71_12 = some r) ∧ Aside0 (kq ≤ k) ∧ Aside0 (Below w.heap.size w wc))
          case first =>
            have H := HC13.out
            clear HC13
            by_cases c16 : t173 = t176
            · rw [if_pos c16] at H
              have c16b0 : (t173 == t176) = true := beq_iff_eq.mpr c16
              have c16b1 : (t173 != t176) = false := bne_eq_false_iff_eq.mpr c16
              clear c16
              (first | rw [c16b0] | (simp only [i64_w, i32_w]; rw [c16b0]) | skip)
              by_cases c17 : t174 = t177
              · rw [if_pos c17] at H
                have c17b0 : (t174 == t177) = true := beq_iff_eq.mpr c17
                have c17b1 : (t174 != t177) = false := bne_eq_false_iff_eq.mpr c17
                clear c17
                by_cases c18 : t175 = t178
                · rw [if_pos c18] at H
                  have c18b0 : (t175 == t178) = true := beq_iff_eq.mpr c18
                  have c18b1 : (t175 != t178) = false := bne_eq_false_iff_eq.mpr c18
                  clear c18
                  replace H := Option.bind_eq_some_iff.mp H
                  obtain ⟨t179, A190, H⟩ := H
                  replace H : ((inkhorntop_quillCut.f k 5 (a1.extract 0 ((ji5) : Int).toNat)).bind fun t180 => (inkhorntop_TopUtf.j0 k a0 (a1.extract 0 ((ji5) : Int).toNat) a2 (l3.take ((ji8) : Int).toNat) (t179 != t180))) = some r := H
                  have A19 := Aside0.mk A190
                  clear A190
                  replace H := Option.bind_eq_some_iff.mp H
                  obtain ⟨t180, A200, H⟩ := H
                  replace H : (inkhorntop_TopUtf.j0 k a0 (a1.extract 0 ((ji5) : Int).toNat) a2 (l3.take ((ji8) : Int).toNat) (t179 != t180)) = some r := H
                  have A20 := Aside0.mk A200
                  clear A200
                  have H' := Aside0.mk H
                  clear H
                  go_wp2_with (first | (go_at_call 6; (with_reducible refine (utf8_Cut.calls k (a1.extract 0 ((ji5) : Int).toNat) t179 _ (by first | exact hG | exact Glob.drewN hG | exact Glob.below hG (by repeat (first | (with_reducible first | exact HB.out | apply below_alloc | apply pw_below_drewN | apply below_drew1) | exact HB.out))) A19.out).mono ?_); rintro e w21 ⟨rfl, hb⟩; have n0_ := Aside0.mk (below_step (by repeat (first | (with_reducible first | exact HB.out | apply below_alloc | apply pw_below_drewN | apply below_drew1) | exact HB.out)) hb); clear HB; have HB := n0_; clear n0_; (try clear hb); (try clear hb2); (try clear hk); (try clear hi)) | (go_at_call 7; (with_reducible refine (inkhorntop_quillCut.calls k 5 (a1.extract 0 ((ji5) : Int).toNat) t180 _ A20.out).mono ?_); rintro e w' ⟨rfl, ⟨nd, rfl⟩⟩; (try first | exact ⟨rfl, _, World.drewN_drewN _ _ _⟩ | exact ⟨rfl, _, Eq.trans (World.drewN_drewN _ _ _) (congrArg (World.drewN _) (Nat.add_assoc _ _ _))⟩)))
                  repeat (go_quiet (first | (go_at_call 6; (with_reducible refine (utf8_Cut.calls k (a1.extract 0 ((ji5) : Int).toNat) t179 _ (by first | exact hG | exact Glob.drewN hG | exact Glob.below hG (by repeat (first | (with_reducible first | exact HB.out | apply below_alloc | apply pw_below_drewN | apply below_drew1) | exact HB.out))) A19.out).mono ?_); rintro e w21 ⟨rfl, hb⟩; have n0_ := Aside0.mk (below_step (by repeat (first | (with_reducible first | exact HB.out | apply below_alloc | apply pw_below_drewN | apply below_drew1) | exact HB.out)) hb); clear HB; have HB := n0_; clear n0_; (try clear hb); (try clear hb2); (try clear hk); (try clear hi)) | (go_at_call 7; (with_reducible refine (inkhorntop_quillCut.calls k 5 (a1.extract 0 ((ji5) : Int).toNat) t180 _ A20.out).mono ?_); rintro e w' ⟨rfl, ⟨nd, rfl⟩⟩; (try first | exact ⟨rfl, _, World.drewN_drewN _ _ _⟩ | exact ⟨rfl, _, Eq.trans (World.drewN_drewN _ _ _) (congrArg (World.drewN _) (Nat.add_assoc _ _ _))⟩))); try go_wp2_with (first | (go_at_call 6; (with_reducible refine (utf8_Cut.calls k (a1.extract 0 ((ji5) : Int).toNat) t179 _ (by first | exact hG | exact Glob.drewN hG | exact Glob.below hG (by repeat (first | (with_reducible first | exact HB.out | apply below_alloc | apply pw_below_drewN | apply below_drew1) | exact HB.out))) A19.out).mono ?_); rintro e w21 ⟨rfl, hb⟩; have n0_ := Aside0.mk (below_step (by repeat (first | (with_reducible first | exact HB.out | apply below_alloc | apply pw_below_drewN | apply below_drew1) | exact HB.out)) hb); clear HB; have HB := n0_; clear n0_; (try clear hb); (try clear hb2); (try clear hk); (try clear hi)) | (go_at_call 7; (with_reducible refine (inkhorntop_quillCut.calls k 5 (a1.extract 0 ((ji5) : Int).toNat) t180 _ A20.out).mono ?_); rintro e w' ⟨rfl, ⟨nd, rfl⟩⟩; (try first | exact ⟨rfl, _, World.drewN_drewN _ _ _⟩ | exact ⟨rfl, _, Eq.trans (World.drewN_drewN _ _ _) (congrArg (World.drewN _) (Nat.add_assoc _ _ _))⟩))))
                  go_meet
                  case rel => exact ⟨_, ((t179 != t180)), (by first | rfl | (simp; done) | (simp [*]; done)), H', ⟨by first | omega | exact Nat.le_refl _⟩, ⟨by repeat (first | (with_reducible first | exact HB.out | apply below_alloc | apply pw_below_drewN | apply below_drew1) | exact HB.out)⟩⟩
                · rw [if_neg c18] at H
                  have c18b0 : (t175 == t178) = false := beq_eq_false_iff_ne.mpr c18
                  have c18b1 : (t175 != t178) = true := bne_iff_ne.mpr c18
                  have H' := Aside0.mk H
                  clear H
                  go_wp2
                  repeat (go_quiet (fail); try go_wp2)
                  go_meet
                  case rel => exact ⟨_, (true), (by first | rfl | (simp; done) | (simp [*]; done)), H', ⟨by first | omega | exact Nat.le_refl _⟩, ⟨by repeat (first | (with_reducible first | exact HB.out | apply below_alloc | apply pw_below_drewN | apply below_drew1) | exact HB.out)⟩⟩
              · rw [if_neg c17] at H
                have c17b0 : (t174 == t177) = false := beq_eq_false_iff_ne.mpr c17
                have c17b1 : (t174 != t177) = true := bne_iff_ne.mpr c17
                have H' := Aside0.mk H
                clear H
                go_wp2
                repeat (go_quiet (fail); try go_wp2)
                go_meet
                case rel => exact ⟨_, (true), (by first | rfl | (simp; done) | (simp [*]; done)), H', ⟨by first | omega | exact Nat.le_refl _⟩, ⟨by repeat (first | (with_reducible first | exact HB.out | apply below_alloc | apply pw_below_drewN | apply below_drew1) | exact HB.out)⟩⟩
            · rw [if_neg c16] at H
              have c16b0 : (t173 == t176) = false := beq_eq_false_iff_ne.mpr c16
              have c16b1 : (t173 != t176) = true := bne_iff_ne.mpr c16
              (first | rw [c16b0] | (simp only [i64_w, i32_w]; rw [c16b0]) | skip)
              have H' := Aside0.mk H
              clear H
              go_wp2
              repeat (go_quiet (fail); try go_wp2)
              go_meet
              case rel => exact ⟨_, (true), (by first | rfl | (simp; done) | (simp [*]; done)), H', ⟨by first | omega | exact Nat.le_refl _⟩, ⟨by repeat (first | (with_reducible first | exact HB.out | apply below_alloc | apply pw_below_drewN | apply below_drew1) | exact HB.out)⟩⟩
          case rest =>
            clear HC13
            try clear c1
            try clear p2
            try clear c3
            try clear c6
            try clear c6b0
            try clear c6b1
            try clear c7
            try clear c7b0
            try clear c7b1
            try clear c9
            try clear c9b0
            try clear c9b1
            try clear c10
            try clear c10b0
            try clear c10b1
            try clear c16
            try clear c16b0
            try clear c16b1
            try clear c17
            try clear c17b0
            try clear c17b1
            try clear c18
            try clear c18b0
            try clear c18b1
            obtain ⟨kq, x71_12, rfl, HA, HJ12, HB⟩ := hcut
            cases kq with
            | zero => exact absurd HA.out (by simp [inkhorntop_TopUtf.j0])
            | succ kj12 =>
              have H := HA.out
              clear HA
              simp only [inkhorntop_TopUtf.j0] at H
              by_cases c22 : x71_12 = true
              · subst c22
                have H1 : (some false) = some r := by rw [if_pos rfl] at H; exact H
                clear H
                have H := H1
                clear H1
                obtain rfl := Option.some.inj H
                go_wp2
                repeat (go_quiet (fail); try go_wp2)
                go_ret
                exact ⟨by first | rfl | (simp [errW_none, errW_some] <;> rfl) | (simp only [← hji5, ← hji8]; first | rfl | (simp [errW_none, errW_some] <;> rfl)) | (simp [*, errW_none, errW_some] <;> rfl), by repeat (first | (with_reducible first | exact HB.out | apply below_alloc | apply pw_below_drewN | apply below_drew1) | exact HB.out)⟩
              · replace c22 := Bool.eq_false_iff.mpr c22
                subst c22
                have H1 : ((inkhorntop_quillDecode.f kj12 5 3 (a1.extract 0 ((ji5) : Int).toNat) 0).bind fun bt181 => ((utf8_Valid.f kj12 (a1.extract 0 ((ji5) : Int).toNat)).bind fun t188 => (if (t188 != ((bt181.2.1.length : Int) == 0)) = true then (some false) else ((inkhorntop_quillSplit.f (a1.extract 0 ((ji5) : Int).toNat) a2).bind fun bt189 => ((utf8_Decode.f kj12 a0 (([bt189.1, (⟨#[]⟩ : ByteArray), bt189.2] : List ByteArray))).bind fun bt194 => ((inkhorntop_quillDecode.f kj12 5 a0 (a1.extract 0 ((ji5) : Int).toNat) 0).bind fun bt201 => ((inkhorntop_quillIs.f a0 3).bind fun t208 => (if t208 = true then (inkhorntop_TopUtf.j1 kj12 (l3.take ((ji8) : Int).toNat) bt194.2.2 bt201.2.2 bt194.1 bt194.2.1 bt201.1 bt201.2.1) else (inkhorntop_TopUtf.j1 kj12 (l3.take ((ji8) : Int).toNat) bt194.2.2 16 bt194.1 bt194.2.1 ([] : List Int) ([] : List (S52))))))))))) = some r := by rw [if_neg (show ¬ (false = true) by decide)] at H; exact H
                clear H
                have H := H1
                clear H1
                replace H := Option.bind_eq_some_iff.mp H
                obtain ⟨⟨t181, t182, t183⟩, A230, H⟩ := H
                replace H : ((utf8_Valid.f kj12 (a1.extract 0 ((ji5) : Int).toNat)).bind fun t188 => (if (t188 != ((t182.length : Int) == 0)) = true then (some false) else ((inkhorntop_quillSplit.f (a1.extract 0 ((ji5) : Int).toNat) a2).bind fun bt189 => ((utf8_Decode.f kj12 a0 (([bt189.1, (⟨#[]⟩ : ByteArray), bt189.2] : List ByteArray))).bind fun bt194 => ((inkhorntop_quillDecode.f kj12 5 a0 (a1.extract 0 ((ji5) : Int).toNat) 0).bind fun bt201 => ((inkhorntop_quillIs.f a0 3).bind fun t208 => (if t208 = true then (inkhorntop_TopUtf.j1 kj12 (l3.take ((ji8) : Int).toNat) bt194.2.2 bt201.2.2 bt194.1 bt194.2.1 bt201.1 bt201.2.1) else (inkhorntop_TopUtf.j1 kj12 (l3.take ((ji8) : Int).toNat) bt194.2.2 16 bt194.1 bt194.2.1 ([] : List Int) ([] : List (S52)))))))))) = some r := H
                have A23 := Aside0.mk A230
                clear A230
                replace H := Option.bind_eq_some_iff.mp H
                obtain ⟨t188, A240, H⟩ := H
                replace H : (if (t188 != ((t182.length : Int) == 0)) = true then (some false) else ((inkhorntop_quillSplit.f (a1.extract 0 ((ji5) : Int).toNat) a2).bind fun bt189 => ((utf8_Decode.f kj12 a0 (([bt189.1, (⟨#[]⟩ : ByteArray), bt189.2] : List ByteArray))).bind fun bt194 => ((inkhorntop_quillDecode.f kj12 5 a0 (a1.extract 0 ((ji5) : Int).toNat) 0).bind fun bt201 => ((inkhorntop_quillIs.f a0 3).bind fun t208 => (if t208 = true then (inkhorntop_TopUtf.j1 kj12 (l3.take ((ji8) : Int).toNat) bt194.2.2 bt201.2.2 bt194.1 bt194.2.1 bt201.1 bt201.2.1) else (inkhorntop_TopUtf.j1 kj12 (l3.take ((ji8) : Int).toNat) bt194.2.2 16 bt194.1 bt194.2.1 ([] : List Int) ([] : List (S52))))))))) = some r := H
                have A24 := Aside0.mk A240
                clear A240
                by_cases c25 : (t188 != ((t182.length : Int) == 0)) = true
                · rw [if_pos c25] at H
                  have c25b0 : (t188 != ((t182.length : Int) == 0)) = true := c25
                  (try (have c25b1 : decide (t188 = ((t182.length : Int) == 0)) = false := by simpa using c25))
                  (try (have c25b2 : (t188 == ((t182.length : Int) == 0)) = false := by simpa using c25))
                  (try (have c25b3 : ¬ (t188 = ((t182.length : Int) == 0)) := by simpa using c25))
                  clear c25
                  obtain rfl := Option.some.inj H
                  go_wp2_with (first | (go_at_call 8; (with_reducible refine (inkhorntop_quillDecode.calls kj12 5 3 (a1.extract 0 ((ji5) : Int).toNat) 0 t181 t182 t183 _ A23.out).mono ?_); rintro e w26 ⟨v184, v186, rfl, ho0, ho1, hb⟩; have n0_ := Aside0.mk (Kd.R_lower ho0 (below_size (by repeat (first | (with_reducible first | exact HB.out | apply below_alloc | apply pw_below_drewN | apply below_drew1) | exact HB.out)))); have n1_ := Aside0.mk (Kd.R_lower ho1 (below_size (by repeat (first | (with_reducible first | exact HB.out | apply below_alloc | apply pw_below_drewN | apply below_drew1) | exact HB.out)))); have n2_ := Aside0.mk (below_step (by repeat (first | (with_reducible first | exact HB.out | apply below_alloc | apply pw_below_drewN | apply below_drew1) | exact HB.out)) hb); clear HB; have HO185 := n0_; have HO187 := n1_; have HB := n2_; clear n0_ n1_ n2_; (try clear hb); (try clear hb2); (try clear hk); (try clear hi); (try clear ho0); (try clear ho1)) | (go_at_call 9; (with_reducible refine (utf8_Valid.calls kj12 (a1.extract 0 ((ji5) : Int).toNat) t188 _ (by first | exact hG | exact Glob.drewN hG | exact Glob.below hG (by repeat (first | (with_reducible first | exact HB.out | apply below_alloc | apply pw_below_drewN | apply below_drew1) | exact HB.out))) A24.out).mono ?_); rintro e w27 ⟨rfl, hb⟩; have n0_ := Aside0.mk (Kd.R_below (by (with_reducible repeat (first | apply Kd.R_alloc | apply Kd.R_drewN | apply Kd.R_drew)); exact HO185.out) hb); have n1_ := Aside0.mk (Kd.R_below (by (with_reducible repeat (first | apply Kd.R_alloc | apply Kd.R_drewN | apply Kd.R_drew)); exact HO187.out) hb); have n2_ := Aside0.mk (below_step (by repeat (first | (with_reducible first | exact HB.out | apply below_alloc | apply pw_below_drewN | apply below_drew1) | exact HB.out)) hb); clear HO185; clear HO187; clear HB; have HO185 := n0_; have HO187 := n1_; have HB := n2_; clear n0_ n1_ n2_; (try clear hb); (try clear hb2); (try clear hk); (try clear hi); obtain ⟨Ao28, co28, eo28⟩ := Kd.R_slice HO187.out; subst eo28))
                  repeat (go_quiet (first | (go_at_call 8; (with_reducible refine (inkhorntop_quillDecode.calls kj12 5 3 (a1.extract 0 ((ji5) : Int).toNat) 0 t181 t182 t183 _ A23.out).mono ?_); rintro e w26 ⟨v184, v186, rfl, ho0, ho1, hb⟩; have n0_ := Aside0.mk (Kd.R_lower ho0 (below_size (by repeat (first | (with_reducible first | exact HB.out | apply below_alloc | apply pw_below_drewN | apply below_drew1) | exact HB.out)))); have n1_ := Aside0.mk (Kd.R_lower ho1 (below_size (by repeat (first | (with_reducible first | exact HB.out | apply below_alloc | apply pw_below_drewN | apply below_drew1) | exact HB.out)))); have n2_ := Aside0.mk (below_step (by repeat (first | (with_reducible first | exact HB.out | apply below_alloc | apply pw_below_drewN | apply below_drew1) | exact HB.out)) hb); clear HB; have HO185 := n0_; have HO187 := n1_; have HB := n2_; clear n0_ n1_ n2_; (try clear hb); (try clear hb2); (try clear hk); (try clear hi); (try clear ho0); (try clear ho1)) | (go_at_call 9; (with_reducible refine (utf8_Valid.calls kj12 (a1.extract 0 ((ji5) : Int).toNat) t188 _ (by first | exact hG | exact Glob.drewN hG | exact Glob.below hG (by repeat (first | (with_reducible first | exact HB.out | apply below_alloc | apply pw_below_drewN | apply below_drew1) | exact HB.out))) A24.out).mono ?_); rintro e w27 ⟨rfl, hb⟩; have n0_ := Aside0.mk (Kd.R_below (by (with_reducible repeat (first | apply Kd.R_alloc | apply Kd.R_drewN | apply Kd.R_drew)); exact HO185.out) hb); have n1_ := Aside0.mk (Kd.R_below (by (with_reducible repeat (first | apply Kd.R_alloc | apply Kd.R_drewN | apply Kd.R_drew)); exact HO187.out) hb); have n2_ := Aside0.mk (below_step (by repeat (first | (with_reducible first | exact HB.out | apply below_alloc | apply pw_below_drewN | apply below_drew1) | exact HB.out)) hb); clear HO185; clear HO187; clear HB; have HO185 := n0_; have HO187 := n1_; have HB := n2_; clear n0_ n1_ n2_; (try clear hb); (try clear hb2); (try clear hk); (try clear hi); obtain ⟨Ao28, co28, eo28⟩ := Kd.R_slice HO187.out; subst eo28)); try go_wp2_with (first | (go_at_call 8; (with_reducible refine (inkhorntop_quillDecode.calls kj12 5 3 (a1.extract 0 ((ji5) : Int).toNat) 0 t181 t182 t183 _ A23.out).mono ?_); rintro e w26 ⟨v184, v186, rfl, ho0, ho1, hb⟩; have n0_ := Aside0.mk (Kd.R_lower ho0 (below_size (by repeat (first | (with_reducible first | exact HB.out | apply below_alloc | apply pw_below_drewN | apply below_drew1) | exact HB.out)))); have n1_ := Aside0.mk (Kd.R_lower ho1 (below_size (by repeat (first | (with_reducible first | exact HB.out | apply below_alloc | apply pw_below_drewN | apply below_drew1) | exact HB.out)))); have n2_ := Aside0.mk (below_step (by repeat (first | (with_reducible first | exact HB.out | apply below_alloc | apply pw_below_drewN | apply below_drew1) | exact HB.out)) hb); clear HB; have HO185 := n0_; have HO187 := n1_; have HB := n2_; clear n0_ n1_ n2_; (try clear hb); (try clear hb2); (try clear hk); (try clear hi); (try clear ho0); (try clear ho1)) | (go_at_call 9; (with_reducible refine (utf8_Valid.calls kj12 (a1.extract 0 ((ji5) : Int).toNat) t188 _ (by first | exact hG | exact Glob.drewN hG | exact Glob.below hG (by repeat (first | (with_reducible first | exact HB.out | apply below_alloc | apply pw_below_drewN | apply below_drew1) | exact HB.out))) A24.out).mono ?_); rintro e w27 ⟨rfl, hb⟩; have n0_ := Aside0.mk (Kd.R_below (by (with_reducible repeat (first | apply Kd.R_alloc | apply Kd.R_drewN | apply Kd.R_drew)); exact HO185.out) hb); have n1_ := Aside0.mk (Kd.R_below (by (with_reducible repeat (first | apply Kd.R_alloc | apply Kd.R_drewN | apply Kd.R_drew)); exact HO187.out) hb); have n2_ := Aside0.mk (below_step (by repeat (first | (with_reducible first | exact HB.out | apply below_alloc | apply pw_below_drewN | apply below_drew1) | exact HB.out)) hb); clear HO185; clear HO187; clear HB; have HO185 := n0_; have HO187 := n1_; have HB := n2_; clear n0_ n1_ n2_; (try clear hb); (try clear hb2); (try clear hk); (try clear hi); obtain ⟨Ao28, co28, eo28⟩ := Kd.R_slice HO187.out; subst eo28)))
                  go_ret
                  exact ⟨by first | rfl | (simp [errW_none, errW_some] <;> rfl) | (simp only [← hji5, ← hji8]; first | rfl | (simp [errW_none, errW_some] <;> rfl)) | (simp [*, errW_none, errW_some] <;> rfl), by repeat (first | (with_reducible first | exact HB.out | apply below_alloc | apply pw_below_drewN | apply below_drew1) | exact HB.out)⟩
                · rw [if_neg c25] at H
                  have c25b0 : (t188 != ((t182.length : Int) == 0)) = false := by simpa using c25
                  (try (have c25b1 : decide (t188 = ((t182.length : Int) == 0)) = true := by simpa using c25))
                  (try (have c25b2 : (t188 == ((t182.length : Int) == 0)) = true := by simpa using c25))
                  clear c25
                  replace H := Option.bind_eq_some_iff.mp H
                  obtain ⟨⟨t189, t190⟩, A290, H⟩ := H
                  replace H : ((utf8_Decode.f kj12 a0 (([t189, (⟨#[]⟩ : ByteArray), t190] : List ByteArray))).bind fun bt194 => ((inkhorntop_quillDecode.f kj12 5 a0 (a1.extract 0 ((ji5) : Int).toNat) 0).bind fun bt201 => ((inkhorntop_quillIs.f a0 3).bind fun t208 => (if t208 = true then (inkhorntop_TopUtf.j1 kj12 (l3.take ((ji8) : Int).toNat) bt194.2.2 bt201.2.2 bt194.1 bt194.2.1 bt201.1 bt201.2.1) else (inkhorntop_TopUtf.j1 kj12 (l3.take ((ji8) : Int).toNat) bt194.2.2 16 bt194.1 bt194.2.1 ([] : List Int) ([] : List (S52))))))) = some r := H
                  have A29 := Aside0.mk A290
                  clear A290
                  obtain ⟨y191, hy191⟩ : ∃ y_ : List ByteArray, y_ = (([t189, (⟨#[]⟩ : ByteArray), t190] : List ByteArray)) := ⟨_, rfl⟩
                  replace H : ((utf8_Decode.f kj12 a0 y191).bind fun bt194 => ((inkhorntop_quillDecode.f kj12 5 a0 (a1.extract 0 ((ji5) : Int).toNat) 0).bind fun bt201 => ((inkhorntop_quillIs.f a0 3).bind fun t208 => (if t208 = true then (inkhorntop_TopUtf.j1 kj12 (l3.take ((ji8) : Int).toNat) bt194.2.2 bt201.2.2 bt194.1 bt194.2.1 bt201.1 bt201.2.1) else (inkhorntop_TopUtf.j1 kj12 (l3.take ((ji8) : Int).toNat) bt194.2.2 16 bt194.1 bt194.2.1 ([] : List Int) ([] : List (S52))))))) = some r := by first | (rw [hy191]; with_reducible exact H) | (have H2_ := (Option.bind_some _ _).symm.trans H; rw [hy191]; with_reducible exact H2_) | (have H2_ := (Option.bind_some _ _).symm.trans H; with_reducible exact H2_) | with_reducible exact H | (rw [hy191]; exact H) | exact H
                  have Ny191 := Aside0.mk hy191
                  clear hy191
                  replace H := Option.bind_eq_some_iff.mp H
                  obtain ⟨⟨t194, t195, t196⟩, A300, H⟩ := H
                  replace H : ((inkhorntop_quillDecode.f kj12 5 a0 (a1.extract 0 ((ji5) : Int).toNat) 0).bind fun bt201 => ((inkhorntop_quillIs.f a0 3).bind fun t208 => (if t208 = true then (inkhorntop_TopUtf.j1 kj12 (l3.take ((ji8) : Int).toNat) t196 bt201.2.2 t194 t195 bt201.1 bt201.2.1) else (inkhorntop_TopUtf.j1 kj12 (l3.take ((ji8) : Int).toNat) t196 16 t194 t195 ([] : List Int) ([] : List (S52)))))) = some r := H
                  have A30 := Aside0.mk A300
                  clear A300
                  replace H := Option.bind_eq_some_iff.mp H
                  obtain ⟨⟨t201, t202, t203⟩, A310, H⟩ := H
                  replace H : ((inkhorntop_quillIs.f a0 3).bind fun t208 => (if t208 = true then (inkhorntop_TopUtf.j1 kj12 (l3.take ((ji8) : Int).toNat) t196 t203 t194 t195 t201 t202) else (inkhorntop_TopUtf.j1 kj12 (l3.take ((ji8) : Int).toNat) t196 16 t194 t195 ([] : List Int) ([] : List (S52))))) = some r := H
                  have A31 := Aside0.mk A310
                  clear A310
                  replace H := Option.bind_eq_some_iff.mp H
                  obtain ⟨t208, A320, H⟩ := H
                  replace H : (if t208 = true then (inkhorntop_TopUtf.j1 kj12 (l3.take ((ji8) : Int).toNat) t196 t203 t194 t195 t201 t202) else (inkhorntop_TopUtf.j1 kj12 (l3.take ((ji8) : Int).toNat) t196 16 t194 t195 ([] : List Int) ([] : List (S52)))) = some r := H
                  have A32 := Aside0.mk A320
                  clear A320
                  have HC33 := Aside0.mk H
                  clear H
                  go_upto_if 108 with (first | (go_at_call 8; (with_reducible refine (inkhorntop_quillDecode.calls kj12 5 3 (a1.extract 0 ((ji5) : Int).toNat) 0 t181 t182 t183 _ A23.out).mono ?_); rintro e w34 ⟨v184, v186, rfl, ho0, ho1, hb⟩; have n0_ := Aside0.mk (Kd.R_lower ho0 (below_size (by repeat (first | (with_reducible first | exact HB.out | apply below_alloc | apply pw_below_drewN | apply below_drew1) | exact HB.out)))); have n1_ := Aside0.mk (Kd.R_lower ho1 (below_size (by repeat (first | (with_reducible first | exact HB.out | apply below_alloc | apply pw_below_drewN | apply below_drew1) | exact HB.out)))); have n2_ := Aside0.mk (below_step (by repeat (first | (with_reducible first | exact HB.out | apply below_alloc | apply pw_below_drewN | apply below_drew1) | exact HB.out)) hb); clear HB; have HO185 := n0_; have HO187 := n1_; have HB := n2_; clear n0_ n1_ n2_; (try clear hb); (try clear hb2); (try clear hk); (try clear hi); (try clear ho0); (try clear ho1)) | (go_at_call 9; (with_reducible refine (utf8_Valid.calls kj12 (a1.extract 0 ((ji5) : Int).toNat) t188 _ (by first | exact hG | exact Glob.drewN hG | exact Glob.below hG (by repeat (first | (with_reducible first | exact HB.out | apply below_alloc | apply pw_below_drewN | apply below_drew1) | exact HB.out))) A24.out).mono ?_); rintro e w35 ⟨rfl, hb⟩; have n0_ := Aside0.mk (Kd.R_below (by (with_reducible repeat (first | apply Kd.R_alloc | apply Kd.R_drewN | apply Kd.R_drew)); exact HO185.out) hb); have n1_ := Aside0.mk (Kd.R_below (by (with_reducible repeat (first | apply Kd.R_alloc | apply Kd.R_drewN | apply Kd.R_drew)); exact HO187.out) hb); have n2_ := Aside0.mk (below_step (by repeat (first | (with_reducible first | exact HB.out | apply below_alloc | apply pw_below_drewN | apply below_drew1) | exact HB.out)) hb); clear HO185; clear HO187; clear HB; have HO185 := n0_; have HO187 := n1_; have HB := n2_; clear n0_ n1_ n2_; (try clear hb); (try clear hb2); (try clear hk); (try clear hi); obtain ⟨Ao36, co36, eo36⟩ := Kd.R_slice HO187.out; subst eo36) | (go_at_call 10; (with_reducible refine (inkhorntop_quillSplit.calls (a1.extract 0 ((ji5) : Int).toNat) a2 t189 t190 _ A29.out).mono ?_); rintro e w' ⟨rfl, ⟨nd, rfl⟩⟩; (try first | exact ⟨rfl, _, World.drewN_drewN _ _ _⟩ | exact ⟨rfl, _, Eq.trans (World.drewN_drewN _ _ _) (congrArg (World.drewN _) (Nat.add_assoc _ _ _))⟩)) | ((with_reducible refine gate_dst (N := 94) rfl ?_); refine Kd.R_lit Kd.string _ 9 ?hg (N := 94) ?hd (xs := ([t189, (⟨#[]⟩ : ByteArray), t190] : List ByteArray)) (inner := [.string t189, .string (⟨#[]⟩ : ByteArray), .string t190]) (ok := fun _ => True) (okp := fun _ => True) ?hr ?hp (fun _ hk => hk) trivial (Below.refl _ _) (Nat.le_refl _) (by simp) ?_; (case hd => rfl); (case hg => rfl); (case hr => first | (go_simp; done) | (go_simp; rfl)); (case hp => exact (Reps.one (show Kd.M Kd.string _ _ _ t189 [.string t189] from rfl) (Reps.one (show Kd.M Kd.string _ _ _ (⟨#[]⟩ : ByteArray) [.string (⟨#[]⟩ : ByteArray)] from rfl) (Reps.one (show Kd.M Kd.string _ _ _ t190 [.string t190] from rfl) (Reps.none _ _))))); intro v192 w37 ho38 hb hg_ hnew_; clear hg_ hnew_; (first | rw [← Ny191.out] at ho38 | (simp only [Int.reduceToNat] at ho38; rw [← Ny191.out] at ho38)); have n0_ := Aside0.mk (Kd.R_below (by (with_reducible repeat (first | apply Kd.R_alloc | apply Kd.R_drewN | apply Kd.R_drew)); exact HO185.out) hb); have n1_ := Aside0.mk (Kd.R_below (by (with_reducible repeat (first | apply Kd.R_alloc | apply Kd.R_drewN | apply Kd.R_drew)); exact HO187.out) hb); have n2_ := Aside0.mk (Kd.R_lower ho38 (below_size (by repeat (first | (with_reducible first | exact HB.out | apply below_alloc | apply pw_below_drewN | apply below_drew1) | exact HB.out)))); have n3_ := Aside0.mk (below_step (by repeat (first | (with_reducible first | exact HB.out | apply below_alloc | apply pw_below_drewN | apply below_drew1) | exact HB.out)) hb); clear HO185; clear HO187; clear HB; have HO185 := n0_; have HO187 := n1_; have HO193 := n2_; have HB := n3_; clear n0_ n1_ n2_ n3_; clear hb ho38; obtain ⟨Ao39, co39, eo39⟩ := Kd.R_slice HO193.out; subst eo39) | (go_at_call 11; (with_reducible refine (utf8_Decode.calls kj12 a0 _ _ y191 t194 t195 t196 _ (by first | exact hG | exact Glob.drewN hG | exact Glob.below hG (by repeat (first | (with_reducible first | exact HB.out | apply below_alloc | apply pw_below_drewN | apply below_drew1) | exact HB.out))) ?side1 ?side2 A30.out).mono ?_); (case side1 => repeat (first | exact (Kd.R_reads' HO193.out).2.2 | (with_reducible refine Kd.C_alloc ?_ _) | (with_reducible refine Kd.C_drewN ?_ _) | (with_reducible refine Kd.C_drew ?_))); (case side2 => exact (Kd.R_reads' HO193.out).2.1); rintro e w40 ⟨v197, v199, rfl, ho0, ho1, hb⟩; have n0_ := Aside0.mk (Kd.R_elder' (by (with_reducible repeat (first | apply Kd.R_alloc | apply Kd.R_drewN | apply Kd.R_drew)); exact HO185.out) (Kd.R_base ho0) hb); have n1_ := Aside0.mk (Kd.R_elder' (by (with_reducible repeat (first | apply Kd.R_alloc | apply Kd.R_drewN | apply Kd.R_drew)); exact HO187.out) (Kd.R_base ho1) hb); have n2_ := Aside0.mk (Kd.R_below (by (with_reducible repeat (first | apply Kd.R_alloc | apply Kd.R_drewN | apply Kd.R_drew)); exact HO193.out) hb); have n3_ := Aside0.mk (Kd.R_lower (Kd.R_new' ho0 (Kd.R_lt (by (with_reducible repeat (first | apply Kd.R_alloc | apply Kd.R_drewN | apply Kd.R_drew)); exact HO185.out))) (below_size (by repeat (first | (with_reducible first | exact HB.out | apply below_alloc | apply pw_below_drewN | apply below_drew1) | exact HB.out)))); have n4_ := Aside0.mk (Kd.R_lower (Kd.R_new' ho1 (Kd.R_lt (by (with_reducible repeat (first | apply Kd.R_alloc | apply Kd.R_drewN | apply Kd.R_drew)); exact HO187.out))) (below_size (by repeat (first | (with_reducible first | exact HB.out | apply below_alloc | apply pw_below_drewN | apply below_drew1) | exact HB.out)))); have n5_ := Aside0.mk (below_step (by repeat (first | (with_reducible first | exact HB.out | apply below_alloc | apply pw_below_drewN | apply below_drew1) | exact HB.out)) hb); clear HO185; clear HO187; clear HO193; clear HB; have HO185 := n0_; have HO187 := n1_; have HO193 := n2_; have HO198 := n3_; have HO200 := n4_; have HB := n5_; clear n0_ n1_ n2_ n3_ n4_ n5_; (try clear hb); (try clear hb2); (try clear hk); (try clear hi); (try clear ho0); (try clear ho1)) | (go_at_call 8; (with_reducible refine (inkhorntop_quillDecode.calls kj12 5 a0 (a1.extract 0 ((ji5) : Int).toNat) 0 t201 t202 t203 _ A31.out).mono ?_); rintro e w41 ⟨v204, v206, rfl, ho0, ho1, hb⟩; have n0_ := Aside0.mk (Kd.R_elder' (by (with_reducible repeat (first | apply Kd.R_alloc | apply Kd.R_drewN | apply Kd.R_drew)); exact HO185.out) (Kd.R_base ho0) hb); have n1_ := Aside0.mk (Kd.R_elder' (by (with_reducible repeat (first | apply Kd.R_alloc | apply Kd.R_drewN | apply Kd.R_drew)); exact HO187.out) (Kd.R_base ho1) hb); have n2_ := Aside0.mk (Kd.R_below (by (with_reducible repeat (first | apply Kd.R_alloc | apply Kd.R_drewN | apply Kd.R_drew)); exact HO193.out) hb); have n3_ := Aside0.mk (Kd.R_elder' (by (with_reducible repeat (first | apply Kd.R_alloc | apply Kd.R_drewN | apply Kd.R_drew)); exact HO198.out) (Kd.R_base ho0) hb); have n4_ := Aside0.mk (Kd.R_elder' (by (with_reducible repeat (first | apply Kd.R_alloc | apply Kd.R_drewN | apply Kd.R_drew)); exact HO200.out) (Kd.R_base ho1) hb); have n5_ := Aside0.mk (Kd.R_lower (Kd.R_new' (Kd.R_new' ho0 (Kd.R_lt (by (with_reducible repeat (first | apply Kd.R_alloc | apply Kd.R_drewN | apply Kd.R_drew)); exact HO185.out))) (Kd.R_lt (by (with_reducible repeat (first | apply Kd.R_alloc | apply Kd.R_drewN | apply Kd.R_drew)); exact HO198.out))) (below_size (by repeat (first | (with_reducible first | exact HB.out | apply below_alloc | apply pw_below_drewN | apply below_drew1) | exact HB.out)))); have n6_ := Aside0.mk (Kd.R_lower (Kd.R_new' (Kd.R_new' ho1 (Kd.R_lt (by (with_reducible repeat (first | apply Kd.R_alloc | apply Kd.R_drewN | apply Kd.R_drew)); exact HO187.out))) (Kd.R_lt (by (with_reducible repeat (first | apply Kd.R_alloc | apply Kd.R_drewN | apply Kd.R_drew)); exact HO200.out))) (below_size (by repeat (first | (with_reducible first | exact HB.out | apply below_alloc | apply pw_below_drewN | apply below_drew1) | exact HB.out)))); have n7_ := Aside0.mk (below_step (by repeat (first | (with_reducible first | exact HB.out | apply below_alloc | apply pw_below_drewN | apply below_drew1) | exact HB.out)) hb); clear HO185; clear HO187; clear HO193; clear HO198; clear HO200; clear HB; have HO185 := n0_; have HO187 := n1_; have HO193 := n2_; have HO198 := n3_; have HO200 := n4_; have HO205 := n5_; have HO207 := n6_; have HB := n7_; clear n0_ n1_ n2_ n3_ n4_ n5_ n6_ n7_; (try clear hb); (try clear hb2); (try clear hk); (try clear hi); (try clear ho0); (try clear ho1)) | (go_at_call 12; (with_reducible refine (inkhorntop_quillIs.calls a0 3 t208 _ A32.out).mono ?_); rintro e w' ⟨rfl, ⟨nd, rfl⟩⟩; (try first | exact ⟨rfl, _, World.drewN_drewN _ _ _⟩ | exact ⟨rfl, _, Eq.trans (World.drewN_drewN _ _ _) (congrArg (World.drewN _) (Nat.add_assoc _ _ _))⟩)))
                  repeat (go_quiet (first | (go_at_call 8; (with_reducible refine (inkhorntop_quillDecode.calls kj12 5 3 (a1.extract 0 ((ji5) : Int).toNat) 0 t181 t182 t183 _ A23.out).mono ?_); rintro e w34 ⟨v184, v186, rfl, ho0, ho1, hb⟩; have n0_ := Aside0.mk (Kd.R_lower ho0 (below_size (by repeat (first | (with_reducible first | exact HB.out | apply below_alloc | apply pw_below_drewN | apply below_drew1) | exact HB.out)))); have n1_ := Aside0.mk (Kd.R_lower ho1 (below_size (by repeat (first | (with_reducible first | exact HB.out | apply below_alloc | apply pw_below_drewN | apply below_drew1) | exact HB.out)))); have n2_ := Aside0.mk (below_step (by repeat (first | (with_reducible first | exact HB.out | apply below_alloc | apply pw_below_drewN | apply below_drew1) | exact HB.out)) hb); clear HB; have HO185 := n0_; have HO187 := n1_; have HB := n2_; clear n0_ n1_ n2_; (try clear hb); (try clear hb2); (try clear hk); (try clear hi); (try clear ho0); (try clear ho1)) | (go_at_call 9; (with_reducible refine (utf8_Valid.calls kj12 (a1.extract 0 ((ji5) : Int).toNat) t188 _ (by first | exact hG | exact Glob.drewN hG | exact Glob.below hG (by repeat (first | (with_reducible first | exact HB.out | apply below_alloc | apply pw_below_drewN | apply below_drew1) | exact HB.out))) A24.out).mono ?_); rintro e w35 ⟨rfl, hb⟩; have n0_ := Aside0.mk (Kd.R_below (by (with_reducible repeat (first | apply Kd.R_alloc | apply Kd.R_drewN | apply Kd.R_drew)); exact HO185.out) hb); have n1_ := Aside0.mk (Kd.R_below (by (with_reducible repeat (first | apply Kd.R_alloc | apply Kd.R_drewN | apply Kd.R_drew)); exact HO187.out) hb); have n2_ := Aside0.mk (below_step (by repeat (first | (with_reducible first | exact HB.out | apply below_alloc | apply pw_below_drewN | apply below_drew1) | exact HB.out)) hb); clear HO185; clear HO187; clear HB; have HO185 := n0_; have HO187 := n1_; have HB := n2_; clear n0_ n1_ n2_; (try clear hb); (try clear hb2); (try clear hk); (try clear hi); obtain ⟨Ao36, co36, eo36⟩ := Kd.R_slice HO187.out; subst eo36) | (go_at_call 10; (with_reducible refine (inkhorntop_quillSplit.calls (a1.extract 0 ((ji5) : Int).toNat) a2 t189 t190 _ A29.out).mono ?_); rintro e w' ⟨rfl, ⟨nd, rfl⟩⟩; (try first | exact ⟨rfl, _, World.drewN_drewN _ _ _⟩ | exact ⟨rfl, _, Eq.trans (World.drewN_drewN _ _ _) (congrArg (World.drewN _) (Nat.add_assoc _ _ _))⟩)) | ((with_reducible refine gate_dst (N := 94) rfl ?_); refine Kd.R_lit Kd.string _ 9 ?hg (N := 94) ?hd (xs := ([t189, (⟨#[]⟩ : ByteArray), t190] : List ByteArray)) (inner := [.string t189, .string (⟨#[]⟩ : ByteArray), .string t190]) (ok := fun _ => True) (okp := fun _ => True) ?hr ?hp (fun _ hk => hk) trivial (Below.refl _ _) (Nat.le_refl _) (by simp) ?_; (case hd => rfl); (case hg => rfl); (case hr => first | (go_simp; done) | (go_simp; rfl)); (case hp => exact (Reps.one (show Kd.M Kd.string _ _ _ t189 [.string t189] from rfl) (Reps.one (show Kd.M Kd.string _ _ _ (⟨#[]⟩ : ByteArray) [.string (⟨#[]⟩ : ByteArray)] from rfl) (Reps.one (show Kd.M Kd.string _ _ _ t190 [.string t190] from rfl) (Reps.none _ _))))); intro v192 w37 ho38 hb hg_ hnew_; clear hg_ hnew_; (first | rw [← Ny191.out] at ho38 | (simp only [Int.reduceToNat] at ho38; rw [← Ny191.out] at ho38)); have n0_ := Aside0.mk (Kd.R_below (by (with_reducible repeat (first | apply Kd.R_alloc | apply Kd.R_drewN | apply Kd.R_drew)); exact HO185.out) hb); have n1_ := Aside0.mk (Kd.R_below (by (with_reducible repeat (first | apply Kd.R_alloc | apply Kd.R_drewN | apply Kd.R_drew)); exact HO187.out) hb); have n2_ := Aside0.mk (Kd.R_lower ho38 (below_size (by repeat (first | (with_reducible first | exact HB.out | apply below_alloc | apply pw_below_drewN | apply below_drew1) | exact HB.out)))); have n3_ := Aside0.mk (below_step (by repeat (first | (with_reducible first | exact HB.out | apply below_alloc | apply pw_below_drewN | apply below_drew1) | exact HB.out)) hb); clear HO185; clear HO187; clear HB; have HO185 := n0_; have HO187 := n1_; have HO193 := n2_; have HB := n3_; clear n0_ n1_ n2_ n3_; clear hb ho38; obtain ⟨Ao39, co39, eo39⟩ := Kd.R_slice HO193.out; subst eo39) | (go_at_call 11; (with_reducible refine (utf8_Decode.calls kj12 a0 _ _ y191 t194 t195 t196 _ (by first | exact hG | exact Glob.drewN hG | exact Glob.below hG (by repeat (first | (with_reducible first | exact HB.out | apply below_alloc | apply pw_below_drewN | apply below_drew1) | exact HB.out))) ?side1 ?side2 A30.out).mono ?_); (case side1 => repeat (first | exact (Kd.R_reads' HO193.out).2.2 | (with_reducible refine Kd.C_alloc ?_ _) | (with_reducible refine Kd.C_drewN ?_ _) | (with_reducible refine Kd.C_drew ?_))); (case side2 => exact (Kd.R_reads' HO193.out).2.1); rintro e w40 ⟨v197, v199, rfl, ho0, ho1, hb⟩; have n0_ := Aside0.mk (Kd.R_elder' (by (with_reducible repeat (first | apply Kd.R_alloc | apply Kd.R_drewN | apply Kd.R_drew)); exact HO185.out) (Kd.R_base ho0) hb); have n1_ := Aside0.mk (Kd.R_elder' (by (with_reducible repeat (first | apply Kd.R_alloc | apply Kd.R_drewN | apply Kd.R_drew)); exact HO187.out) (Kd.R_base ho1) hb); have n2_ := Aside0.mk (Kd.R_below (by (with_reducible repeat (first | apply Kd.R_alloc | apply Kd.R_drewN | apply Kd.R_drew)); exact HO193.out) hb); have n3_ := Aside0.mk (Kd.R_lower (Kd.R_new' ho0 (Kd.R_lt (by (with_reducible repeat (first | apply Kd.R_alloc | apply Kd.R_drewN | apply Kd.R_drew)); exact HO185.out))) (below_size (by repeat (first | (with_reducible first | exact HB.out | apply below_alloc | apply pw_below_drewN | apply below_drew1) | exact HB.out)))); have n4_ := Aside0.mk (Kd.R_lower (Kd.R_new' ho1 (Kd.R_lt (by (with_reducible repeat (first | apply Kd.R_alloc | apply Kd.R_drewN | apply Kd.R_drew)); exact HO187.out))) (below_size (by repeat (first | (with_reducible first | exact HB.out | apply below_alloc | apply pw_below_drewN | apply below_drew1) | exact HB.out)))); have n5_ := Aside0.mk (below_step (by repeat (first | (with_reducible first | exact HB.out | apply below_alloc | apply pw_below_drewN | apply below_drew1) | exact HB.out)) hb); clear HO185; clear HO187; clear HO193; clear HB; have HO185 := n0_; have HO187 := n1_; have HO193 := n2_; have HO198 := n3_; have HO200 := n4_; have HB := n5_; clear n0_ n1_ n2_ n3_ n4_ n5_; (try clear hb); (try clear hb2); (try clear hk); (try clear hi); (try clear ho0); (try clear ho1)) | (go_at_call 8; (with_reducible refine (inkhorntop_quillDecode.calls kj12 5 a0 (a1.extract 0 ((ji5) : Int).toNat) 0 t201 t202 t203 _ A31.out).mono ?_); rintro e w41 ⟨v204, v206, rfl, ho0, ho1, hb⟩; have n0_ := Aside0.mk (Kd.R_elder' (by (with_reducible repeat (first | apply Kd.R_alloc | apply Kd.R_drewN | apply Kd.R_drew)); exact HO185.out) (Kd.R_base ho0) hb); have n1_ := Aside0.mk (Kd.R_elder' (by (with_reducible repeat (first | apply Kd.R_alloc | apply Kd.R_drewN | apply Kd.R_drew)); exact HO187.out) (Kd.R_base ho1) hb); have n2_ := Aside0.mk (Kd.R_below (by (with_reducible repeat (first | apply Kd.R_alloc | apply Kd.R_drewN | apply Kd.R_drew)); exact HO193.out) hb); have n3_ := Aside0.mk (Kd.R_elder' (by (with_reducible repeat (first | apply Kd.R_alloc | apply Kd.R_drewN | apply Kd.R_drew)); exact HO198.out) (Kd.R_base ho0) hb); have n4_ := Aside0.mk (Kd.R_elder' (by (with_reducible repeat (first | apply Kd.R_alloc | apply Kd.R_drewN | apply Kd.R_drew)); exact HO200.out) (Kd.R_base ho1) hb); have n5_ := Aside0.mk (Kd.R_lower (Kd.R_new' (Kd.R_new' ho0 (Kd.R_lt (by (with_reducible repeat (first | apply Kd.R_alloc | apply Kd.R_drewN | apply Kd.R_drew)); exact HO185.out))) (Kd.R_lt (by (with_reducible repeat (first | apply Kd.R_alloc | apply Kd.R_drewN | apply Kd.R_drew)); exact HO198.out))) (below_size (by repeat (first | (with_reducible first | exact HB.out | apply below_alloc | apply pw_below_drewN | apply below_drew1) | exact HB.out)))); have n6_ := Aside0.mk (Kd.R_lower (Kd.R_new' (Kd.R_new' ho1 (Kd.R_lt (by (with_reducible repeat (first | apply Kd.R_alloc | apply Kd.R_drewN | apply Kd.R_drew)); exact HO187.out))) (Kd.R_lt (by (with_reducible repeat (first | apply Kd.R_alloc | apply Kd.R_drewN | apply Kd.R_drew)); exact HO200.out))) (below_size (by repeat (first | (with_reducible first | exact HB.out | apply below_alloc | apply pw_below_drewN | apply below_drew1) | exact HB.out)))); have n7_ := Aside0.mk (below_step (by repeat (first | (with_reducible first | exact HB.out | apply below_alloc | apply pw_below_drewN | apply below_drew1) | exact HB.out)) hb); clear HO185; clear HO187; clear HO193; clear HO198; clear HO200; clear HB; have HO185 := n0_; have HO187 := n1_; have HO193 := n2_; have HO198 := n3_; have HO200 := n4_; have HO205 := n5_; have HO207 := n6_; have HB := n7_; clear n0_ n1_ n2_ n3_ n4_ n5_ n6_ n7_; (try clear hb); (try clear hb2); (try clear hk); (try clear hi); (try clear ho0); (try clear ho1)) | (go_at_call 12; (with_reducible refine (inkhorntop_quillIs.calls a0 3 t208 _ A32.out).mono ?_); rintro e w' ⟨rfl, ⟨nd, rfl⟩⟩; (try first | exact ⟨rfl, _, World.drewN_drewN _ _ _⟩ | exact ⟨rfl, _, Eq.trans (World.drewN_drewN _ _ _) (congrArg (World.drewN _) (Nat.add_assoc _ _ _))⟩))); go_upto_if 108 with (first | (go_at_call 8; (with_reducible refine (inkhorntop_quillDecode.calls kj12 5 3 (a1.extract 0 ((ji5) : Int).toNat) 0 t181 t182 t183 _ A23.out).mono ?_); rintro e w34 ⟨v184, v186, rfl, ho0, ho1, hb⟩; have n0_ := Aside0.mk (Kd.R_lower ho0 (below_size (by repeat (first | (with_reducible first | exact HB.out | apply below_alloc | apply pw_below_drewN | apply below_drew1) | exact HB.out)))); have n1_ := Aside0.mk (Kd.R_lower ho1 (below_size (by repeat (first | (with_reducible first | exact HB.out | apply below_alloc | apply pw_below_drewN | apply below_drew1) | exact HB.out)))); have n2_ := Aside0.mk (below_step (by repeat (first | (with_reducible first | exact HB.out | apply below_alloc | apply pw_below_drewN | apply below_drew1) | exact HB.out)) hb); clear HB; have HO185 := n0_; have HO187 := n1_; have HB := n2_; clear n0_ n1_ n2_; (try clear hb); (try clear hb2); (try clear hk); (try clear hi); (try clear ho0); (try clear ho1)) | (go_at_call 9; (with_reducible refine (utf8_Valid.calls kj12 (a1.extract 0 ((ji5) : Int).toNat) t188 _ (by first | exact hG | exact Glob.drewN hG | exact Glob.below hG (by repeat (first | (with_reducible first | exact HB.out | apply below_alloc | apply pw_below_drewN | apply below_drew1) | exact HB.out))) A24.out).mono ?_); rintro e w35 ⟨rfl, hb⟩; have n0_ := Aside0.mk (Kd.R_below (by (with_reducible repeat (first | apply Kd.R_alloc | apply Kd.R_drewN | apply Kd.R_drew)); exact HO185.out) hb); have n1_ := Aside0.mk (Kd.R_below (by (with_reducible repeat (first | apply Kd.R_alloc | apply Kd.R_drewN | apply Kd.R_drew)); exact HO187.out) hb); have n2_ := Aside0.mk (below_step (by repeat (first | (with_reducible first | exact HB.out | apply below_alloc | apply pw_below_drewN | apply below_drew1) | exact HB.out)) hb); clear HO185; clear HO187; clear HB; have HO185 := n0_; have HO187 := n1_; have HB := n2_; clear n0_ n1_ n2_; (try clear hb); (try clear hb2); (try clear hk); (try clear hi); obtain ⟨Ao36, co36, eo36⟩ := Kd.R_slice HO187.out; subst eo36) | (go_at_call 10; (with_reducible refine (inkhorntop_quillSplit.calls (a1.extract 0 ((ji5) : Int).toNat) a2 t189 t190 _ A29.out).mono ?_); rintro e w' ⟨rfl, ⟨nd, rfl⟩⟩; (try first | exact ⟨rfl, _, World.drewN_drewN _ _ _⟩ | exact ⟨rfl, _, Eq.trans (World.drewN_drewN _ _ _) (congrArg (World.drewN _) (Nat.add_assoc _ _ _))⟩)) | ((with_reducible refine gate_dst (N := 94) rfl ?_); refine Kd.R_lit Kd.string _ 9 ?hg (N := 94) ?hd (xs := ([t189, (⟨#[]⟩ : ByteArray), t190] : List ByteArray)) (inner := [.string t189, .string (⟨#[]⟩ : ByteArray), .string t190]) (ok := fun _ => True) (okp := fun _ => True) ?hr ?hp (fun _ hk => hk) trivial (Below.refl _ _) (Nat.le_refl _) (by simp) ?_; (case hd => rfl); (case hg => rfl); (case hr => first | (go_simp; done) | (go_simp; rfl)); (case hp => exact (Reps.one (show Kd.M Kd.string _ _ _ t189 [.string t189] from rfl) (Reps.one (show Kd.M Kd.string _ _ _ (⟨#[]⟩ : ByteArray) [.string (⟨#[]⟩ : ByteArray)] from rfl) (Reps.one (show Kd.M Kd.string _ _ _ t190 [.string t190] from rfl) (Reps.none _ _))))); intro v192 w37 ho38 hb hg_ hnew_; clear hg_ hnew_; (first | rw [← Ny191.out] at ho38 | (simp only [Int.reduceToNat] at ho38; rw [← Ny191.out] at ho38)); have n0_ := Aside0.mk (Kd.R_below (by (with_reducible repeat (first | apply Kd.R_alloc | apply Kd.R_drewN | apply Kd.R_drew)); exact HO185.out) hb); have n1_ := Aside0.mk (Kd.R_below (by (with_reducible repeat (first | apply Kd.R_alloc | apply Kd.R_drewN | apply Kd.R_drew)); exact HO187.out) hb); have n2_ := Aside0.mk (Kd.R_lower ho38 (below_size (by repeat (first | (with_reducible first | exact HB.out | apply below_alloc | apply pw_below_drewN | apply below_drew1) | exact HB.out)))); have n3_ := Aside0.mk (below_step (by repeat (first | (with_reducible first | exact HB.out | apply below_alloc | apply pw_below_drewN | apply below_drew1) | exact HB.out)) hb); clear HO185; clear HO187; clear HB; have HO185 := n0_; have HO187 := n1_; have HO193 := n2_; have HB := n3_; clear n0_ n1_ n2_ n3_; clear hb ho38; obtain ⟨Ao39, co39, eo39⟩ := Kd.R_slice HO193.out; subst eo39) | (go_at_call 11; (with_reducible refine (utf8_Decode.calls kj12 a0 _ _ y191 t194 t195 t196 _ (by first | exact hG | exact Glob.drewN hG | exact Glob.below hG (by repeat (first | (with_reducible first | exact HB.out | apply below_alloc | apply pw_below_drewN | apply below_drew1) | exact HB.out))) ?side1 ?side2 A30.out).mono ?_); (case side1 => repeat (first | exact (Kd.R_reads' HO193.out).2.2 | (with_reducible refine Kd.C_alloc ?_ _) | (with_reducible refine Kd.C_drewN ?_ _) | (with_reducible refine Kd.C_drew ?_))); (case side2 => exact (Kd.R_reads' HO193.out).2.1); rintro e w40 ⟨v197, v199, rfl, ho0, ho1, hb⟩; have n0_ := Aside0.mk (Kd.R_elder' (by (with_reducible repeat (first | apply Kd.R_alloc | apply Kd.R_drewN | apply Kd.R_drew)); exact HO185.out) (Kd.R_base ho0) hb); have n1_ := Aside0.mk (Kd.R_elder' (by (with_reducible repeat (first | apply Kd.R_alloc | apply Kd.R_drewN | apply Kd.R_drew)); exact HO187.out) (Kd.R_base ho1) hb); have n2_ := Aside0.mk (Kd.R_below (by (with_reducible repeat (first | apply Kd.R_alloc | apply Kd.R_drewN | apply Kd.R_drew)); exact HO193.out) hb); have n3_ := Aside0.mk (Kd.R_lower (Kd.R_new' ho0 (Kd.R_lt (by (with_reducible repeat (first | apply Kd.R_alloc | apply Kd.R_drewN | apply Kd.R_drew)); exact HO185.out))) (below_size (by repeat (first | (with_reducible first | exact HB.out | apply below_alloc | apply pw_below_drewN | apply below_drew1) | exact HB.out)))); have n4_ := Aside0.mk (Kd.R_lower (Kd.R_new' ho1 (Kd.R_lt (by (with_reducible repeat (first | apply Kd.R_alloc | apply Kd.R_drewN | apply Kd.R_drew)); exact HO187.out))) (below_size (by repeat (first | (with_reducible first | exact HB.out | apply below_alloc | apply pw_below_drewN | apply below_drew1) | exact HB.out)))); have n5_ := Aside0.mk (below_step (by repeat (first | (with_reducible first | exact HB.out | apply below_alloc | apply pw_below_drewN | apply below_drew1) | exact HB.out)) hb); clear HO185; clear HO187; clear HO193; clear HB; have HO185 := n0_; have HO187 := n1_; have HO193 := n2_; have HO198 := n3_; have HO200 := n4_; have HB := n5_; clear n0_ n1_ n2_ n3_ n4_ n5_; (try clear hb); (try clear hb2); (try clear hk); (try clear hi); (try clear ho0); (try clear ho1)) | (go_at_call 8; (with_reducible refine (inkhorntop_quillDecode.calls kj12 5 a0 (a1.extract 0 ((ji5) : Int).toNat) 0 t201 t202 t203 _ A31.out).mono ?_); rintro e w41 ⟨v204, v206, rfl, ho0, ho1, hb⟩; have n0_ := Aside0.mk (Kd.R_elder' (by (with_reducible repeat (first | apply Kd.R_alloc | apply Kd.R_drewN | apply Kd.R_drew)); exact HO185.out) (Kd.R_base ho0) hb); have n1_ := Aside0.mk (Kd.R_elder' (by (with_reducible repeat (first | apply Kd.R_alloc | apply Kd.R_drewN | apply Kd.R_drew)); exact HO187.out) (Kd.R_base ho1) hb); have n2_ := Aside0.mk (Kd.R_below (by (with_reducible repeat (first | apply Kd.R_alloc | apply Kd.R_drewN | apply Kd.R_drew)); exact HO193.out) hb); have n3_ := Aside0.mk (Kd.R_elder' (by (with_reducible repeat (first | apply Kd.R_alloc | apply Kd.R_drewN | apply Kd.R_drew)); exact HO198.out) (Kd.R_base ho0) hb); have n4_ := Aside0.mk (Kd.R_elder' (by (with_reducible repeat (first | apply Kd.R_alloc | apply Kd.R_drewN | apply Kd.R_drew)); exact HO200.out) (Kd.R_base ho1) hb); have n5_ := Aside0.mk (Kd.R_lower (Kd.R_new' (Kd.R_new' ho0 (Kd.R_lt (by (with_reducible repeat (first | apply Kd.R_alloc | apply Kd.R_drewN | apply Kd.R_drew)); exact HO185.out))) (Kd.R_lt (by (with_reducible repeat (first | apply Kd.R_alloc | apply Kd.R_drewN | apply Kd.R_drew)); exact HO198.out))) (below_size (by repeat (first | (with_reducible first | exact HB.out | apply below_alloc | apply pw_below_drewN | apply below_drew1) | exact HB.out)))); have n6_ := Aside0.mk (Kd.R_lower (Kd.R_new' (Kd.R_new' ho1 (Kd.R_lt (by (with_reducible repeat (first | apply Kd.R_alloc | apply Kd.R_drewN | apply Kd.R_drew)); exact HO187.out))) (Kd.R_lt (by (with_reducible repeat (first | apply Kd.R_alloc | apply Kd.R_drewN | apply Kd.R_drew)); exact HO200.out))) (below_size (by repeat (first | (with_reducible first | exact HB.out | apply below_alloc | apply pw_below_drewN | apply below_drew1) | exact HB.out)))); have n7_ := Aside0.mk (below_step (by repeat (first | (with_reducible first | exact HB.out | apply below_alloc | apply pw_below_drewN | apply below_drew1) | exact HB.out)) hb); clear HO185; clear HO187; clear HO193; clear HO198; clear HO200; clear HB; have HO185 := n0_; have HO187 := n1_; have HO193 := n2_; have HO198 := n3_; have HO200 := n4_; have HO205 := n5_; have HO207 := n6_; have HB := n7_; clear n0_ n1_ n2_ n3_ n4_ n5_ n6_ n7_; (try clear hb); (try clear hb2); (try clear hk); (try clear hi); (try clear ho0); (try clear ho1)) | (go_at_call 12; (with_reducible refine (inkhorntop_quillIs.calls a0 3 t208 _ A32.out).mono ?_); rintro e w' ⟨rfl, ⟨nd, rfl⟩⟩; (try first | exact ⟨rfl, _, World.drewN_drewN _ _ _⟩ | exact ⟨rfl, _, Eq.trans (World.drewN_drewN _ _ _) (congrArg (World.drewN _) (Nat.add_assoc _ _ _))⟩))))
                  (try simp only [Act.put, List.setIfInBounds_toArray, List.set_cons_zero, List.set_cons_succ])
                  go_cut [14, 22, 23] (fun v14 v22 v23 wc => ∃ (kq : Nat) (x14_32 : Int) (x22_32 : List Int) (x23_32 : List (S52)), v14 = .int .i64 x14_32 ∧ Aside0 (inkhorntop_TopUtf.j1 kq (l3.take ((ji8) : Int).toNat) t196 x14_32 t194 t195 x22_32 x23_32 = some r) ∧ Aside0 (kq ≤ kj12) ∧ Aside0 (Kd.R (Kd.int .i32) 21 wc w.heap.size (fun k_ => some k_ ≠ (v22 : Value).ownBlock) v197 t194) ∧ Aside0 (Kd.R k52 52 wc w.heap.size (fun k_ => some k_ ≠ (v23 : Value).ownBlock) v199 t195) ∧ Aside0 (Kd.R (Kd.int .i32) 21 wc w.heap.size (fun k_ => some k_ ≠ (v197 : Value).ownBlock) v22 x22_32) ∧ Aside0 (Kd.R k52 52 wc w.heap.size (fun k_ => some k_ ≠ (v199 : Value).ownBlock) v23 x23_32) ∧ Aside0 (Below w.heap.size w wc))
                  case first =>
                    have H := HC33.out
                    clear HC33
                    by_cases c42 : t208 = true
                    · subst c42
                      have H1 : (inkhorntop_TopUtf.j1 kj12 (l3.take ((ji8) : Int).toNat) t196 t203 t194 t195 t201 t202) = some r := by rw [if_pos rfl] at H; exact H
                      clear H
                      have H := H1
                      clear H1
                      have H' := Aside0.mk H
                      clear H
                      go_wp2
                      repeat (go_quiet (fail); try go_wp2)
                      go_meet
                      case rel => exact ⟨_, (t203), (t201), (t202), (by first | rfl | (simp; done) | (simp [*]; done)), H', ⟨by have := HJ12.out; first | omega | exact Nat.le_refl _⟩, ⟨by (with_reducible repeat (first | apply Kd.R_alloc | apply Kd.R_drewN | apply Kd.R_drew)); exact Kd.R_mono HO198.out (fun _ hk => hk.2)⟩, ⟨by (with_reducible repeat (first | apply Kd.R_alloc | apply Kd.R_drewN | apply Kd.R_drew)); exact Kd.R_mono HO200.out (fun _ hk => hk.2)⟩, ⟨by (with_reducible repeat (first | apply Kd.R_alloc | apply Kd.R_drewN | apply Kd.R_drew)); exact Kd.R_mono HO205.out (fun _ hk => hk.2)⟩, ⟨by (with_reducible repeat (first | apply Kd.R_alloc | apply Kd.R_drewN | apply Kd.R_drew)); exact Kd.R_mono HO207.out (fun _ hk => hk.2)⟩, ⟨by repeat (first | (with_reducible first | exact HB.out | apply below_alloc | apply pw_below_drewN | apply below_drew1) | exact HB.out)⟩⟩
                    · replace c42 := Bool.eq_false_iff.mpr c42
                      subst c42
                      have H1 : (inkhorntop_TopUtf.j1 kj12 (l3.take ((ji8) : Int).toNat) t196 16 t194 t195 ([] : List Int) ([] : List (S52))) = some r := by rw [if_neg (show ¬ (false = true) by decide)] at H; exact H
                      clear H
                      have H := H1
                      clear H1
                      have H' := Aside0.mk H
                      clear H
                      go_wp2
                      repeat (go_quiet (fail); try go_wp2)
                      go_meet
                      case rel => exact ⟨_, (16), (([] : List Int)), (([] : List (S52))), (by first | rfl | (simp; done) | (simp [*]; done)), H', ⟨by have := HJ12.out; first | omega | exact Nat.le_refl _⟩, ⟨by (with_reducible repeat (first | apply Kd.R_alloc | apply Kd.R_drewN | apply Kd.R_drew)); exact Kd.R_mono HO198.out (fun _ hk => (by simp [Value.ownBlock]))⟩, ⟨by (with_reducible repeat (first | apply Kd.R_alloc | apply Kd.R_drewN | apply Kd.R_drew)); exact Kd.R_mono HO200.out (fun _ hk => (by simp [Value.ownBlock]))⟩, ⟨by first | exact Kd.R_nil _ _ _ _ _ | exact Kd.N_nil _ _ _ _ _ | exact Kd.V_nil _ _ _ _ _ | exact Kd.Q_nil _ _ _ _ _ | exact Kd.S_nil _ _ _ _ _⟩, ⟨by first | exact Kd.R_nil _ _ _ _ _ | exact Kd.N_nil _ _ _ _ _ | exact Kd.V_nil _ _ _ _ _ | exact Kd.Q_nil _ _ _ _ _ | exact Kd.S_nil _ _ _ _ _⟩, ⟨by repeat (first | (with_reducible first | exact HB.out | apply below_alloc | apply pw_below_drewN | apply below_drew1) | exact HB.out)⟩⟩
                  case rest =>
                    clear HC33
                    try clear c1
                    try clear c2
                    try clear p2
                    try clear c3
                    try clear c4
                    try clear c6
                    try clear c6b0
                    try clear c6b1
                    try clear c7
                    try clear c7b0
                    try clear c7b1
                    try clear c9
                    try clear c9b0
                    try clear c9b1
                    try clear c10
                    try clear c10b0
                    try clear c10b1
                    try clear c16
                    try clear c16b0
                    try clear c16b1
                    try clear c17
                    try clear c17b0
                    try clear c17b1
                    try clear c18
                    try clear c18b0
                    try clear c18b1
                    try clear c22
                    try clear c25
                    try clear c25b0
                    try clear c25b1
                    try clear c25b2
                    try clear c42
                    try clear p2
                    obtain ⟨kq, x14_32, x22_32, x23_32, rfl, HA, HJ32, HO_20, HO_21, HO_22, HO_23, HB⟩ := hcut
                    cases kq with
                    | zero => exact absurd HA.out (by simp [inkhorntop_TopUtf.j1])
                    | succ kj32 =>
                      have H := HA.out
                      clear HA
                      simp only [inkhorntop_TopUtf.j1] at H
                      have HC43 := Aside0.mk H
                      clear H
                      go_upto_region 14 with (fail)
                      repeat (go_quiet (fail); go_upto_region 14 with (fail))
                      go_cut [123] (fun v123 wc => ∃ (kq : Nat) (x123_42 : Bool), v123 = .bool x123_42 ∧ Aside0 (inkhorntop_TopUtf.j2 kq (l3.take ((ji8) : Int).toNat) x123_42 = some r) ∧ Aside0 (kq ≤ kj32) ∧ Aside0 (Below w.heap.size w wc))
                      case first =>
                        have H := HC43.out
                        clear HC43
                        by_cases c44 : t196 = x14_32
                        · rw [if_pos c44] at H
                          have c44b0 : (t196 == x14_32) = true := beq_iff_eq.mpr c44
                          have c44b1 : (t196 != x14_32) = false := bne_eq_false_iff_eq.mpr c44
                          clear c44
                          (first | rw [c44b0] | (simp only [i64_w, i32_w]; rw [c44b0]) | skip)
                          replace H := Option.bind_eq_some_iff.mp H
                          obtain ⟨t209, A450, H⟩ := H
                          replace H : (if t209 = true then ((inkhorntop_quillFaults.f kj32 t195 x23_32).bind fun t210 => (inkhorntop_TopUtf.j2 kj32 (l3.take ((ji8) : Int).toNat) (!t210))) else (inkhorntop_TopUtf.j2 kj32 (l3.take ((ji8) : Int).toNat) true)) = some r := H
                          have A45 := Aside0.mk A450
                          clear A450
                          by_cases c46 : t209 = true
                          · subst c46
                            have H1 : ((inkhorntop_quillFaults.f kj32 t195 x23_32).bind fun t210 => (inkhorntop_TopUtf.j2 kj32 (l3.take ((ji8) : Int).toNat) (!t210))) = some r := by rw [if_pos rfl] at H; exact H
                            clear H
                            have H := H1
                            clear H1
                            replace H := Option.bind_eq_some_iff.mp H
                            obtain ⟨t210, A470, H⟩ := H
                            replace H : (inkhorntop_TopUtf.j2 kj32 (l3.take ((ji8) : Int).toNat) (!t210)) = some r := H
                            have A47 := Aside0.mk A470
                            clear A470
                            have H' := Aside0.mk H
                            clear H
                            obtain ⟨Ao48, co48, eo48⟩ := Kd.R_slice HO_20.out
                            subst eo48
                            obtain ⟨Ao49, co49, eo49⟩ := Kd.R_slice HO_22.out
                            subst eo49
                            go_wp2_with (first | (go_at_call 13; (with_reducible refine (inkhorntop_quillRunes.calls kj32 _ _ t194 _ _ x22_32 true _ ?side1 ?side2 ?side3 ?side4 A45.out).mono ?_); (case side1 => repeat (first | exact (Kd.R_reads' HO_20.out).2.2 | (with_reducible refine Kd.C_alloc ?_ _) | (with_reducible refine Kd.C_drewN ?_ _) | (with_reducible refine Kd.C_drew ?_))); (case side2 => exact (Kd.R_reads' HO_20.out).2.1); (case side3 => repeat (first | exact (Kd.R_reads' HO_22.out).2.2 | (with_reducible refine Kd.C_alloc ?_ _) | (with_reducible refine Kd.C_drewN ?_ _) | (with_reducible refine Kd.C_drew ?_))); (case side4 => exact (Kd.R_reads' HO_22.out).2.1); rintro e w50 ⟨rfl, hb⟩; have n0_ := Aside0.mk (Kd.R_below (by (with_reducible repeat (first | apply Kd.R_alloc | apply Kd.R_drewN | apply Kd.R_drew)); exact HO_20.out) hb); have n1_ := Aside0.mk (Kd.R_below (by (with_reducible repeat (first | apply Kd.R_alloc | apply Kd.R_drewN | apply Kd.R_drew)); exact HO_21.out) hb); have n2_ := Aside0.mk (Kd.R_below (by (with_reducible repeat (first | apply Kd.R_alloc | apply Kd.R_drewN | apply Kd.R_drew)); exact HO_22.out) hb); have n3_ := Aside0.mk (Kd.R_below (by (with_reducible repeat (first | apply Kd.R_alloc | apply Kd.R_drewN | apply Kd.R_drew)); exact HO_23.out) hb); have n4_ := Aside0.mk (below_step (by repeat (first | (with_reducible first | exact HB.out | apply below_alloc | apply pw_below_drewN | apply below_drew1) | exact HB.out)) hb); clear HO_20; clear HO_21; clear HO_22; clear HO_23; clear HB; have HO_20 := n0_; have HO_21 := n1_; have HO_22 := n2_; have HO_23 := n3_; have HB := n4_; clear n0_ n1_ n2_ n3_ n4_; (try clear hb); (try clear hb2); (try clear hk); (try clear hi); obtain ⟨Ao51, co51, eo51⟩ := Kd.R_slice HO_21.out; subst eo51; obtain ⟨Ao52, co52, eo52⟩ := Kd.R_slice HO_23.out; subst eo52) | (go_at_call 14; (with_reducible refine (inkhorntop_quillFaults.calls kj32 _ _ t195 _ _ x23_32 t210 _ ?side1 ?side2 ?side3 ?side4 A47.out).mono ?_); (case side1 => repeat (first | exact (Kd.R_reads' HO_21.out).2.2 | (with_reducible refine Kd.C_alloc ?_ _) | (with_reducible refine Kd.C_drewN ?_ _) | (with_reducible refine Kd.C_drew ?_))); (case side2 => exact (Kd.R_reads' HO_21.out).2.1); (case side3 => repeat (first | exact (Kd.R_reads' HO_23.out).2.2 | (with_reducible refine Kd.C_alloc ?_ _) | (with_reducible refine Kd.C_drewN ?_ _) | (with_reducible refine Kd.C_drew ?_))); (case side4 => exact (Kd.R_reads' HO_23.out).2.1); rintro e w' ⟨rfl, ⟨nd, rfl⟩⟩; (try first | exact ⟨rfl, _, World.drewN_drewN _ _ _⟩ | exact ⟨rfl, _, Eq.trans (World.drewN_drewN _ _ _) (congrArg (World.drewN _) (Nat.add_assoc _ _ _))⟩)))
                            repeat (go_quiet (first | (go_at_call 13; (with_reducible refine (inkhorntop_quillRunes.calls kj32 _ _ t194 _ _ x22_32 true _ ?side1 ?side2 ?side3 ?side4 A45.out).mono ?_); (case side1 => repeat (first | exact (Kd.R_reads' HO_20.out).2.2 | (with_reducible refine Kd.C_alloc ?_ _) | (with_reducible refine Kd.C_drewN ?_ _) | (with_reducible refine Kd.C_drew ?_))); (case side2 => exact (Kd.R_reads' HO_20.out).2.1); (case side3 => repeat (first | exact (Kd.R_reads' HO_22.out).2.2 | (with_reducible refine Kd.C_alloc ?_ _) | (with_reducible refine Kd.C_drewN ?_ _) | (with_reducible refine Kd.C_drew ?_))); (case side4 => exact (Kd.R_reads' HO_22.out).2.1); rintro e w50 ⟨rfl, hb⟩; have n0_ := Aside0.mk (Kd.R_below (by (with_reducible repeat (first | apply Kd.R_alloc | apply Kd.R_drewN | apply Kd.R_drew)); exact HO_20.out) hb); have n1_ := Aside0.mk (Kd.R_below (by (with_reducible repeat (first | apply Kd.R_alloc | apply Kd.R_drewN | apply Kd.R_drew)); exact HO_21.out) hb); have n2_ := Aside0.mk (Kd.R_below (by (with_reducible repeat (first | apply Kd.R_alloc | apply Kd.R_drewN | apply Kd.R_drew)); exact HO_22.out) hb); have n3_ := Aside0.mk (Kd.R_below (by (with_reducible repeat (first | apply Kd.R_alloc | apply Kd.R_drewN | apply Kd.R_drew)); exact HO_23.out) hb); have n4_ := Aside0.mk (below_step (by repeat (first | (with_reducible first | exact HB.out | apply below_alloc | apply pw_below_drewN | apply below_drew1) | exact HB.out)) hb); clear HO_20; clear HO_21; clear HO_22; clear HO_23; clear HB; have HO_20 := n0_; have HO_21 := n1_; have HO_22 := n2_; have HO_23 := n3_; have HB := n4_; clear n0_ n1_ n2_ n3_ n4_; (try clear hb); (try clear hb2); (try clear hk); (try clear hi); obtain ⟨Ao51, co51, eo51⟩ := Kd.R_slice HO_21.out; subst eo51; obtain ⟨Ao52, co52, eo52⟩ := Kd.R_slice HO_23.out; subst eo52) | (go_at_call 14; (with_reducible refine (inkhorntop_quillFaults.calls kj32 _ _ t195 _ _ x23_32 t210 _ ?side1 ?side2 ?side3 ?side4 A47.out).mono ?_); (case side1 => repeat (first | exact (Kd.R_reads' HO_21.out).2.2 | (with_reducible refine Kd.C_alloc ?_ _) | (with_reducible refine Kd.C_drewN ?_ _) | (with_reducible refine Kd.C_drew ?_))); (case side2 => exact (Kd.R_reads' HO_21.out).2.1); (case side3 => repeat (first | exact (Kd.R_reads' HO_23.out).2.2 | (with_reducible refine Kd.C_alloc ?_ _) | (with_reducible refine Kd.C_drewN ?_ _) | (with_reducible refine Kd.C_drew ?_))); (case side4 => exact (Kd.R_reads' HO_23.out).2.1); rintro e w' ⟨rfl, ⟨nd, rfl⟩⟩; (try first | exact ⟨rfl, _, World.drewN_drewN _ _ _⟩ | exact ⟨rfl, _, Eq.trans (World.drewN_drewN _ _ _) (congrArg (World.drewN _) (Nat.add_assoc _ _ _))⟩))); try go_wp2_with (first | (go_at_call 13; (with_reducible refine (inkhorntop_quillRunes.calls kj32 _ _ t194 _ _ x22_32 true _ ?side1 ?side2 ?side3 ?side4 A45.out).mono ?_); (case side1 => repeat (first | exact (Kd.R_reads' HO_20.out).2.2 | (with_reducible refine Kd.C_alloc ?_ _) | (with_reducible refine Kd.C_drewN ?_ _) | (with_reducible refine Kd.C_drew ?_))); (case side2 => exact (Kd.R_reads' HO_20.out).2.1); (case side3 => repeat (first | exact (Kd.R_reads' HO_22.out).2.2 | (with_reducible refine Kd.C_alloc ?_ _) | (with_reducible refine Kd.C_drewN ?_ _) | (with_reducible refine Kd.C_drew ?_))); (case side4 => exact (Kd.R_reads' HO_22.out).2.1); rintro e w50 ⟨rfl, hb⟩; have n0_ := Aside0.mk (Kd.R_below (by (with_reducible repeat (first | apply Kd.R_alloc | apply Kd.R_drewN | apply Kd.R_drew)); exact HO_20.out) hb); have n1_ := Aside0.mk (Kd.R_below (by (with_reducible repeat (first | apply Kd.R_alloc | apply Kd.R_drewN | apply Kd.R_drew)); exact HO_21.out) hb); have n2_ := Aside0.mk (Kd.R_below (by (with_reducible repeat (first | apply Kd.R_alloc | apply Kd.R_drewN | apply Kd.R_drew)); exact HO_22.out) hb); have n3_ := Aside0.mk (Kd.R_below (by (with_reducible repeat (first | apply Kd.R_alloc | apply Kd.R_drewN | apply Kd.R_drew)); exact HO_23.out) hb); have n4_ := Aside0.mk (below_step (by repeat (first | (with_reducible first | exact HB.out | apply below_alloc | apply pw_below_drewN | apply below_drew1) | exact HB.out)) hb); clear HO_20; clear HO_21; clear HO_22; clear HO_23; clear HB; have HO_20 := n0_; have HO_21 := n1_; have HO_22 := n2_; have HO_23 := n3_; have HB := n4_; clear n0_ n1_ n2_ n3_ n4_; (try clear hb); (try clear hb2); (try clear hk); (try clear hi); obtain ⟨Ao51, co51, eo51⟩ := Kd.R_slice HO_21.out; subst eo51; obtain ⟨Ao52, co52, eo52⟩ := Kd.R_slice HO_23.out; subst eo52) | (go_at_call 14; (with_reducible refine (inkhorntop_quillFaults.calls kj32 _ _ t195 _ _ x23_32 t210 _ ?side1 ?side2 ?side3 ?side4 A47.out).mono ?_); (case side1 => repeat (first | exact (Kd.R_reads' HO_21.out).2.2 | (with_reducible refine Kd.C_alloc ?_ _) | (with_reducible refine Kd.C_drewN ?_ _) | (with_reducible refine Kd.C_drew ?_))); (case side2 => exact (Kd.R_reads' HO_21.out).2.1); (case side3 => repeat (first | exact (Kd.R_reads' HO_23.out).2.2 | (with_reducible refine Kd.C_alloc ?_ _) | (with_reducible refine Kd.C_drewN ?_ _) | (with_reducible refine Kd.C_drew ?_))); (case side4 => exact (Kd.R_reads' HO_23.out).2.1); rintro e w' ⟨rfl, ⟨nd, rfl⟩⟩; (try first | exact ⟨rfl, _, World.drewN_drewN _ _ _⟩ | exact ⟨rfl, _, Eq.trans (World.drewN_drewN _ _ _) (congrArg (World.drewN _) (Nat.add_assoc _ _ _))⟩))))
                            go_meet
                            case rel => exact ⟨_, (!t210), (by first | rfl | (simp; done) | (simp [*]; done)), H', ⟨by have := HJ12.out; have := HJ32.out; first | omega | exact Nat.le_refl _⟩, ⟨by repeat (first | (with_reducible first | exact HB.out | apply below_alloc | apply pw_below_drewN | apply below_drew1) | exact HB.out)⟩⟩
                          · replace c46 := Bool.eq_false_iff.mpr c46
                            subst c46
                            have H1 : (inkhorntop_TopUtf.j2 kj32 (l3.take ((ji8) : Int).toNat) true) = some r := by rw [if_neg (show ¬ (false = true) by decide)] at H; exact H
                            clear H
                            have H := H1
                            clear H1
                            have H' := Aside0.mk H
                            clear H
                            obtain ⟨Ao53, co53, eo53⟩ := Kd.R_slice HO_20.out
                            subst eo53
                            obtain ⟨Ao54, co54, eo54⟩ := Kd.R_slice HO_22.out
                            subst eo54
                            go_wp2_with (first | (go_at_call 13; (with_reducible refine (inkhorntop_quillRunes.calls kj32 _ _ t194 _ _ x22_32 false _ ?side1 ?side2 ?side3 ?side4 A45.out).mono ?_); (case side1 => repeat (first | exact (Kd.R_reads' HO_20.out).2.2 | (with_reducible refine Kd.C_alloc ?_ _) | (with_reducible refine Kd.C_drewN ?_ _) | (with_reducible refine Kd.C_drew ?_))); (case side2 => exact (Kd.R_reads' HO_20.out).2.1); (case side3 => repeat (first | exact (Kd.R_reads' HO_22.out).2.2 | (with_reducible refine Kd.C_alloc ?_ _) | (with_reducible refine Kd.C_drewN ?_ _) | (with_reducible refine Kd.C_drew ?_))); (case side4 => exact (Kd.R_reads' HO_22.out).2.1); rintro e w55 ⟨rfl, hb⟩; have n0_ := Aside0.mk (Kd.R_below (by (with_reducible repeat (first | apply Kd.R_alloc | apply Kd.R_drewN | apply Kd.R_drew)); exact HO_20.out) hb); have n1_ := Aside0.mk (Kd.R_below (by (with_reducible repeat (first | apply Kd.R_alloc | apply Kd.R_drewN | apply Kd.R_drew)); exact HO_21.out) hb); have n2_ := Aside0.mk (Kd.R_below (by (with_reducible repeat (first | apply Kd.R_alloc | apply Kd.R_drewN | apply Kd.R_drew)); exact HO_22.out) hb); have n3_ := Aside0.mk (Kd.R_below (by (with_reducible repeat (first | apply Kd.R_alloc | apply Kd.R_drewN | apply Kd.R_drew)); exact HO_23.out) hb); have n4_ := Aside0.mk (below_step (by repeat (first | (with_reducible first | exact HB.out | apply below_alloc | apply pw_below_drewN | apply below_drew1) | exact HB.out)) hb); clear HO_20; clear HO_21; clear HO_22; clear HO_23; clear HB; have HO_20 := n0_; have HO_21 := n1_; have HO_22 := n2_; have HO_23 := n3_; have HB := n4_; clear n0_ n1_ n2_ n3_ n4_; (try clear hb); (try clear hb2); (try clear hk); (try clear hi)))
                            repeat (go_quiet (first | (go_at_call 13; (with_reducible refine (inkhorntop_quillRunes.calls kj32 _ _ t194 _ _ x22_32 false _ ?side1 ?side2 ?side3 ?side4 A45.out).mono ?_); (case side1 => repeat (first | exact (Kd.R_reads' HO_20.out).2.2 | (with_reducible refine Kd.C_alloc ?_ _) | (with_reducible refine Kd.C_drewN ?_ _) | (with_reducible refine Kd.C_drew ?_))); (case side2 => exact (Kd.R_reads' HO_20.out).2.1); (case side3 => repeat (first | exact (Kd.R_reads' HO_22.out).2.2 | (with_reducible refine Kd.C_alloc ?_ _) | (with_reducible refine Kd.C_drewN ?_ _) | (with_reducible refine Kd.C_drew ?_))); (case side4 => exact (Kd.R_reads' HO_22.out).2.1); rintro e w55 ⟨rfl, hb⟩; have n0_ := Aside0.mk (Kd.R_below (by (with_reducible repeat (first | apply Kd.R_alloc | apply Kd.R_drewN | apply Kd.R_drew)); exact HO_20.out) hb); have n1_ := Aside0.mk (Kd.R_below (by (with_reducible repeat (first | apply Kd.R_alloc | apply Kd.R_drewN | apply Kd.R_drew)); exact HO_21.out) hb); have n2_ := Aside0.mk (Kd.R_below (by (with_reducible repeat (first | apply Kd.R_alloc | apply Kd.R_drewN | apply Kd.R_drew)); exact HO_22.out) hb); have n3_ := Aside0.mk (Kd.R_below (by (with_reducible repeat (first | apply Kd.R_alloc | apply Kd.R_drewN | apply Kd.R_drew)); exact HO_23.out) hb); have n4_ := Aside0.mk (below_step (by repeat (first | (with_reducible first | exact HB.out | apply below_alloc | apply pw_below_drewN | apply below_drew1) | exact HB.out)) hb); clear HO_20; clear HO_21; clear HO_22; clear HO_23; clear HB; have HO_20 := n0_; have HO_21 := n1_; have HO_22 := n2_; have HO_23 := n3_; have HB := n4_; clear n0_ n1_ n2_ n3_ n4_; (try clear hb); (try clear hb2); (try clear hk); (try clear hi))); try go_wp2_with (first | (go_at_call 13; (with_reducible refine (inkhorntop_quillRunes.calls kj32 _ _ t194 _ _ x22_32 false _ ?side1 ?side2 ?side3 ?side4 A45.out).mono ?_); (case side1 => repeat (first | exact (Kd.R_reads' HO_20.out).2.2 | (with_reducible refine Kd.C_alloc ?_ _) | (with_reducible refine Kd.C_drewN ?_ _) | (with_reducible refine Kd.C_drew ?_))); (case side2 => exact (Kd.R_reads' HO_20.out).2.1); (case side3 => repeat (first | exact (Kd.R_reads' HO_22.out).2.2 | (with_reducible refine Kd.C_alloc ?_ _) | (with_reducible refine Kd.C_drewN ?_ _) | (with_reducible refine Kd.C_drew ?_))); (case side4 => exact (Kd.R_reads' HO_22.out).2.1); rintro e w55 ⟨rfl, hb⟩; have n0_ := Aside0.mk (Kd.R_below (by (with_reducible repeat (first | apply Kd.R_alloc | apply Kd.R_drewN | apply Kd.R_drew)); exact HO_20.out) hb); have n1_ := Aside0.mk (Kd.R_below (by (with_reducible repeat (first | apply Kd.R_alloc | apply Kd.R_drewN | apply Kd.R_drew)); exact HO_21.out) hb); have n2_ := Aside0.mk (Kd.R_below (by (with_reducible repeat (first | apply Kd.R_alloc | apply Kd.R_drewN | apply Kd.R_drew)); exact HO_22.out) hb); have n3_ := Aside0.mk (Kd.R_below (by (with_reducible repeat (first | apply Kd.R_alloc | apply Kd.R_drewN | apply Kd.R_drew)); exact HO_23.out) hb); have n4_ := Aside0.mk (below_step (by repeat (first | (with_reducible first | exact HB.out | apply below_alloc | apply pw_below_drewN | apply below_drew1) | exact HB.out)) hb); clear HO_20; clear HO_21; clear HO_22; clear HO_23; clear HB; have HO_20 := n0_; have HO_21 := n1_; have HO_22 := n2_; have HO_23 := n3_; have HB := n4_; clear n0_ n1_ n2_ n3_ n4_; (try clear hb); (try clear hb2); (try clear hk); (try clear hi))))
                            go_meet
                            case rel => exact ⟨_, (true), (by first | rfl | (simp; done) | (simp [*]; done)), H', ⟨by have := HJ12.out; have := HJ32.out; first | omega | exact Nat.le_refl _⟩, ⟨by repeat (first | (with_reducible first | exact HB.out | apply below_alloc | apply pw_below_drewN | apply below_drew1) | exact HB.out)⟩⟩
                        · rw [if_neg c44] at H
                          have c44b0 : (t196 == x14_32) = false := beq_eq_false_iff_ne.mpr c44
                          have c44b1 : (t196 != x14_32) = true := bne_iff_ne.mpr c44
                          (first | rw [c44b0] | (simp only [i64_w, i32_w]; rw [c44b0]) | skip)
                          have H' := Aside0.mk H
                          clear H
                          go_wp2
                          repeat (go_quiet (fail); try go_wp2)
                          go_meet
                          case rel => exact ⟨_, (true), (by first | rfl | (simp; done) | (simp [*]; done)), H', ⟨by have := HJ12.out; have := HJ32.out; first | omega | exact Nat.le_refl _⟩, ⟨by repeat (first | (with_reducible first | exact HB.out | apply below_alloc | apply pw_below_drewN | apply below_drew1) | exact HB.out)⟩⟩
                      case rest =>
                        clear HC43
                        try clear c1
                        try clear c2
                        try clear p2
                        try clear c3
                        try clear c4
                        try clear c6
                        try clear c6b0
                        try clear c6b1
                        try clear c7
                        try clear c7b0
                        try clear c7b1
                        try clear c9
                        try clear c9b0
                        try clear c9b1
                        try clear c10
                        try clear c10b0
                        try clear c10b1
                        try clear c16
                        try clear c16b0
                        try clear c16b1
                        try clear c17
                        try clear c17b0
                        try clear c17b1
                        try clear c18
                        try clear c18b0
                        try clear c18b1
                        try clear c22
                        try clear c25
                        try clear c25b0
                        try clear c25b1
                        try clear c25b2
                        try clear c42
                        try clear c44
                        try clear c44b0
                        try clear c44b1
                        try clear c46
                        try clear p2
                        obtain ⟨kq, x123_42, rfl, HA, HJ42, HB⟩ := hcut
                        cases kq with
                        | zero => exact absurd HA.out (by simp [inkhorntop_TopUtf.j2])
                        | succ kj42 =>
                          have H := HA.out
                          clear HA
                          simp only [inkhorntop_TopUtf.j2] at H
                          by_cases c56 : x123_42 = true
                          · subst c56
                            have H1 : (some false) = some r := by rw [if_pos rfl] at H; exact H
                            clear H
                            have H := H1
                            clear H1
                            obtain rfl := Option.some.inj H
                            go_wp2
                            repeat (go_quiet (fail); try go_wp2)
                            go_ret
                            exact ⟨by first | rfl | (simp [errW_none, errW_some] <;> rfl) | (simp only [← hji5, ← hji8]; first | rfl | (simp [errW_none, errW_some] <;> rfl)) | (simp [*, errW_none, errW_some] <;> rfl), by repeat (first | (with_reducible first | exact HB.out | apply below_alloc | apply pw_below_drewN | apply below_drew1) | exact HB.out)⟩
                          · replace c56 := Bool.eq_false_iff.mpr c56
                            subst c56
                            have H1 : (inkhorntop_TopUtf.l0 kj42 (l3.take ((ji8) : Int).toNat) (⟨#[]⟩ : ByteArray) 0 (l3.take ((ji8) : Int).toNat) ((l3.take ((ji8) : Int).toNat).length : Int) 0) = some r := by rw [if_neg (show ¬ (false = true) by decide)] at H; exact H
                            clear H
                            have H := H1
                            clear H1
                            have H' := Aside0.mk H
                            clear H
                            go_wp2
                            repeat (go_quiet (fail); try go_wp2)
                            go_loopg [24, 25, 126] kj42 (fun kq v24 v25 v126 w' => ∃ (x24_4 : ByteArray) (x25_4 : Int) (x126_4 : Int), v24 = .string x24_4 ∧ v25 = .int .i64 x25_4 ∧ v126 = .int .i64 x126_4 ∧ Aside0 (inkhorntop_TopUtf.l0 kq (l3.take ((ji8) : Int).toNat) x24_4 x25_4 (l3.take ((ji8) : Int).toNat) ((l3.take ((ji8) : Int).toNat).length : Int) x126_4 = some r) ∧ Aside0 (kq ≤ kj42) ∧ Aside0 (Below w.heap.size w w'))
                            case atStart => exact ⟨((⟨#[]⟩ : ByteArray)), (0), (0), (by first | rfl | (simp; done) | (simp [*]; done)), (by first | rfl | (simp; done) | (simp [*]; done)), (by first | rfl | (simp; done) | (simp [*]; done)), H', ⟨Nat.le_refl _⟩, ⟨by repeat (first | (with_reducible first | exact HB.out | apply below_alloc | apply pw_below_drewN | apply below_drew1) | exact HB.out)⟩⟩
                            case round =>
                              clear H'
                              try clear c1
                              try clear c2
                              try clear p2
                              try clear c3
                              try clear c4
                              try clear c5
                              try clear c6
                              try clear c6b0
                              try clear c6b1
                              try clear c7
                              try clear c7b0
                              try clear c7b1
                              try clear c9
                              try clear c9b0
                              try clear c9b1
                              try clear c10
                              try clear c10b0
                              try clear c10b1
                              try clear c16
                              try clear c16b0
                              try clear c16b1
                              try clear c17
                              try clear c17b0
                              try clear c17b1
                              try clear c18
                              try clear c18b0
                              try clear c18b1
                              try clear c22
                              try clear c25
                              try clear c25b0
                              try clear c25b1
                              try clear c25b2
                              try clear c42
                              try clear c44
                              try clear c44b0
                              try clear c44b1
                              try clear c46
                              try clear c56
                              try clear p2
                              obtain ⟨x24_4, x25_4, x126_4, rfl, rfl, rfl, HA, HK4, HB⟩ := hrel
                              cases gk with
                              | zero => exact absurd HA.out (by simp [inkhorntop_TopUtf.l0])
                              | succ k4 =>
                                have H := HA.out
                                clear HA
                                simp only [inkhorntop_TopUtf.l0] at H
                                by_cases c57 : x126_4 < ((l3.take ((ji8) : Int).toNat).length : Int)
                                · rw [if_pos c57] at H
                                  have c57b0 : decide (x126_4 < ((l3.take ((ji8) : Int).toNat).length : Int)) = true := decide_eq_true c57
                                  have c57eb0 : decide (x126_4 < max ji8 0) = true := by (have e_ : ((l3.take ji8.toNat).length : Int) = max ji8 0 := by (rw [List.length_take]; split at hji8_ <;> omega)); rw [← e_]; exact c57b0
                                  clear c57
                                  by_cases c58 : 0 ≤ x126_4
                                  · rw [if_pos c58] at H
                                    have c58b0 : decide (0 ≤ x126_4) = true := decide_eq_true c58
                                    clear c58
                                    by_cases c59 : x126_4 < ((l3.take ((ji8) : Int).toNat).length : Int)
                                    · rw [if_pos c59] at H
                                      have c59b0 : decide (x126_4 < ((l3.take ((ji8) : Int).toNat).length : Int)) = true := decide_eq_true c59
                                      have c59eb0 : decide (x126_4 < max ji8 0) = true := by (have e_ : ((l3.take ji8.toNat).length : Int) = max ji8 0 := by (rw [List.length_take]; split at hji8_ <;> omega)); rw [← e_]; exact c59b0
                                      clear c59
                                      replace H := Option.bind_eq_some_iff.mp H
                                      obtain ⟨t212, A600, H⟩ := H
                                      replace H : (if t212 = true then ((inkhorntop_quillBytes.f 5 (rd (l3.take ((ji8) : Int).toNat) x126_4)).bind fun t213 => (if x24_4.size + t213.size ≤ 9223372036854775807 then ((utf8_Len.f (rd (l3.take ((ji8) : Int).toNat) x126_4)).bind fun t214 => (if t214 = (t213.size : Int) then (inkhorntop_TopUtf.l0 k4 (l3.take ((ji8) : Int).toNat) (x24_4 ++ t213) x25_4 (l3.take ((ji8) : Int).toNat) ((l3.take ((ji8) : Int).toNat).length : Int) (wrap64 (x126_4 + 1))) else (some false))) else (none))) else ((utf8_Len.f (rd (l3.take ((ji8) : Int).toNat) x126_4)).bind fun t215 => (if t215 = 0 then (inkhorntop_TopUtf.l0 k4 (l3.take ((ji8) : Int).toNat) x24_4 11 (l3.take ((ji8) : Int).toNat) ((l3.take ((ji8) : Int).toNat).length : Int) (wrap64 (x126_4 + 1))) else (some false)))) = some r := H
                                      have A60 := Aside0.mk A600
                                      clear A600
                                      by_cases c61 : t212 = true
                                      · subst c61
                                        have H1 : ((inkhorntop_quillBytes.f 5 (rd (l3.take ((ji8) : Int).toNat) x126_4)).bind fun t213 => (if x24_4.size + t213.size ≤ 9223372036854775807 then ((utf8_Len.f (rd (l3.take ((ji8) : Int).toNat) x126_4)).bind fun t214 => (if t214 = (t213.size : Int) then (inkhorntop_TopUtf.l0 k4 (l3.take ((ji8) : Int).toNat) (x24_4 ++ t213) x25_4 (l3.take ((ji8) : Int).toNat) ((l3.take ((ji8) : Int).toNat).length : Int) (wrap64 (x126_4 + 1))) else (some false))) else (none))) = some r := by rw [if_pos rfl] at H; exact H
                                        clear H
                                        have H := H1
                                        clear H1
                                        replace H := Option.bind_eq_some_iff.mp H
                                        obtain ⟨t213, A620, H⟩ := H
                                        replace H : (if x24_4.size + t213.size ≤ 9223372036854775807 then ((utf8_Len.f (rd (l3.take ((ji8) : Int).toNat) x126_4)).bind fun t214 => (if t214 = (t213.size : Int) then (inkhorntop_TopUtf.l0 k4 (l3.take ((ji8) : Int).toNat) (x24_4 ++ t213) x25_4 (l3.take ((ji8) : Int).toNat) ((l3.take ((ji8) : Int).toNat).length : Int) (wrap64 (x126_4 + 1))) else (some false))) else (none)) = some r := H
                                        have A62 := Aside0.mk A620
                                        clear A620
                                        by_cases c63 : x24_4.size + t213.size ≤ 9223372036854775807
                                        · rw [if_pos c63] at H
                                          have c63b0 := eq_true c63
                                          have c63b1 : decide (x24_4.size + t213.size ≤ 9223372036854775807) = true := decide_eq_true c63
                                          try have c63b2 : (9223372036854775807 < x24_4.size + t213.size) = False := eq_false (Nat.not_lt.2 c63)
                                          replace H := Option.bind_eq_some_iff.mp H
                                          obtain ⟨t214, A640, H⟩ := H
                                          replace H : (if t214 = (t213.size : Int) then (inkhorntop_TopUtf.l0 k4 (l3.take ((ji8) : Int).toNat) (x24_4 ++ t213) x25_4 (l3.take ((ji8) : Int).toNat) ((l3.take ((ji8) : Int).toNat).length : Int) (wrap64 (x126_4 + 1))) else (some false)) = some r := H
                                          have A64 := Aside0.mk A640
                                          clear A640
                                          by_cases c65 : t214 = (t213.size : Int)
                                          · rw [if_pos c65] at H
                                            have c65b0 : (t214 == (t213.size : Int)) = true := beq_iff_eq.mpr c65
                                            have c65b1 : (t214 != (t213.size : Int)) = false := bne_eq_false_iff_eq.mpr c65
                                            clear c65
                                            have H' := Aside0.mk H
                                            clear H
                                            have p211 : 0 ≤ (x126_4 : Int) := of_decide_eq_true (by first | (with_reducible assumption) | assumption)
                                            have q211 : x126_4 < ((l3.take ((ji8) : Int).toNat).length : Int) := of_decide_eq_true (by first | (with_reducible assumption) | assumption)
                                            obtain ⟨ad211, e211, hx211_0⟩ := Kd.at_int HR172.out x126_4 p211 q211
                                            cases e211
                                            replace hx211_0 := (HB.out.cell (World.block_lt_of_cell? w _ hx211_0)).trans hx211_0
                                            replace p211 := eq_true p211
                                            replace q211 := eq_true q211
                                            have q211e : (x126_4 < max ji8 0) = True := by (have e_ : ((l3.take ji8.toNat).length : Int) = max ji8 0 := by (rw [List.length_take]; split at hji8_ <;> omega)); rw [← e_]; exact q211
                                            go_wp2_with (first | (go_at_call 15; (with_reducible refine (api_Scalar.calls (rd (l3.take ((ji8) : Int).toNat) x126_4) true _ A60.out).mono ?_); rintro e w' ⟨rfl, ⟨nd, rfl⟩⟩; (try first | exact ⟨rfl, _, World.drewN_drewN _ _ _⟩ | exact ⟨rfl, _, Eq.trans (World.drewN_drewN _ _ _) (congrArg (World.drewN _) (Nat.add_assoc _ _ _))⟩)) | (go_at_call 16; (with_reducible refine (inkhorntop_quillBytes.calls 5 (rd (l3.take ((ji8) : Int).toNat) x126_4) t213 _ (by first | exact hG | exact Glob.drewN hG | exact Glob.below hG (by repeat (first | (with_reducible first | exact HB.out | apply below_alloc | apply pw_below_drewN | apply below_drew1) | exact HB.out))) A62.out).mono ?_); rintro e w66 ⟨rfl, hb⟩; have n0_ := Aside0.mk (below_step (by repeat (first | (with_reducible first | exact HB.out | apply below_alloc | apply pw_below_drewN | apply below_drew1) | exact HB.out)) hb); clear HB; have HB := n0_; clear n0_; (try clear hb); (try clear hb2); (try clear hk); (try clear hi)) | (go_at_call 17; (with_reducible refine (utf8_Len.calls (rd (l3.take ((ji8) : Int).toNat) x126_4) t214 _ (by first | exact hG | exact Glob.drewN hG | exact Glob.below hG (by repeat (first | (with_reducible first | exact HB.out | apply below_alloc | apply pw_below_drewN | apply below_drew1) | exact HB.out))) A64.out).mono ?_); rintro e w67 ⟨rfl, hb⟩; have n0_ := Aside0.mk (below_step (by repeat (first | (with_reducible first | exact HB.out | apply below_alloc | apply pw_below_drewN | apply below_drew1) | exact HB.out)) hb); clear HB; have HB := n0_; clear n0_; (try clear hb); (try clear hb2); (try clear hk); (try clear hi)))
                                            repeat (go_quiet (first | (go_at_call 15; (with_reducible refine (api_Scalar.calls (rd (l3.take ((ji8) : Int).toNat) x126_4) true _ A60.out).mono ?_); rintro e w' ⟨rfl, ⟨nd, rfl⟩⟩; (try first | exact ⟨rfl, _, World.drewN_drewN _ _ _⟩ | exact ⟨rfl, _, Eq.trans (World.drewN_drewN _ _ _) (congrArg (World.drewN _) (Nat.add_assoc _ _ _))⟩)) | (go_at_call 16; (with_reducible refine (inkhorntop_quillBytes.calls 5 (rd (l3.take ((ji8) : Int).toNat) x126_4) t213 _ (by first | exact hG | exact Glob.drewN hG | exact Glob.below hG (by repeat (first | (with_reducible first | exact HB.out | apply below_alloc | apply pw_below_drewN | apply below_drew1) | exact HB.out))) A62.out).mono ?_); rintro e w66 ⟨rfl, hb⟩; have n0_ := Aside0.mk (below_step (by repeat (first | (with_reducible first | exact HB.out | apply below_alloc | apply pw_below_drewN | apply below_drew1) | exact HB.out)) hb); clear HB; have HB := n0_; clear n0_; (try clear hb); (try clear hb2); (try clear hk); (try clear hi)) | (go_at_call 17; (with_reducible refine (utf8_Len.calls (rd (l3.take ((ji8) : Int).toNat) x126_4) t214 _ (by first | exact hG | exact Glob.drewN hG | exact Glob.below hG (by repeat (first | (with_reducible first | exact HB.out | apply below_alloc | apply pw_below_drewN | apply below_drew1) | exact HB.out))) A64.out).mono ?_); rintro e w67 ⟨rfl, hb⟩; have n0_ := Aside0.mk (below_step (by repeat (first | (with_reducible first | exact HB.out | apply below_alloc | apply pw_below_drewN | apply below_drew1) | exact HB.out)) hb); clear HB; have HB := n0_; clear n0_; (try clear hb); (try clear hb2); (try clear hk); (try clear hi))); try go_wp2_with (first | (go_at_call 15; (with_reducible refine (api_Scalar.calls (rd (l3.take ((ji8) : Int).toNat) x126_4) true _ A60.out).mono ?_); rintro e w' ⟨rfl, ⟨nd, rfl⟩⟩; (try first | exact ⟨rfl, _, World.drewN_drewN _ _ _⟩ | exact ⟨rfl, _, Eq.trans (World.drewN_drewN _ _ _) (congrArg (World.drewN _) (Nat.add_assoc _ _ _))⟩)) | (go_at_call 16; (with_reducible refine (inkhorntop_quillBytes.calls 5 (rd (l3.take ((ji8) : Int).toNat) x126_4) t213 _ (by first | exact hG | exact Glob.drewN hG | exact Glob.below hG (by repeat (first | (with_reducible first | exact HB.out | apply below_alloc | apply pw_below_drewN | apply below_drew1) | exact HB.out))) A62.out).mono ?_); rintro e w66 ⟨rfl, hb⟩; have n0_ := Aside0.mk (below_step (by repeat (first | (with_reducible first | exact HB.out | apply below_alloc | apply pw_below_drewN | apply below_drew1) | exact HB.out)) hb); clear HB; have HB := n0_; clear n0_; (try clear hb); (try clear hb2); (try clear hk); (try clear hi)) | (go_at_call 17; (with_reducible refine (utf8_Len.calls (rd (l3.take ((ji8) : Int).toNat) x126_4) t214 _ (by first | exact hG | exact Glob.drewN hG | exact Glob.below hG (by repeat (first | (with_reducible first | exact HB.out | apply below_alloc | apply pw_below_drewN | apply below_drew1) | exact HB.out))) A64.out).mono ?_); rintro e w67 ⟨rfl, hb⟩; have n0_ := Aside0.mk (below_step (by repeat (first | (with_reducible first | exact HB.out | apply below_alloc | apply pw_below_drewN | apply below_drew1) | exact HB.out)) hb); clear HB; have HB := n0_; clear n0_; (try clear hb); (try clear hb2); (try clear hk); (try clear hi))))
                                            go_roundg k4
                                            case measure => have := HJ12.out; have := HJ32.out; have := HJ42.out; have := HK4.out; omega
                                            case rel => exact ⟨(x24_4 ++ t213), (x25_4), (wrap64 (x126_4 + 1)), (by first | rfl | (simp; done) | (simp [*]; done)), (by first | rfl | (simp; done) | (simp [*]; done)), (by first | rfl | (simp; done) | (simp [*]; done)), H', ⟨by have := HJ12.out; have := HJ32.out; have := HJ42.out; have := HK4.out; omega⟩, ⟨by repeat (first | (with_reducible first | exact HB.out | apply below_alloc | apply pw_below_drewN | apply below_drew1) | exact HB.out)⟩⟩
                                          · rw [if_neg c65] at H
                                            have c65b0 : (t214 == (t213.size : Int)) = false := beq_eq_false_iff_ne.mpr c65
                                            have c65b1 : (t214 != (t213.size : Int)) = true := bne_iff_ne.mpr c65
                                            obtain rfl := Option.some.inj H
                                            have p211 : 0 ≤ (x126_4 : Int) := of_decide_eq_true (by first | (with_reducible assumption) | assumption)
                                            have q211 : x126_4 < ((l3.take ((ji8) : Int).toNat).length : Int) := of_decide_eq_true (by first | (with_reducible assumption) | assumption)
                                            obtain ⟨ad211, e211, hx211_0⟩ := Kd.at_int HR172.out x126_4 p211 q211
                                            cases e211
                                            replace hx211_0 := (HB.out.cell (World.block_lt_of_cell? w _ hx211_0)).trans hx211_0
                                            replace p211 := eq_true p211
                                            replace q211 := eq_true q211
                                            have q211e : (x126_4 < max ji8 0) = True := by (have e_ : ((l3.take ji8.toNat).length : Int) = max ji8 0 := by (rw [List.length_take]; split at hji8_ <;> omega)); rw [← e_]; exact q211
                                            go_wp2_with (first | (go_at_call 15; (with_reducible refine (api_Scalar.calls (rd (l3.take ((ji8) : Int).toNat) x126_4) true _ A60.out).mono ?_); rintro e w' ⟨rfl, ⟨nd, rfl⟩⟩; (try first | exact ⟨rfl, _, World.drewN_drewN _ _ _⟩ | exact ⟨rfl, _, Eq.trans (World.drewN_drewN _ _ _) (congrArg (World.drewN _) (Nat.add_assoc _ _ _))⟩)) | (go_at_call 16; (with_reducible refine (inkhorntop_quillBytes.calls 5 (rd (l3.take ((ji8) : Int).toNat) x126_4) t213 _ (by first | exact hG | exact Glob.drewN hG | exact Glob.below hG (by repeat (first | (with_reducible first | exact HB.out | apply below_alloc | apply pw_below_drewN | apply below_drew1) | exact HB.out))) A62.out).mono ?_); rintro e w68 ⟨rfl, hb⟩; have n0_ := Aside0.mk (below_step (by repeat (first | (with_reducible first | exact HB.out | apply below_alloc | apply pw_below_drewN | apply below_drew1) | exact HB.out)) hb); clear HB; have HB := n0_; clear n0_; (try clear hb); (try clear hb2); (try clear hk); (try clear hi)) | (go_at_call 17; (with_reducible refine (utf8_Len.calls (rd (l3.take ((ji8) : Int).toNat) x126_4) t214 _ (by first | exact hG | exact Glob.drewN hG | exact Glob.below hG (by repeat (first | (with_reducible first | exact HB.out | apply below_alloc | apply pw_below_drewN | apply below_drew1) | exact HB.out))) A64.out).mono ?_); rintro e w69 ⟨rfl, hb⟩; have n0_ := Aside0.mk (below_step (by repeat (first | (with_reducible first | exact HB.out | apply below_alloc | apply pw_below_drewN | apply below_drew1) | exact HB.out)) hb); clear HB; have HB := n0_; clear n0_; (try clear hb); (try clear hb2); (try clear hk); (try clear hi)))
                                            repeat (go_quiet (first | (go_at_call 15; (with_reducible refine (api_Scalar.calls (rd (l3.take ((ji8) : Int).toNat) x126_4) true _ A60.out).mono ?_); rintro e w' ⟨rfl, ⟨nd, rfl⟩⟩; (try first | exact ⟨rfl, _, World.drewN_drewN _ _ _⟩ | exact ⟨rfl, _, Eq.trans (World.drewN_drewN _ _ _) (congrArg (World.drewN _) (Nat.add_assoc _ _ _))⟩)) | (go_at_call 16; (with_reducible refine (inkhorntop_quillBytes.calls 5 (rd (l3.take ((ji8) : Int).toNat) x126_4) t213 _ (by first | exact hG | exact Glob.drewN hG | exact Glob.below hG (by repeat (first | (with_reducible first | exact HB.out | apply below_alloc | apply pw_below_drewN | apply below_drew1) | exact HB.out))) A62.out).mono ?_); rintro e w68 ⟨rfl, hb⟩; have n0_ := Aside0.mk (below_step (by repeat (first | (with_reducible first | exact HB.out | apply below_alloc | apply pw_below_drewN | apply below_drew1) | exact HB.out)) hb); clear HB; have HB := n0_; clear n0_; (try clear hb); (try clear hb2); (try clear hk); (try clear hi)) | (go_at_call 17; (with_reducible refine (utf8_Len.calls (rd (l3.take ((ji8) : Int).toNat) x126_4) t214 _ (by first | exact hG | exact Glob.drewN hG | exact Glob.below hG (by repeat (first | (with_reducible first | exact HB.out | apply below_alloc | apply pw_below_drewN | apply below_drew1) | exact HB.out))) A64.out).mono ?_); rintro e w69 ⟨rfl, hb⟩; have n0_ := Aside0.mk (below_step (by repeat (first | (with_reducible first | exact HB.out | apply below_alloc | apply pw_below_drewN | apply below_drew1) | exact HB.out)) hb); clear HB; have HB := n0_; clear n0_; (try clear hb); (try clear hb2); (try clear hk); (try clear hi))); try go_wp2_with (first | (go_at_call 15; (with_reducible refine (api_Scalar.calls (rd (l3.take ((ji8) : Int).toNat) x126_4) true _ A60.out).mono ?_); rintro e w' ⟨rfl, ⟨nd, rfl⟩⟩; (try first | exact ⟨rfl, _, World.drewN_drewN _ _ _⟩ | exact ⟨rfl, _, Eq.trans (World.drewN_drewN _ _ _) (congrArg (World.drewN _) (Nat.add_assoc _ _ _))⟩)) | (go_at_call 16; (with_reducible refine (inkhorntop_quillBytes.calls 5 (rd (l3.take ((ji8) : Int).toNat) x126_4) t213 _ (by first | exact hG | exact Glob.drewN hG | exact Glob.below hG (by repeat (first | (with_reducible first | exact HB.out | apply below_alloc | apply pw_below_drewN | apply below_drew1) | exact HB.out))) A62.out).mono ?_); rintro e w68 ⟨rfl, hb⟩; have n0_ := Aside0.mk (below_step (by repeat (first | (with_reducible first | exact HB.out | apply below_alloc | apply pw_below_drewN | apply below_drew1) | exact HB.out)) hb); clear HB; have HB := n0_; clear n0_; (try clear hb); (try clear hb2); (try clear hk); (try clear hi)) | (go_at_call 17; (with_reducible refine (utf8_Len.calls (rd (l3.take ((ji8) : Int).toNat) x126_4) t214 _ (by first | exact hG | exact Glob.drewN hG | exact Glob.below hG (by repeat (first | (with_reducible first | exact HB.out | apply below_alloc | apply pw_below_drewN | apply below_drew1) | exact HB.out))) A64.out).mono ?_); rintro e w69 ⟨rfl, hb⟩; have n0_ := Aside0.mk (below_step (by repeat (first | (with_reducible first | exact HB.out | apply below_alloc | apply pw_below_drewN | apply below_drew1) | exact HB.out)) hb); clear HB; have HB := n0_; clear n0_; (try clear hb); (try clear hb2); (try clear hk); (try clear hi))))
                                            go_ret
                                            exact ⟨by first | rfl | (simp [errW_none, errW_some] <;> rfl) | (simp only [← hji5, ← hji8]; first | rfl | (simp [errW_none, errW_some] <;> rfl)) | (simp [*, errW_none, errW_some] <;> rfl), by repeat (first | (with_reducible first | exact HB.out | apply below_alloc | apply pw_below_drewN | apply below_drew1) | exact HB.out)⟩
                                        · rw [if_neg c63] at H
                                          exact absurd H (by simp)
                                      · replace c61 := Bool.eq_false_iff.mpr c61
                                        subst c61
                                        have H1 : ((utf8_Len.f (rd (l3.take ((ji8) : Int).toNat) x126_4)).bind fun t215 => (if t215 = 0 then (inkhorntop_TopUtf.l0 k4 (l3.take ((ji8) : Int).toNat) x24_4 11 (l3.take ((ji8) : Int).toNat) ((l3.take ((ji8) : Int).toNat).length : Int) (wrap64 (x126_4 + 1))) else (some false))) = some r := by rw [if_neg (show ¬ (false = true) by decide)] at H; exact H
                                        clear H
                                        have H := H1
                                        clear H1
                                        replace H := Option.bind_eq_some_iff.mp H
                                        obtain ⟨t215, A700, H⟩ := H
                                        replace H : (if t215 = 0 then (inkhorntop_TopUtf.l0 k4 (l3.take ((ji8) : Int).toNat) x24_4 11 (l3.take ((ji8) : Int).toNat) ((l3.take ((ji8) : Int).toNat).length : Int) (wrap64 (x126_4 + 1))) else (some false)) = some r := H
                                        have A70 := Aside0.mk A700
                                        clear A700
                                        by_cases c71 : t215 = 0
                                        · rw [if_pos c71] at H
                                          have c71b0 : (t215 == 0) = true := beq_iff_eq.mpr c71
                                          have c71b1 : (t215 != 0) = false := bne_eq_false_iff_eq.mpr c71
                                          clear c71
                                          have H' := Aside0.mk H
                                          clear H
                                          have p211 : 0 ≤ (x126_4 : Int) := of_decide_eq_true (by first | (with_reducible assumption) | assumption)
                                          have q211 : x126_4 < ((l3.take ((ji8) : Int).toNat).length : Int) := of_decide_eq_true (by first | (with_reducible assumption) | assumption)
                                          obtain ⟨ad211, e211, hx211_0⟩ := Kd.at_int HR172.out x126_4 p211 q211
                                          cases e211
                                          replace hx211_0 := (HB.out.cell (World.block_lt_of_cell? w _ hx211_0)).trans hx211_0
                                          replace p211 := eq_true p211
                                          replace q211 := eq_true q211
                                          have q211e : (x126_4 < max ji8 0) = True := by (have e_ : ((l3.take ji8.toNat).length : Int) = max ji8 0 := by (rw [List.length_take]; split at hji8_ <;> omega)); rw [← e_]; exact q211
                                          go_wp2_with (first | (go_at_call 15; (with_reducible refine (api_Scalar.calls (rd (l3.take ((ji8) : Int).toNat) x126_4) false _ A60.out).mono ?_); rintro e w' ⟨rfl, ⟨nd, rfl⟩⟩; (try first | exact ⟨rfl, _, World.drewN_drewN _ _ _⟩ | exact ⟨rfl, _, Eq.trans (World.drewN_drewN _ _ _) (congrArg (World.drewN _) (Nat.add_assoc _ _ _))⟩)) | (go_at_call 17; (with_reducible refine (utf8_Len.calls (rd (l3.take ((ji8) : Int).toNat) x126_4) t215 _ (by first | exact hG | exact Glob.drewN hG | exact Glob.below hG (by repeat (first | (with_reducible first | exact HB.out | apply below_alloc | apply pw_below_drewN | apply below_drew1) | exact HB.out))) A70.out).mono ?_); rintro e w72 ⟨rfl, hb⟩; have n0_ := Aside0.mk (below_step (by repeat (first | (with_reducible first | exact HB.out | apply below_alloc | apply pw_below_drewN | apply below_drew1) | exact HB.out)) hb); clear HB; have HB := n0_; clear n0_; (try clear hb); (try clear hb2); (try clear hk); (try clear hi)))
                                          repeat (go_quiet (first | (go_at_call 15; (with_reducible refine (api_Scalar.calls (rd (l3.take ((ji8) : Int).toNat) x126_4) false _ A60.out).mono ?_); rintro e w' ⟨rfl, ⟨nd, rfl⟩⟩; (try first | exact ⟨rfl, _, World.drewN_drewN _ _ _⟩ | exact ⟨rfl, _, Eq.trans (World.drewN_drewN _ _ _) (congrArg (World.drewN _) (Nat.add_assoc _ _ _))⟩)) | (go_at_call 17; (with_reducible refine (utf8_Len.calls (rd (l3.take ((ji8) : Int).toNat) x126_4) t215 _ (by first | exact hG | exact Glob.drewN hG | exact Glob.below hG (by repeat (first | (with_reducible first | exact HB.out | apply below_alloc | apply pw_below_drewN | apply below_drew1) | exact HB.out))) A70.out).mono ?_); rintro e w72 ⟨rfl, hb⟩; have n0_ := Aside0.mk (below_step (by repeat (first | (with_reducible first | exact HB.out | apply below_alloc | apply pw_below_drewN | apply below_drew1) | exact HB.out)) hb); clear HB; have HB := n0_; clear n0_; (try clear hb); (try clear hb2); (try clear hk); (try clear hi))); try go_wp2_with (first | (go_at_call 15; (with_reducible refine (api_Scalar.calls (rd (l3.take ((ji8) : Int).toNat) x126_4) false _ A60.out).mono ?_); rintro e w' ⟨rfl, ⟨nd, rfl⟩⟩; (try first | exact ⟨rfl, _, World.drewN_drewN _ _ _⟩ | exact ⟨rfl, _, Eq.trans (World.drewN_drewN _ _ _) (congrArg (World.drewN _) (Nat.add_assoc _ _ _))⟩)) | (go_at_call 17; (with_reducible refine (utf8_Len.calls (rd (l3.take ((ji8) : Int).toNat) x126_4) t215 _ (by first | exact hG | exact Glob.drewN hG | exact Glob.below hG (by repeat (first | (with_reducible first | exact HB.out | apply below_alloc | apply pw_below_drewN | apply below_drew1) | exact HB.out))) A70.out).mono ?_); rintro e w72 ⟨rfl, hb⟩; have n0_ := Aside0.mk (below_step (by repeat (first | (with_reducible first | exact HB.out | apply below_alloc | apply pw_below_drewN | apply below_drew1) | exact HB.out)) hb); clear HB; have HB := n0_; clear n0_; (try clear hb); (try clear hb2); (try clear hk); (try clear hi))))
                                          go_roundg k4
                                          case measure => have := HJ12.out; have := HJ32.out; have := HJ42.out; have := HK4.out; omega
                                          case rel => exact ⟨(x24_4), (11), (wrap64 (x126_4 + 1)), (by first | rfl | (simp; done) | (simp [*]; done)), (by first | rfl | (simp; done) | (simp [*]; done)), (by first | rfl | (simp; done) | (simp [*]; done)), H', ⟨by have := HJ12.out; have := HJ32.out; have := HJ42.out; have := HK4.out; omega⟩, ⟨by repeat (first | (with_reducible first | exact HB.out | apply below_alloc | apply pw_below_drewN | apply below_drew1) | exact HB.out)⟩⟩
                                        · rw [if_neg c71] at H
                                          have c71b0 : (t215 == 0) = false := beq_eq_false_iff_ne.mpr c71
                                          have c71b1 : (t215 != 0) = true := bne_iff_ne.mpr c71
                                          obtain rfl := Option.some.inj H
                                          have p211 : 0 ≤ (x126_4 : Int) := of_decide_eq_true (by first | (with_reducible assumption) | assumption)
                                          have q211 : x126_4 < ((l3.take ((ji8) : Int).toNat).length : Int) := of_decide_eq_true (by first | (with_reducible assumption) | assumption)
                                          obtain ⟨ad211, e211, hx211_0⟩ := Kd.at_int HR172.out x126_4 p211 q211
                                          cases e211
                                          replace hx211_0 := (HB.out.cell (World.block_lt_of_cell? w _ hx211_0)).trans hx211_0
                                          replace p211 := eq_true p211
                                          replace q211 := eq_true q211
                                          have q211e : (x126_4 < max ji8 0) = True := by (have e_ : ((l3.take ji8.toNat).length : Int) = max ji8 0 := by (rw [List.length_take]; split at hji8_ <;> omega)); rw [← e_]; exact q211
                                          go_wp2_with (first | (go_at_call 15; (with_reducible refine (api_Scalar.calls (rd (l3.take ((ji8) : Int).toNat) x126_4) false _ A60.out).mono ?_); rintro e w' ⟨rfl, ⟨nd, rfl⟩⟩; (try first | exact ⟨rfl, _, World.drewN_drewN _ _ _⟩ | exact ⟨rfl, _, Eq.trans (World.drewN_drewN _ _ _) (congrArg (World.drewN _) (Nat.add_assoc _ _ _))⟩)) | (go_at_call 17; (with_reducible refine (utf8_Len.calls (rd (l3.take ((ji8) : Int).toNat) x126_4) t215 _ (by first | exact hG | exact Glob.drewN hG | exact Glob.below hG (by repeat (first | (with_reducible first | exact HB.out | apply below_alloc | apply pw_below_drewN | apply below_drew1) | exact HB.out))) A70.out).mono ?_); rintro e w73 ⟨rfl, hb⟩; have n0_ := Aside0.mk (below_step (by repeat (first | (with_reducible first | exact HB.out | apply below_alloc | apply pw_below_drewN | apply below_drew1) | exact HB.out)) hb); clear HB; have HB := n0_; clear n0_; (try clear hb); (try clear hb2); (try clear hk); (try clear hi)))
                                          repeat (go_quiet (first | (go_at_call 15; (with_reducible refine (api_Scalar.calls (rd (l3.take ((ji8) : Int).toNat) x126_4) false _ A60.out).mono ?_); rintro e w' ⟨rfl, ⟨nd, rfl⟩⟩; (try first | exact ⟨rfl, _, World.drewN_drewN _ _ _⟩ | exact ⟨rfl, _, Eq.trans (World.drewN_drewN _ _ _) (congrArg (World.drewN _) (Nat.add_assoc _ _ _))⟩)) | (go_at_call 17; (with_reducible refine (utf8_Len.calls (rd (l3.take ((ji8) : Int).toNat) x126_4) t215 _ (by first | exact hG | exact Glob.drewN hG | exact Glob.below hG (by repeat (first | (with_reducible first | exact HB.out | apply below_alloc | apply pw_below_drewN | apply below_drew1) | exact HB.out))) A70.out).mono ?_); rintro e w73 ⟨rfl, hb⟩; have n0_ := Aside0.mk (below_step (by repeat (first | (with_reducible first | exact HB.out | apply below_alloc | apply pw_below_drewN | apply below_drew1) | exact HB.out)) hb); clear HB; have HB := n0_; clear n0_; (try clear hb); (try clear hb2); (try clear hk); (try clear hi))); try go_wp2_with (first | (go_at_call 15; (with_reducible refine (api_Scalar.calls (rd (l3.take ((ji8) : Int).toNat) x126_4) false _ A60.out).mono ?_); rintro e w' ⟨rfl, ⟨nd, rfl⟩⟩; (try first | exact ⟨rfl, _, World.drewN_drewN _ _ _⟩ | exact ⟨rfl, _, Eq.trans (World.drewN_drewN _ _ _) (congrArg (World.drewN _) (Nat.add_assoc _ _ _))⟩)) | (go_at_call 17; (with_reducible refine (utf8_Len.calls (rd (l3.take ((ji8) : Int).toNat) x126_4) t215 _ (by first | exact hG | exact Glob.drewN hG | exact Glob.below hG (by repeat (first | (with_reducible first | exact HB.out | apply below_alloc | apply pw_below_drewN | apply below_drew1) | exact HB.out))) A70.out).mono ?_); rintro e w73 ⟨rfl, hb⟩; have n0_ := Aside0.mk (below_step (by repeat (first | (with_reducible first | exact HB.out | apply below_alloc | apply pw_below_drewN | apply below_drew1) | exact HB.out)) hb); clear HB; have HB := n0_; clear n0_; (try clear hb); (try clear hb2); (try clear hk); (try clear hi))))
                                          go_ret
                                          exact ⟨by first | rfl | (simp [errW_none, errW_some] <;> rfl) | (simp only [← hji5, ← hji8]; first | rfl | (simp [errW_none, errW_some] <;> rfl)) | (simp [*, errW_none, errW_some] <;> rfl), by repeat (first | (with_reducible first | exact HB.out | apply below_alloc | apply pw_below_drewN | apply below_drew1) | exact HB.out)⟩
                                    · rw [if_neg c59] at H
                                      exact absurd H (by simp)
                                  · rw [if_neg c58] at H
                                    exact absurd H (by simp)
                                · rw [if_neg c57] at H
                                  have c57b0 : decide (x126_4 < ((l3.take ((ji8) : Int).toNat).length : Int)) = false := decide_eq_false c57
                                  have c57eb0 : decide (x126_4 < max ji8 0) = false := by (have e_ : ((l3.take ji8.toNat).length : Int) = max ji8 0 := by (rw [List.length_take]; split at hji8_ <;> omega)); rw [← e_]; exact c57b0
                                  clear c57
                                  by_cases c74 : x25_4 = 0
                                  · rw [if_pos c74] at H
                                    have c74b0 : (x25_4 == 0) = true := beq_iff_eq.mpr c74
                                    have c74b1 : (x25_4 != 0) = false := bne_eq_false_iff_eq.mpr c74
                                    clear c74
                                    replace H := Option.bind_eq_some_iff.mp H
                                    obtain ⟨⟨t216, t217⟩, A750, H⟩ := H
                                    replace H : (if t216.toList = x24_4.toList then (if t217 = x25_4 then ((inkhorntop_awake.f).bind fun t218 => (some t218)) else (some false)) else (some false)) = some r := H
                                    have A75 := Aside0.mk A750
                                    clear A750
                                    by_cases c76 : t216.toList = x24_4.toList
                                    · rw [if_pos c76] at H
                                      have c76b0 : (t216.toList == x24_4.toList) = true := beq_iff_eq.mpr c76
                                      have c76b1 : (t216.toList != x24_4.toList) = false := bne_eq_false_iff_eq.mpr c76
                                      clear c76
                                      by_cases c77 : t217 = x25_4
                                      · rw [if_pos c77] at H
                                        have c77b0 : (t217 == x25_4) = true := beq_iff_eq.mpr c77
                                        have c77b1 : (t217 != x25_4) = false := bne_eq_false_iff_eq.mpr c77
                                        clear c77
                                        replace H := Option.bind_eq_some_iff.mp H
                                        obtain ⟨t218, A780, H⟩ := H
                                        replace H : (some t218) = some r := H
                                        have A78 := Aside0.mk A780
                                        clear A780
                                        obtain rfl := Option.some.inj H
                                        go_wp2_with (first | (go_at_call 18; (with_reducible refine (utf8_Encode.calls _ _ (l3.take ((ji8) : Int).toNat) t216 t217 _ (by first | exact hG | exact Glob.drewN hG | exact Glob.below hG (by repeat (first | (with_reducible first | exact HB.out | apply below_alloc | apply pw_below_drewN | apply below_drew1) | exact HB.out))) ?side1 ?side2 A75.out).mono ?_); (case side1 => (have e_ : (l3.take ji8.toNat).length = ji8.toNat := by (rw [List.length_take]; split at hji8_ <;> omega)); (have z_ := HR172.out); rw [e_] at z_; exact Kd.C_below z_ HB.out); (case side2 => (have e_ : (l3.take ji8.toNat).length = ji8.toNat := by (rw [List.length_take]; split at hji8_ <;> omega)); (have z_ := HC172.out); rw [e_] at z_; exact z_); rintro e w79 ⟨rfl, hb⟩; have n0_ := Aside0.mk (below_step (by repeat (first | (with_reducible first | exact HB.out | apply below_alloc | apply pw_below_drewN | apply below_drew1) | exact HB.out)) hb); clear HB; have HB := n0_; clear n0_; (try clear hb); (try clear hb2); (try clear hk); (try clear hi)) | (go_at_call 19; (with_reducible refine (inkhorntop_awake.calls  t218 _ (by first | exact hG | exact Glob.drewN hG | exact Glob.below hG (by repeat (first | (with_reducible first | exact HB.out | apply below_alloc | apply pw_below_drewN | apply below_drew1) | exact HB.out))) A78.out).mono ?_); rintro e w80 ⟨rfl, hb⟩; have n0_ := Aside0.mk (below_step (by repeat (first | (with_reducible first | exact HB.out | apply below_alloc | apply pw_below_drewN | apply below_drew1) | exact HB.out)) hb); clear HB; have HB := n0_; clear n0_; (try clear hb); (try clear hb2); (try clear hk); (try clear hi)))
                                        repeat (go_quiet (first | (go_at_call 18; (with_reducible refine (utf8_Encode.calls _ _ (l3.take ((ji8) : Int).toNat) t216 t217 _ (by first | exact hG | exact Glob.drewN hG | exact Glob.below hG (by repeat (first | (with_reducible first | exact HB.out | apply below_alloc | apply pw_below_drewN | apply below_drew1) | exact HB.out))) ?side1 ?side2 A75.out).mono ?_); (case side1 => (have e_ : (l3.take ji8.toNat).length = ji8.toNat := by (rw [List.length_take]; split at hji8_ <;> omega)); (have z_ := HR172.out); rw [e_] at z_; exact Kd.C_below z_ HB.out); (case side2 => (have e_ : (l3.take ji8.toNat).length = ji8.toNat := by (rw [List.length_take]; split at hji8_ <;> omega)); (have z_ := HC172.out); rw [e_] at z_; exact z_); rintro e w79 ⟨rfl, hb⟩; have n0_ := Aside0.mk (below_step (by repeat (first | (with_reducible first | exact HB.out | apply below_alloc | apply pw_below_drewN | apply below_drew1) | exact HB.out)) hb); clear HB; have HB := n0_; clear n0_; (try clear hb); (try clear hb2); (try clear hk); (try clear hi)) | (go_at_call 19; (with_reducible refine (inkhorntop_awake.calls  t218 _ (by first | exact hG | exact Glob.drewN hG | exact Glob.below hG (by repeat (first | (with_reducible first | exact HB.out | apply below_alloc | apply pw_below_drewN | apply below_drew1) | exact HB.out))) A78.out).mono ?_); rintro e w80 ⟨rfl, hb⟩; have n0_ := Aside0.mk (below_step (by repeat (first | (with_reducible first | exact HB.out | apply below_alloc | apply pw_below_drewN | apply below_drew1) | exact HB.out)) hb); clear HB; have HB := n0_; clear n0_; (try clear hb); (try clear hb2); (try clear hk); (try clear hi))); try go_wp2_with (first | (go_at_call 18; (with_reducible refine (utf8_Encode.calls _ _ (l3.take ((ji8) : Int).toNat) t216 t217 _ (by first | exact hG | exact Glob.drewN hG | exact Glob.below hG (by repeat (first | (with_reducible first | exact HB.out | apply below_alloc | apply pw_below_drewN | apply below_drew1) | exact HB.out))) ?side1 ?side2 A75.out).mono ?_); (case side1 => (have e_ : (l3.take ji8.toNat).length = ji8.toNat := by (rw [List.length_take]; split at hji8_ <;> omega)); (have z_ := HR172.out); rw [e_] at z_; exact Kd.C_below z_ HB.out); (case side2 => (have e_ : (l3.take ji8.toNat).length = ji8.toNat := by (rw [List.length_take]; split at hji8_ <;> omega)); (have z_ := HC172.out); rw [e_] at z_; exact z_); rintro e w79 ⟨rfl, hb⟩; have n0_ := Aside0.mk (below_step (by repeat (first | (with_reducible first | exact HB.out | apply below_alloc | apply pw_below_drewN | apply below_drew1) | exact HB.out)) hb); clear HB; have HB := n0_; clear n0_; (try clear hb); (try clear hb2); (try clear hk); (try clear hi)) | (go_at_call 19; (with_reducible refine (inkhorntop_awake.calls  t218 _ (by first | exact hG | exact Glob.drewN hG | exact Glob.below hG (by repeat (first | (with_reducible first | exact HB.out | apply below_alloc | apply pw_below_drewN | apply below_drew1) | exact HB.out))) A78.out).mono ?_); rintro e w80 ⟨rfl, hb⟩; have n0_ := Aside0.mk (below_step (by repeat (first | (with_reducible first | exact HB.out | apply below_alloc | apply pw_below_drewN | apply below_drew1) | exact HB.out)) hb); clear HB; have HB := n0_; clear n0_; (try clear hb); (try clear hb2); (try clear hk); (try clear hi))))
                                        go_ret
                                        exact ⟨by first | rfl | (simp [errW_none, errW_some] <;> rfl) | (simp only [← hji5, ← hji8]; first | rfl | (simp [errW_none, errW_some] <;> rfl)) | (simp [*, errW_none, errW_some] <;> rfl), by repeat (first | (with_reducible first | exact HB.out | apply below_alloc | apply pw_below_drewN | apply below_drew1) | exact HB.out)⟩
                                      · rw [if_neg c77] at H
                                        have c77b0 : (t217 == x25_4) = false := beq_eq_false_iff_ne.mpr c77
                                        have c77b1 : (t217 != x25_4) = true := bne_iff_ne.mpr c77
                                        obtain rfl := Option.some.inj H
                                        go_wp2_with (first | (go_at_call 18; (with_reducible refine (utf8_Encode.calls _ _ (l3.take ((ji8) : Int).toNat) t216 t217 _ (by first | exact hG | exact Glob.drewN hG | exact Glob.below hG (by repeat (first | (with_reducible first | exact HB.out | apply below_alloc | apply pw_below_drewN | apply below_drew1) | exact HB.out))) ?side1 ?side2 A75.out).mono ?_); (case side1 => (have e_ : (l3.take ji8.toNat).length = ji8.toNat := by (rw [List.length_take]; split at hji8_ <;> omega)); (have z_ := HR172.out); rw [e_] at z_; exact Kd.C_below z_ HB.out); (case side2 => (have e_ : (l3.take ji8.toNat).length = ji8.toNat := by (rw [List.length_take]; split at hji8_ <;> omega)); (have z_ := HC172.out); rw [e_] at z_; exact z_); rintro e w81 ⟨rfl, hb⟩; have n0_ := Aside0.mk (below_step (by repeat (first | (with_reducible first | exact HB.out | apply below_alloc | apply pw_below_drewN | apply below_drew1) | exact HB.out)) hb); clear HB; have HB := n0_; clear n0_; (try clear hb); (try clear hb2); (try clear hk); (try clear hi)))
                                        repeat (go_quiet (first | (go_at_call 18; (with_reducible refine (utf8_Encode.calls _ _ (l3.take ((ji8) : Int).toNat) t216 t217 _ (by first | exact hG | exact Glob.drewN hG | exact Glob.below hG (by repeat (first | (with_reducible first | exact HB.out | apply below_alloc | apply pw_below_drewN | apply below_drew1) | exact HB.out))) ?side1 ?side2 A75.out).mono ?_); (case side1 => (have e_ : (l3.take ji8.toNat).length = ji8.toNat := by (rw [List.length_take]; split at hji8_ <;> omega)); (have z_ := HR172.out); rw [e_] at z_; exact Kd.C_below z_ HB.out); (case side2 => (have e_ : (l3.take ji8.toNat).length = ji8.toNat := by (rw [List.length_take]; split at hji8_ <;> omega)); (have z_ := HC172.out); rw [e_] at z_; exact z_); rintro e w81 ⟨rfl, hb⟩; have n0_ := Aside0.mk (below_step (by repeat (first | (with_reducible first | exact HB.out | apply below_alloc | apply pw_below_drewN | apply below_drew1) | exact HB.out)) hb); clear HB; have HB := n0_; clear n0_; (try clear hb); (try clear hb2); (try clear hk); (try clear hi))); try go_wp2_with (first | (go_at_call 18; (with_reducible refine (utf8_Encode.calls _ _ (l3.take ((ji8) : Int).toNat) t216 t217 _ (by first | exact hG | exact Glob.drewN hG | exact Glob.below hG (by repeat (first | (with_reducible first | exact HB.out | apply below_alloc | apply pw_below_drewN | apply below_drew1) | exact HB.out))) ?side1 ?side2 A75.out).mono ?_); (case side1 => (have e_ : (l3.take ji8.toNat).length = ji8.toNat := by (rw [List.length_take]; split at hji8_ <;> omega)); (have z_ := HR172.out); rw [e_] at z_; exact Kd.C_below z_ HB.out); (case side2 => (have e_ : (l3.take ji8.toNat).length = ji8.toNat := by (rw [List.length_take]; split at hji8_ <;> omega)); (have z_ := HC172.out); rw [e_] at z_; exact z_); rintro e w81 ⟨rfl, hb⟩; have n0_ := Aside0.mk (below_step (by repeat (first | (with_reducible first | exact HB.out | apply below_alloc | apply pw_below_drewN | apply below_drew1) | exact HB.out)) hb); clear HB; have HB := n0_; clear n0_; (try clear hb); (try clear hb2); (try clear hk); (try clear hi))))
                                        go_ret
                                        exact ⟨by first | rfl | (simp [errW_none, errW_some] <;> rfl) | (simp only [← hji5, ← hji8]; first | rfl | (simp [errW_none, errW_some] <;> rfl)) | (simp [*, errW_none, errW_some] <;> rfl), by repeat (first | (with_reducible first | exact HB.out | apply below_alloc | apply pw_below_drewN | apply below_drew1) | exact HB.out)⟩
                                    · rw [if_neg c76] at H
                                      have c76b0 : (t216.toList == x24_4.toList) = false := beq_eq_false_iff_ne.mpr c76
                                      have c76b1 : (t216.toList != x24_4.toList) = true := bne_iff_ne.mpr c76
                                      obtain rfl := Option.some.inj H
                                      go_wp2_with (first | (go_at_call 18; (with_reducible refine (utf8_Encode.calls _ _ (l3.take ((ji8) : Int).toNat) t216 t217 _ (by first | exact hG | exact Glob.drewN hG | exact Glob.below hG (by repeat (first | (with_reducible first | exact HB.out | apply below_alloc | apply pw_below_drewN | apply below_drew1) | exact HB.out))) ?side1 ?side2 A75.out).mono ?_); (case side1 => (have e_ : (l3.take ji8.toNat).length = ji8.toNat := by (rw [List.length_take]; split at hji8_ <;> omega)); (have z_ := HR172.out); rw [e_] at z_; exact Kd.C_below z_ HB.out); (case side2 => (have e_ : (l3.take ji8.toNat).length = ji8.toNat := by (rw [List.length_take]; split at hji8_ <;> omega)); (have z_ := HC172.out); rw [e_] at z_; exact z_); rintro e w82 ⟨rfl, hb⟩; have n0_ := Aside0.mk (below_step (by repeat (first | (with_reducible first | exact HB.out | apply below_alloc | apply pw_below_drewN | apply below_drew1) | exact HB.out)) hb); clear HB; have HB := n0_; clear n0_; (try clear hb); (try clear hb2); (try clear hk); (try clear hi)))
                                      repeat (go_quiet (first | (go_at_call 18; (with_reducible refine (utf8_Encode.calls _ _ (l3.take ((ji8) : Int).toNat) t216 t217 _ (by first | exact hG | exact Glob.drewN hG | exact Glob.below hG (by repeat (first | (with_reducible first | exact HB.out | apply below_alloc | apply pw_below_drewN | apply below_drew1) | exact HB.out))) ?side1 ?side2 A75.out).mono ?_); (case side1 => (have e_ : (l3.take ji8.toNat).length = ji8.toNat := by (rw [List.length_take]; split at hji8_ <;> omega)); (have z_ := HR172.out); rw [e_] at z_; exact Kd.C_below z_ HB.out); (case side2 => (have e_ : (l3.take ji8.toNat).length = ji8.toNat := by (rw [List.length_take]; split at hji8_ <;> omega)); (have z_ := HC172.out); rw [e_] at z_; exact z_); rintro e w82 ⟨rfl, hb⟩; have n0_ := Aside0.mk (below_step (by repeat (first | (with_reducible first | exact HB.out | apply below_alloc | apply pw_below_drewN | apply below_drew1) | exact HB.out)) hb); clear HB; have HB := n0_; clear n0_; (try clear hb); (try clear hb2); (try clear hk); (try clear hi))); try go_wp2_with (first | (go_at_call 18; (with_reducible refine (utf8_Encode.calls _ _ (l3.take ((ji8) : Int).toNat) t216 t217 _ (by first | exact hG | exact Glob.drewN hG | exact Glob.below hG (by repeat (first | (with_reducible first | exact HB.out | apply below_alloc | apply pw_below_drewN | apply below_drew1) | exact HB.out))) ?side1 ?side2 A75.out).mono ?_); (case side1 => (have e_ : (l3.take ji8.toNat).length = ji8.toNat := by (rw [List.length_take]; split at hji8_ <;> omega)); (have z_ := HR172.out); rw [e_] at z_; exact Kd.C_below z_ HB.out); (case side2 => (have e_ : (l3.take ji8.toNat).length = ji8.toNat := by (rw [List.length_take]; split at hji8_ <;> omega)); (have z_ := HC172.out); rw [e_] at z_; exact z_); rintro e w82 ⟨rfl, hb⟩; have n0_ := Aside0.mk (below_step (by repeat (first | (with_reducible first | exact HB.out | apply below_alloc | apply pw_below_drewN | apply below_drew1) | exact HB.out)) hb); clear HB; have HB := n0_; clear n0_; (try clear hb); (try clear hb2); (try clear hk); (try clear hi))))
                                      go_ret
                                      exact ⟨by first | rfl | (simp [errW_none, errW_some] <;> rfl) | (simp only [← hji5, ← hji8]; first | rfl | (simp [errW_none, errW_some] <;> rfl)) | (simp [*, errW_none, errW_some] <;> rfl), by repeat (first | (with_reducible first | exact HB.out | apply below_alloc | apply pw_below_drewN | apply below_drew1) | exact HB.out)⟩
                                  · rw [if_neg c74] at H
                                    have c74b0 : (x25_4 == 0) = false := beq_eq_false_iff_ne.mpr c74
                                    have c74b1 : (x25_4 != 0) = true := bne_iff_ne.mpr c74
                                    replace H := Option.bind_eq_some_iff.mp H
                                    obtain ⟨⟨t219, t220⟩, A830, H⟩ := H
                                    replace H : (if t219.toList = ([] : List UInt8) then (if t220 = x25_4 then ((inkhorntop_awake.f).bind fun t221 => (some t221)) else (some false)) else (some false)) = some r := H
                                    have A83 := Aside0.mk A830
                                    clear A830
                                    by_cases c84 : t219.toList = ([] : List UInt8)
                                    · rw [if_pos c84] at H
                                      have c84b0 : (t219.toList == ([] : List UInt8)) = true := beq_iff_eq.mpr c84
                                      have c84b1 : (t219.toList != ([] : List UInt8)) = false := bne_eq_false_iff_eq.mpr c84
                                      clear c84
                                      by_cases c85 : t220 = x25_4
                                      · rw [if_pos c85] at H
                                        have c85b0 : (t220 == x25_4) = true := beq_iff_eq.mpr c85
                                        have c85b1 : (t220 != x25_4) = false := bne_eq_false_iff_eq.mpr c85
                                        clear c85
                                        replace H := Option.bind_eq_some_iff.mp H
                                        obtain ⟨t221, A860, H⟩ := H
                                        replace H : (some t221) = some r := H
                                        have A86 := Aside0.mk A860
                                        clear A860
                                        obtain rfl := Option.some.inj H
                                        go_wp2_with (first | (go_at_call 18; (with_reducible refine (utf8_Encode.calls _ _ (l3.take ((ji8) : Int).toNat) t219 t220 _ (by first | exact hG | exact Glob.drewN hG | exact Glob.below hG (by repeat (first | (with_reducible first | exact HB.out | apply below_alloc | apply pw_below_drewN | apply below_drew1) | exact HB.out))) ?side1 ?side2 A83.out).mono ?_); (case side1 => (have e_ : (l3.take ji8.toNat).length = ji8.toNat := by (rw [List.length_take]; split at hji8_ <;> omega)); (have z_ := HR172.out); rw [e_] at z_; exact Kd.C_below z_ HB.out); (case side2 => (have e_ : (l3.take ji8.toNat).length = ji8.toNat := by (rw [List.length_take]; split at hji8_ <;> omega)); (have z_ := HC172.out); rw [e_] at z_; exact z_); rintro e w87 ⟨rfl, hb⟩; have n0_ := Aside0.mk (below_step (by repeat (first | (with_reducible first | exact HB.out | apply below_alloc | apply pw_below_drewN | apply below_drew1) | exact HB.out)) hb); clear HB; have HB := n0_; clear n0_; (try clear hb); (try clear hb2); (try clear hk); (try clear hi)) | (go_at_call 19; (with_reducible refine (inkhorntop_awake.calls  t221 _ (by first | exact hG | exact Glob.drewN hG | exact Glob.below hG (by repeat (first | (with_reducible first | exact HB.out | apply below_alloc | apply pw_below_drewN | apply below_drew1) | exact HB.out))) A86.out).mono ?_); rintro e w88 ⟨rfl, hb⟩; have n0_ := Aside0.mk (below_step (by repeat (first | (with_reducible first | exact HB.out | apply below_alloc | apply pw_below_drewN | apply below_drew1) | exact HB.out)) hb); clear HB; have HB := n0_; clear n0_; (try clear hb); (try clear hb2); (try clear hk); (try clear hi)))
                                        repeat (go_quiet (first | (go_at_call 18; (with_reducible refine (utf8_Encode.calls _ _ (l3.take ((ji8) : Int).toNat) t219 t220 _ (by first | exact hG | exact Glob.drewN hG | exact Glob.below hG (by repeat (first | (with_reducible first | exact HB.out | apply below_alloc | apply pw_below_drewN | apply below_drew1) | exact HB.out))) ?side1 ?side2 A83.out).mono ?_); (case side1 => (have e_ : (l3.take ji8.toNat).length = ji8.toNat := by (rw [List.length_take]; split at hji8_ <;> omega)); (have z_ := HR172.out); rw [e_] at z_; exact Kd.C_below z_ HB.out); (case side2 => (have e_ : (l3.take ji8.toNat).length = ji8.toNat := by (rw [List.length_take]; split at hji8_ <;> omega)); (have z_ := HC172.out); rw [e_] at z_; exact z_); rintro e w87 ⟨rfl, hb⟩; have n0_ := Aside0.mk (below_step (by repeat (first | (with_reducible first | exact HB.out | apply below_alloc | apply pw_below_drewN | apply below_drew1) | exact HB.out)) hb); clear HB; have HB := n0_; clear n0_; (try clear hb); (try clear hb2); (try clear hk); (try clear hi)) | (go_at_call 19; (with_reducible refine (inkhorntop_awake.calls  t221 _ (by first | exact hG | exact Glob.drewN hG | exact Glob.below hG (by repeat (first | (with_reducible first | exact HB.out | apply below_alloc | apply pw_below_drewN | apply below_drew1) | exact HB.out))) A86.out).mono ?_); rintro e w88 ⟨rfl, hb⟩; have n0_ := Aside0.mk (below_step (by repeat (first | (with_reducible first | exact HB.out | apply below_alloc | apply pw_below_drewN | apply below_drew1) | exact HB.out)) hb); clear HB; have HB := n0_; clear n0_; (try clear hb); (try clear hb2); (try clear hk); (try clear hi))); try go_wp2_with (first | (go_at_call 18; (with_reducible refine (utf8_Encode.calls _ _ (l3.take ((ji8) : Int).toNat) t219 t220 _ (by first | exact hG | exact Glob.drewN hG | exact Glob.below hG (by repeat (first | (with_reducible first | exact HB.out | apply below_alloc | apply pw_below_drewN | apply below_drew1) | exact HB.out))) ?side1 ?side2 A83.out).mono ?_); (case side1 => (have e_ : (l3.take ji8.toNat).length = ji8.toNat := by (rw [List.length_take]; split at hji8_ <;> omega)); (have z_ := HR172.out); rw [e_] at z_; exact Kd.C_below z_ HB.out); (case side2 => (have e_ : (l3.take ji8.toNat).length = ji8.toNat := by (rw [List.length_take]; split at hji8_ <;> omega)); (have z_ := HC172.out); rw [e_] at z_; exact z_); rintro e w87 ⟨rfl, hb⟩; have n0_ := Aside0.mk (below_step (by repeat (first | (with_reducible first | exact HB.out | apply below_alloc | apply pw_below_drewN | apply below_drew1) | exact HB.out)) hb); clear HB; have HB := n0_; clear n0_; (try clear hb); (try clear hb2); (try clear hk); (try clear hi)) | (go_at_call 19; (with_reducible refine (inkhorntop_awake.calls  t221 _ (by first | exact hG | exact Glob.drewN hG | exact Glob.below hG (by repeat (first | (with_reducible first | exact HB.out | apply below_alloc | apply pw_below_drewN | apply below_drew1) | exact HB.out))) A86.out).mono ?_); rintro e w88 ⟨rfl, hb⟩; have n0_ := Aside0.mk (below_step (by repeat (first | (with_reducible first | exact HB.out | apply below_alloc | apply pw_below_drewN | apply below_drew1) | exact HB.out)) hb); clear HB; have HB := n0_; clear n0_; (try clear hb); (try clear hb2); (try clear hk); (try clear hi))))
                                        go_ret
                                        exact ⟨by first | rfl | (simp [errW_none, errW_some] <;> rfl) | (simp only [← hji5, ← hji8]; first | rfl | (simp [errW_none, errW_some] <;> rfl)) | (simp [*, errW_none, errW_some] <;> rfl), by repeat (first | (with_reducible first | exact HB.out | apply below_alloc | apply pw_below_drewN | apply below_drew1) | exact HB.out)⟩
                                      · rw [if_neg c85] at H
                                        have c85b0 : (t220 == x25_4) = false := beq_eq_false_iff_ne.mpr c85
                                        have c85b1 : (t220 != x25_4) = true := bne_iff_ne.mpr c85
                                        obtain rfl := Option.some.inj H
                                        go_wp2_with (first | (go_at_call 18; (with_reducible refine (utf8_Encode.calls _ _ (l3.take ((ji8) : Int).toNat) t219 t220 _ (by first | exact hG | exact Glob.drewN hG | exact Glob.below hG (by repeat (first | (with_reducible first | exact HB.out | apply below_alloc | apply pw_below_drewN | apply below_drew1) | exact HB.out))) ?side1 ?side2 A83.out).mono ?_); (case side1 => (have e_ : (l3.take ji8.toNat).length = ji8.toNat := by (rw [List.length_take]; split at hji8_ <;> omega)); (have z_ := HR172.out); rw [e_] at z_; exact Kd.C_below z_ HB.out); (case side2 => (have e_ : (l3.take ji8.toNat).length = ji8.toNat := by (rw [List.length_take]; split at hji8_ <;> omega)); (have z_ := HC172.out); rw [e_] at z_; exact z_); rintro e w89 ⟨rfl, hb⟩; have n0_ := Aside0.mk (below_step (by repeat (first | (with_reducible first | exact HB.out | apply below_alloc | apply pw_below_drewN | apply below_drew1) | exact HB.out)) hb); clear HB; have HB := n0_; clear n0_; (try clear hb); (try clear hb2); (try clear hk); (try clear hi)))
                                        repeat (go_quiet (first | (go_at_call 18; (with_reducible refine (utf8_Encode.calls _ _ (l3.take ((ji8) : Int).toNat) t219 t220 _ (by first | exact hG | exact Glob.drewN hG | exact Glob.below hG (by repeat (first | (with_reducible first | exact HB.out | apply below_alloc | apply pw_below_drewN | apply below_drew1) | exact HB.out))) ?side1 ?side2 A83.out).mono ?_); (case side1 => (have e_ : (l3.take ji8.toNat).length = ji8.toNat := by (rw [List.length_take]; split at hji8_ <;> omega)); (have z_ := HR172.out); rw [e_] at z_; exact Kd.C_below z_ HB.out); (case side2 => (have e_ : (l3.take ji8.toNat).length = ji8.toNat := by (rw [List.length_take]; split at hji8_ <;> omega)); (have z_ := HC172.out); rw [e_] at z_; exact z_); rintro e w89 ⟨rfl, hb⟩; have n0_ := Aside0.mk (below_step (by repeat (first | (with_reducible first | exact HB.out | apply below_alloc | apply pw_below_drewN | apply below_drew1) | exact HB.out)) hb); clear HB; have HB := n0_; clear n0_; (try clear hb); (try clear hb2); (try clear hk); (try clear hi))); try go_wp2_with (first | (go_at_call 18; (with_reducible refine (utf8_Encode.calls _ _ (l3.take ((ji8) : Int).toNat) t219 t220 _ (by first | exact hG | exact Glob.drewN hG | exact Glob.below hG (by repeat (first | (with_reducible first | exact HB.out | apply below_alloc | apply pw_below_drewN | apply below_drew1) | exact HB.out))) ?side1 ?side2 A83.out).mono ?_); (case side1 => (have e_ : (l3.take ji8.toNat).length = ji8.toNat := by (rw [List.length_take]; split at hji8_ <;> omega)); (have z_ := HR172.out); rw [e_] at z_; exact Kd.C_below z_ HB.out); (case side2 => (have e_ : (l3.take ji8.toNat).length = ji8.toNat := by (rw [List.length_take]; split at hji8_ <;> omega)); (have z_ := HC172.out); rw [e_] at z_; exact z_); rintro e w89 ⟨rfl, hb⟩; have n0_ := Aside0.mk (below_step (by repeat (first | (with_reducible first | exact HB.out | apply below_alloc | apply pw_below_drewN | apply below_drew1) | exact HB.out)) hb); clear HB; have HB := n0_; clear n0_; (try clear hb); (try clear hb2); (try clear hk); (try clear hi))))
                                        go_ret
                                        exact ⟨by first | rfl | (simp [errW_none, errW_some] <;> rfl) | (simp only [← hji5, ← hji8]; first | rfl | (simp [errW_none, errW_some] <;> rfl)) | (simp [*, errW_none, errW_some] <;> rfl), by repeat (first | (with_reducible first | exact HB.out | apply below_alloc | apply pw_below_drewN | apply below_drew1) | exact HB.out)⟩
                                    · rw [if_neg c84] at H
                                      have c84b0 : (t219.toList == ([] : List UInt8)) = false := beq_eq_false_iff_ne.mpr c84
                                      have c84b1 : (t219.toList != ([] : List UInt8)) = true := bne_iff_ne.mpr c84
                                      obtain rfl := Option.some.inj H
                                      go_wp2_with (first | (go_at_call 18; (with_reducible refine (utf8_Encode.calls _ _ (l3.take ((ji8) : Int).toNat) t219 t220 _ (by first | exact hG | exact Glob.drewN hG | exact Glob.below hG (by repeat (first | (with_reducible first | exact HB.out | apply below_alloc | apply pw_below_drewN | apply below_drew1) | exact HB.out))) ?side1 ?side2 A83.out).mono ?_); (case side1 => (have e_ : (l3.take ji8.toNat).length = ji8.toNat := by (rw [List.length_take]; split at hji8_ <;> omega)); (have z_ := HR172.out); rw [e_] at z_; exact Kd.C_below z_ HB.out); (case side2 => (have e_ : (l3.take ji8.toNat).length = ji8.toNat := by (rw [List.length_take]; split at hji8_ <;> omega)); (have z_ := HC172.out); rw [e_] at z_; exact z_); rintro e w90 ⟨rfl, hb⟩; have n0_ := Aside0.mk (below_step (by repeat (first | (with_reducible first | exact HB.out | apply below_alloc | apply pw_below_drewN | apply below_drew1) | exact HB.out)) hb); clear HB; have HB := n0_; clear n0_; (try clear hb); (try clear hb2); (try clear hk); (try clear hi)))
                                      repeat (go_quiet (first | (go_at_call 18; (with_reducible refine (utf8_Encode.calls _ _ (l3.take ((ji8) : Int).toNat) t219 t220 _ (by first | exact hG | exact Glob.drewN hG | exact Glob.below hG (by repeat (first | (with_reducible first | exact HB.out | apply below_alloc | apply pw_below_drewN | apply below_drew1) | exact HB.out))) ?side1 ?side2 A83.out).mono ?_); (case side1 => (have e_ : (l3.take ji8.toNat).length = ji8.toNat := by (rw [List.length_take]; split at hji8_ <;> omega)); (have z_ := HR172.out); rw [e_] at z_; exact Kd.C_below z_ HB.out); (case side2 => (have e_ : (l3.take ji8.toNat).length = ji8.toNat := by (rw [List.length_take]; split at hji8_ <;> omega)); (have z_ := HC172.out); rw [e_] at z_; exact z_); rintro e w90 ⟨rfl, hb⟩; have n0_ := Aside0.mk (below_step (by repeat (first | (with_reducible first | exact HB.out | apply below_alloc | apply pw_below_drewN | apply below_drew1) | exact HB.out)) hb); clear HB; have HB := n0_; clear n0_; (try clear hb); (try clear hb2); (try clear hk); (try clear hi))); try go_wp2_with (first | (go_at_call 18; (with_reducible refine (utf8_Encode.calls _ _ (l3.take ((ji8) : Int).toNat) t219 t220 _ (by first | exact hG | exact Glob.drewN hG | exact Glob.below hG (by repeat (first | (with_reducible first | exact HB.out | apply below_alloc | apply pw_below_drewN | apply below_drew1) | exact HB.out))) ?side1 ?side2 A83.out).mono ?_); (case side1 => (have e_ : (l3.take ji8.toNat).length = ji8.toNat := by (rw [List.length_take]; split at hji8_ <;> omega)); (have z_ := HR172.out); rw [e_] at z_; exact Kd.C_below z_ HB.out); (case side2 => (have e_ : (l3.take ji8.toNat).length = ji8.toNat := by (rw [List.length_take]; split at hji8_ <;> omega)); (have z_ := HC172.out); rw [e_] at z_; exact z_); rintro e w90 ⟨rfl, hb⟩; have n0_ := Aside0.mk (below_step (by repeat (first | (with_reducible first | exact HB.out | apply below_alloc | apply pw_below_drewN | apply below_drew1) | exact HB.out)) hb); clear HB; have HB := n0_; clear n0_; (try clear hb); (try clear hb2); (try clear hk); (try clear hi))))
                                      go_ret
                                      exact ⟨by first | rfl | (simp [errW_none, errW_some] <;> rfl) | (simp only [← hji5, ← hji8]; first | rfl | (simp [errW_none, errW_some] <;> rfl)) | (simp [*, errW_none, errW_some] <;> rfl), by repeat (first | (with_reducible first | exact HB.out | apply below_alloc | apply pw_below_drewN | apply below_drew1) | exact HB.out)⟩
        · rw [if_neg c10] at H
          exact absurd H (by simp)
      · rw [if_neg c9] at H
        exact absurd H (by simp)
    · rw [if_neg c7] at H
      exact absurd H (by simp)
  · rw [if_neg c6] at H
    exact absurd H (by simp)
def inkhorntop_TopUtf.Pure : Prop := ∀ (a0 : Int) (a1 : ByteArray) (a2 : Int) (l3 : List Int), (Lit.int .i64 a0).wf = true → a1.size ≤ 140737488351232 → (Lit.int .i64 a2).wf = true → l3.length ≤ maxLen → l3.length * 4 ≤ 140737488351232 → (∀ x ∈ l3, (Lit.int .i32 x).wf = true) → ∃ k, inkhorntop_TopUtf.f k a0 a1 a2 l3 = some true
theorem inkhorntop_TopUtf.walk (P : inkhorntop_TopUtf.Pure) (a0 : Int) (a1 : ByteArray) (a2 : Int) (a3 : Option Addr) (len3 cap3 : Nat) (z3 : List Int) (w : World) (hG : Glob w) (w0 : (Lit.int .i64 a0).wf = true) (w1 : a1.size ≤ 140737488351232) (w2 : (Lit.int .i64 a2).wf = true) (w3 : (a3 = none ∧ len3 = 0 ∧ cap3 = 0 ∧ z3 = []) ∨ ∃ x, a3 = some x ∧ len3 ≤ cap3 ∧ cap3 ≤ maxLen ∧ z3.length = cap3 ∧ (∀ i, i < z3.length → w.cell? (x.add i) = some (.int .i32 (z3.getD i 0))) ∧ ∀ n ∈ z3, (Lit.int .i32 n).wf = true) (y3 : len3 * 4 ≤ 140737488351232) :
    Calls Tryz.prog 3 #[.int .i64 a0, .string a1, .int .i64 a2, .slice a3 len3 cap3] w fun e w' => e = .returned (.bool true) ∧ Below w.heap.size w w' := by
  obtain ⟨l3, rfl, hr3, hm3, hw3, hc3⟩ := ReadsInt.ofRowC w3
  obtain ⟨k, h⟩ := P a0 a1 a2 l3 w0 w1 w2 hm3 y3 hw3
  refine (inkhorntop_TopUtf.calls k a0 a1 a2 _ _ l3 true w hG (Kd.C_of_reads (d := (0 : Int)) (h1 := fun _ => rfl) hr3) hc3 h).mono ?_
  rintro e w' ⟨rfl, hd⟩
  exact ⟨rfl, hd⟩
end Go.Proofs.YtcaaadaikfnbaaaGreatDoor.HTopUtf
