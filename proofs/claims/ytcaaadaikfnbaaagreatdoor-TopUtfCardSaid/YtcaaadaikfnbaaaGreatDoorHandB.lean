/- A text of this claim. -/
import Derived.Test.YtcaaadaikfnbaaaGreatDoorHandA
import Derived.Test.YtcaaadaikfnbaaaGreatDoorSyAll
set_option linter.all false
namespace Go.Proofs.YtcaaadaikfnbaaaGreatDoor.HTopUtf
open Go Go.Ar Go.RowKit Go.Proofs.YtcaaadaikfnbaaaGreatDoorW.PrintWords Go.Proofs.YtcaaadaikfnbaaaGreatDoorW.PrintLast Go.Proofs.YtcaaadaikfnbaaaGreatDoorW.PrintMore
def CE : Cfg := { g := 5, same := [84] }
theorem same84 : Same Tryz.prog CE.same := by
  intro f hf v w
  obtain rfl : f = 84 := by simpa [CE] using hf
  kernel_rfl
def knownOk (H : AH) : Prop := H.get 0 = some (.old (.ro rowsCells)) ∧ H.get 2 = some (.old (.ro kindsCells))
noncomputable def lenC (n : Int) (args : Array Value) (H : AH) (K : KV) : Prop :=
  match args.toList, H.get 0, H.get 2 with
  | [.int .i32 x], some (.old (.ro c0)), some (.old (.ro c2)) =>
    bif allSame (sameV 4) c0 rowsCells && allSame (sameV 4) c2 kindsCells then Go.Ar.ask (decide (utf8_Len.f x = some n)) (K (.int .i64 n) H) else False
  | _, _, _ => False
noncomputable def conLen (n : Int) : Cons := fun f => match Nat.beq f 17 with | true => some (lenC n) | false => none
theorem conLen_ok (n : Int) : ConOk Tryz.prog 5 (conLen n) := by
  intro f c hc args H K h
  unfold conLen at hc
  split at hc
  case h_2 => cases hc
  case h_1 hf =>
    obtain rfl := Nat.eq_of_beq_eq_true hf
    cases hc
    unfold lenC at h
    split at h
    case h_2 => exact h.elim
    case h_1 x c0 c2 ha h0 h2 =>
      cases hcond : (allSame (sameV 4) c0 rowsCells && allSame (sameV 4) c2 kindsCells) with
      | false => rw [hcond] at h; exact h.elim
      | true =>
        rw [hcond] at h
        obtain ⟨hlen, hK⟩ := ask_d h
        rw [Bool.and_eq_true] at hcond
        have e0 := allSame_eq (sameV_eq 4) _ _ hcond.1
        have e2 := allSame_eq (sameV_eq 4) _ _ hcond.2
        subst e0; subst e2
        intro ρ w args' hs har
        have hG : Glob w := ⟨by have := hs.lt (AH.get_some h2).2 rfl (hs.glob 2 (by omega)); omega, ro_cells hs (by omega) h0 (by decide), ro_cells hs (by omega) h2 (by decide)⟩
        have hargs : args' = #[.int .i32 x] := by
          have h1 := AR.toList.1 har
          rw [ha] at h1
          obtain ⟨x', k, e, hx, hk⟩ := h1.cons_left
          cases hx
          rw [hk.nil_left] at e
          exact Array.ext' e
        rw [hargs]
        refine Calls.mono (utf8_Len.calls x n w hG hlen) ?_
        rintro e w1 ⟨rfl, hb⟩
        exact ⟨ρ, _, _, H, hK, rfl, Stp.below hs hb, .int _ _⟩
def put1 (x mark : Int) (s : Nat) : Int := IntKind.wrap .u8 (Go.bits .or .i64 mark (Int.fdiv (IntKind.wrap .i64 x) (2 ^ s)))
def putN (x : Int) (s : Nat) : Int := IntKind.wrap .u8 (Go.bits .or .i64 128 (Go.bits .and .i64 (Int.fdiv (IntKind.wrap .i64 x) (2 ^ s)) 63))
def put_1 (x : Int) : List Int := [put1 x 0 0]
def put_2 (x : Int) : List Int := [put1 x 192 6, putN x 0]
def put_3 (x : Int) : List Int := [put1 x 224 12, putN x 6, putN x 0]
def put_4 (x : Int) : List Int := [put1 x 240 18, putN x 12, putN x 6, putN x 0]
noncomputable def FE (d1 d2 : Value) (i : Int) (l : List Int) (off r : Nat) : FFr := frameAt Tryz.prog 18 [] [(4, .pointer (some ⟨5, 0, none⟩)), (7, .slice (some ⟨r, off, none⟩) l.length (BIG + r)), (8, .int .i64 l.length), (9, .int .i64 i), (10, d1), (15, d2)]
noncomputable def HE0 (l : List Int) (off : Nat) : AH := heapAt known [.old (.exact (.cells #[.pointer none, .slice none 0 0] 64 (0, 0))), .intsAt off .i32 l]
noncomputable def HE1 (n : Nat) (bs l : List Int) (off : Nat) : AH := heapAt known [.old (.exact (.cells #[.pointer (some ⟨5, 0, none⟩), .slice (some ⟨6, 0, none⟩) n (BIG + 6)] 64 (0, 0))), .ints .u8 bs 5, .intsAt off .i32 l]
noncomputable def runL (n : Int) (fr : FFr) (H : AH) (R : Value → Prop) : Prop := sRun Tryz.prog CE (conLen n) 400 (SW Tryz.prog 5 (fun _ => [4, 7, 8, 9])) (some []) fr H fun v _ => R v
def at_ (l : List Int) (off : Nat) (i : Int) : Int := l.getD (off + i.toNat * 1 - off) 0
def rnd (l : List Int) (off : Nat) (i n : Int) (A B : Prop) : Prop :=
  bif decide (i < (l.length : Int)) then Go.Ar.ask (decide (0 ≤ i)) (Go.Ar.ask (decide (i < (l.length : Int))) (Go.Ar.ask (decide (off ≤ off + i.toNat * 1)) (Go.Ar.ask (decide (off + i.toNat * 1 - off < l.length)) (Go.Ar.ask (decide (utf8_Len.f (at_ l off i) = some n)) A)))) else B
def two (l : List Int) (off : Nat) (i n : Int) (A : Prop) : Prop := Go.Ar.ask (decide (utf8_Len.f (at_ l off i) = some n)) A
def more (n : Nat) (bs : List Int) (A : Prop) : Prop := Go.Ar.ask (decide (n = bs.length)) (Go.Ar.ask (decide ((n + 1) * 1 ≤ 2 ^ 40)) (Go.Ar.ask (decide (n + 1 ≤ 2 ^ 40)) A))
def out1 (n : Nat) (bs : List Int) (R : Value → Prop) : Prop :=
  Go.Ar.ask (decide (bs.length ≠ 0)) (Go.Ar.ask (decide ((n : Int) = (n : Int))) (bif decide ((some ⟨6, 0, none⟩ : Option Addr) = some ⟨6, 0, none⟩) && n == n && BIG + 6 == BIG + 6 then
    Go.Ar.ask (decide (0 < (n : Int))) (Go.Ar.ask (decide ((n : Int).toNat = bs.length)) (Go.Ar.ask (decide ((n : Int) ≤ IntKind.i64.max)) (R (.tuple #[.string (bytesI bs), .int .i64 0])))) else False))
def out0 (R : Value → Prop) : Prop := R (.tuple #[.string ⟨#[]⟩, .int .i64 0])
set_option maxRecDepth 100000
theorem enc0_0 (R : Value → Prop) (d1 d2 : Value) (i : Int) (l : List Int) (off : Nat) : runL 0 (FE d1 d2 i l off 6) (HE0 l off) R = rnd l off i 0 (R (.tuple #[.string ⟨#[]⟩, .int .i64 11])) (out0 R) := by kernel_rfl
theorem enc1_0 (R : Value → Prop) (d1 d2 : Value) (i : Int) (n : Nat) (bs l : List Int) (off : Nat) : runL 0 (FE d1 d2 i l off 7) (HE1 n bs l off) R = rnd l off i 0 (R (.tuple #[.string ⟨#[]⟩, .int .i64 11])) (out1 n bs R) := by kernel_rfl
theorem enc0_1 (R : Value → Prop) (d1 d2 : Value) (i : Int) (l : List Int) (off : Nat) : runL 1 (FE d1 d2 i l off 6) (HE0 l off) R = rnd l off i 1 (two l off i 1 (GWr Tryz.prog 5 (FE (.bool true) (.bool false) (IntKind.wrap .i64 (i + 1)) l off 7) (HE1 1 [put1 (at_ l off i) 0 0] l off) fun v _ => R v)) (out0 R) := by kernel_rfl
theorem enc1_1 (R : Value → Prop) (d1 d2 : Value) (i : Int) (n : Nat) (bs l : List Int) (off : Nat) : runL 1 (FE d1 d2 i l off 7) (HE1 n bs l off) R = rnd l off i 1 (two l off i 1 (more (n) (bs) (GWr Tryz.prog 5 (FE (.bool true) (.bool false) (IntKind.wrap .i64 (i + 1)) l off 7) (HE1 (n + 1) (bs ++ [put1 (at_ l off i) 0 0]) l off) fun v _ => R v))) (out1 n bs R) := by kernel_rfl
theorem enc0_2 (R : Value → Prop) (d1 d2 : Value) (i : Int) (l : List Int) (off : Nat) : runL 2 (FE d1 d2 i l off 6) (HE0 l off) R = rnd l off i 2 (two l off i 2 (GWr Tryz.prog 5 (FE (.bool true) (.bool false) (IntKind.wrap .i64 (i + 1)) l off 7) (HE1 2 [put1 (at_ l off i) 192 6, putN (at_ l off i) 0] l off) fun v _ => R v)) (out0 R) := by kernel_rfl
theorem enc1_2 (R : Value → Prop) (d1 d2 : Value) (i : Int) (n : Nat) (bs l : List Int) (off : Nat) : runL 2 (FE d1 d2 i l off 7) (HE1 n bs l off) R = rnd l off i 2 (two l off i 2 (more (n) (bs) (more (n + 1) (bs ++ [put1 (at_ l off i) 192 6]) (GWr Tryz.prog 5 (FE (.bool true) (.bool false) (IntKind.wrap .i64 (i + 1)) l off 7) (HE1 (n + 1 + 1) (bs ++ [put1 (at_ l off i) 192 6] ++ [putN (at_ l off i) 0]) l off) fun v _ => R v)))) (out1 n bs R) := by kernel_rfl
theorem enc0_3 (R : Value → Prop) (d1 d2 : Value) (i : Int) (l : List Int) (off : Nat) : runL 3 (FE d1 d2 i l off 6) (HE0 l off) R = rnd l off i 3 (two l off i 3 (GWr Tryz.prog 5 (FE (.bool true) (.bool false) (IntKind.wrap .i64 (i + 1)) l off 7) (HE1 3 [put1 (at_ l off i) 224 12, putN (at_ l off i) 6, putN (at_ l off i) 0] l off) fun v _ => R v)) (out0 R) := by kernel_rfl
theorem enc1_3 (R : Value → Prop) (d1 d2 : Value) (i : Int) (n : Nat) (bs l : List Int) (off : Nat) : runL 3 (FE d1 d2 i l off 7) (HE1 n bs l off) R = rnd l off i 3 (two l off i 3 (more (n) (bs) (more (n + 1) (bs ++ [put1 (at_ l off i) 224 12]) (more (n + 1 + 1) (bs ++ [put1 (at_ l off i) 224 12] ++ [putN (at_ l off i) 6]) (GWr Tryz.prog 5 (FE (.bool true) (.bool false) (IntKind.wrap .i64 (i + 1)) l off 7) (HE1 (n + 1 + 1 + 1) (bs ++ [put1 (at_ l off i) 224 12] ++ [putN (at_ l off i) 6] ++ [putN (at_ l off i) 0]) l off) fun v _ => R v))))) (out1 n bs R) := by kernel_rfl
theorem enc0_4 (R : Value → Prop) (d1 d2 : Value) (i : Int) (l : List Int) (off : Nat) : runL 4 (FE d1 d2 i l off 6) (HE0 l off) R = rnd l off i 4 (two l off i 4 (GWr Tryz.prog 5 (FE (.bool true) (.bool false) (IntKind.wrap .i64 (i + 1)) l off 7) (HE1 4 [put1 (at_ l off i) 240 18, putN (at_ l off i) 12, putN (at_ l off i) 6, putN (at_ l off i) 0] l off) fun v _ => R v)) (out0 R) := by kernel_rfl
theorem enc1_4 (R : Value → Prop) (d1 d2 : Value) (i : Int) (n : Nat) (bs l : List Int) (off : Nat) : runL 4 (FE d1 d2 i l off 7) (HE1 n bs l off) R = rnd l off i 4 (two l off i 4 (more (n) (bs) (more (n + 1) (bs ++ [put1 (at_ l off i) 240 18]) (more (n + 1 + 1) (bs ++ [put1 (at_ l off i) 240 18] ++ [putN (at_ l off i) 12]) (more (n + 1 + 1 + 1) (bs ++ [put1 (at_ l off i) 240 18] ++ [putN (at_ l off i) 12] ++ [putN (at_ l off i) 6]) (GWr Tryz.prog 5 (FE (.bool true) (.bool false) (IntKind.wrap .i64 (i + 1)) l off 7) (HE1 (n + 1 + 1 + 1 + 1) (bs ++ [put1 (at_ l off i) 240 18] ++ [putN (at_ l off i) 12] ++ [putN (at_ l off i) 6] ++ [putN (at_ l off i) 0]) l off) fun v _ => R v)))))) (out1 n bs R) := by kernel_rfl
end Go.Proofs.YtcaaadaikfnbaaaGreatDoor.HTopUtf
