/- A text of this claim. -/
import Derived.Test.YtcaaadaikfnbaaaGreatDoorProg
import Derived.Test.YtcaaadaikfnbaaaGreatDoorSyAll
import Derived.Below
import Derived.WalkKit
import Derived.KernelRfl
import Derived.RowKit
import Derived.Test.YtcaaadaikfnbaaaGreatDoorWWords
import Derived.Test.YtcaaadaikfnbaaaGreatDoorWLast
import Derived.Test.YtcaaadaikfnbaaaGreatDoorWMore
set_option linter.all false
namespace Go.Proofs.YtcaaadaikfnbaaaGreatDoor.HTopUtf
open Go Go.Ar Go.RowKit Go.Proofs.YtcaaadaikfnbaaaGreatDoorW.PrintWords Go.Proofs.YtcaaadaikfnbaaaGreatDoorW.PrintLast Go.Proofs.YtcaaadaikfnbaaaGreatDoorW.PrintMore
def i32V (n : Int) : Value := .int .i32 n
def i64V (n : Int) : Value := .int .i64 n
def rowsCells : List Value := [i32V 127, i64V 0, i64V 7, i32V 2047, i64V 192, i64V 5, i32V 65535, i64V 224, i64V 4, i32V 1114111, i64V 240, i64V 3]
def kindsCells : List Value := [i32V 4352, i32V 19, i32V 4449, i32V 21, i32V 4519, i32V 28]
def Holds (w : World) (i : Nat) (cs : List Value) : Prop := ∀ (j : Nat) (v : Value), cs[j]? = some v → w.cell? ⟨i, j, none⟩ = some v
structure Glob (w : World) : Prop where
  size : 3 ≤ w.heap.size
  rows : Holds w 0 rowsCells
  kinds : Holds w 2 kindsCells
theorem Glob.below {w w' : World} {B : Nat} (h : Glob w) (hB : Below B w w') (hb : 3 ≤ B := by exact Glob.size (by assumption)) : Glob w' :=
  ⟨Nat.le_trans h.size hB.size, fun j v hj => (hB.cell (p := ⟨0, j, none⟩) (by show 0 < B; omega)).trans (h.rows j v hj), fun j v hj => (hB.cell (p := ⟨2, j, none⟩) (by show 2 < B; omega)).trans (h.kinds j v hj)⟩
theorem Glob.drewN {w : World} {n : Nat} (h : Glob w) : Glob (w.drewN n) :=
  ⟨h.size, fun j v hj => h.rows j v hj, fun j v hj => h.kinds j v hj⟩
def known : List (Option (List Value)) := [some rowsCells, none, some kindsCells, none, none]
theorem Glob.known {w : World} (h : Glob w) : Known known w := by
  intro i c hi
  have h5 : i < 5 := (List.getElem?_eq_some_iff.1 hi).1
  match i, h5 with
  | 0, _ => cases hi; exact ⟨by decide, by decide, h.rows⟩
  | 1, _ => cases hi
  | 2, _ => cases hi; exact ⟨by decide, by decide, h.kinds⟩
  | 3, _ => cases hi
  | 4, _ => cases hi
def C : Cfg := { g := 5, same := [] }
theorem mixed : Tryz.prog.follows .mixedOrders = true := by kernel_rfl
theorem same0 : Same Tryz.prog C.same := by intro f hf; cases hf
set_option maxRecDepth 100000
theorem len_run (K : Value → Prop) (a1 : Int) : runP Tryz.prog C (fun _ => none) 400 17 #[.int .i32 a1] known K = (
  bif decide (a1 ≥ 0) then
    bif decide (a1 < 55296) then
      bif decide (a1 ≤ 127) then K (Value.int IntKind.i64 (IntKind.wrap IntKind.i64 (0 + 1)))
      else
        bif decide (a1 ≤ 2047) then
          K (Value.int IntKind.i64 (IntKind.wrap IntKind.i64 (IntKind.wrap IntKind.i64 (0 + 1) + 1)))
        else
          bif decide (a1 ≤ 65535) then
            K
              (Value.int IntKind.i64
                (IntKind.wrap IntKind.i64 (IntKind.wrap IntKind.i64 (IntKind.wrap IntKind.i64 (0 + 1) + 1) + 1)))
          else
            bif decide (a1 ≤ 1114111) then
              K
                (Value.int IntKind.i64
                  (IntKind.wrap IntKind.i64
                    (IntKind.wrap IntKind.i64 (IntKind.wrap IntKind.i64 (IntKind.wrap IntKind.i64 (0 + 1) + 1) + 1) + 1)))
            else K (Value.int IntKind.i64 0)
    else
      bif decide (a1 > 57343) then
        bif decide (a1 ≤ 1114111) then
          bif decide (a1 ≤ 127) then K (Value.int IntKind.i64 (IntKind.wrap IntKind.i64 (0 + 1)))
          else
            bif decide (a1 ≤ 2047) then
              K (Value.int IntKind.i64 (IntKind.wrap IntKind.i64 (IntKind.wrap IntKind.i64 (0 + 1) + 1)))
            else
              bif decide (a1 ≤ 65535) then
                K
                  (Value.int IntKind.i64
                    (IntKind.wrap IntKind.i64 (IntKind.wrap IntKind.i64 (IntKind.wrap IntKind.i64 (0 + 1) + 1) + 1)))
              else
                bif decide (a1 ≤ 1114111) then
                  K
                    (Value.int IntKind.i64
                      (IntKind.wrap IntKind.i64
                        (IntKind.wrap IntKind.i64 (IntKind.wrap IntKind.i64 (IntKind.wrap IntKind.i64 (0 + 1) + 1) + 1) +
                          1)))
                else K (Value.int IntKind.i64 0)
        else K (Value.int IntKind.i64 0)
      else K (Value.int IntKind.i64 0)
  else
    bif decide (a1 > 57343) then
      bif decide (a1 ≤ 1114111) then
        bif decide (a1 ≤ 127) then K (Value.int IntKind.i64 (IntKind.wrap IntKind.i64 (0 + 1)))
        else
          bif decide (a1 ≤ 2047) then
            K (Value.int IntKind.i64 (IntKind.wrap IntKind.i64 (IntKind.wrap IntKind.i64 (0 + 1) + 1)))
          else
            bif decide (a1 ≤ 65535) then
              K
                (Value.int IntKind.i64
                  (IntKind.wrap IntKind.i64 (IntKind.wrap IntKind.i64 (IntKind.wrap IntKind.i64 (0 + 1) + 1) + 1)))
            else
              bif decide (a1 ≤ 1114111) then
                K
                  (Value.int IntKind.i64
                    (IntKind.wrap IntKind.i64
                      (IntKind.wrap IntKind.i64 (IntKind.wrap IntKind.i64 (IntKind.wrap IntKind.i64 (0 + 1) + 1) + 1) +
                        1)))
              else K (Value.int IntKind.i64 0)
      else K (Value.int IntKind.i64 0)
    else K (Value.int IntKind.i64 0)) := by kernel_rfl
theorem lead_run (K : Value → Prop) (a1 : Int) : runP Tryz.prog C (fun _ => none) 400 20 #[.int .u8 a1] known K = (
  bif decide (IntKind.wrap IntKind.i64 (IntKind.wrap IntKind.i64 a1 - 0) ≥ 0) then
    bif
        decide
          (IntKind.wrap IntKind.i64 (IntKind.wrap IntKind.i64 a1 - 0) <
            IntKind.wrap IntKind.i64 (1 * 2 ^ min (Int.toNat 7) (IntKind.bits IntKind.i64))) then
      K
        (Value.tuple
          (Array.mk
            [Value.int IntKind.i64 (IntKind.wrap IntKind.i64 (0 + 1)),
              Value.int IntKind.i64 (IntKind.wrap IntKind.i64 (IntKind.wrap IntKind.i64 a1 - 0))]))
    else
      bif decide (IntKind.wrap IntKind.i64 (IntKind.wrap IntKind.i64 a1 - 192) ≥ 0) then
        bif
            decide
              (IntKind.wrap IntKind.i64 (IntKind.wrap IntKind.i64 a1 - 192) <
                IntKind.wrap IntKind.i64 (1 * 2 ^ min (Int.toNat 5) (IntKind.bits IntKind.i64))) then
          K
            (Value.tuple
              (Array.mk
                [Value.int IntKind.i64 (IntKind.wrap IntKind.i64 (IntKind.wrap IntKind.i64 (0 + 1) + 1)),
                  Value.int IntKind.i64 (IntKind.wrap IntKind.i64 (IntKind.wrap IntKind.i64 a1 - 192))]))
        else
          bif decide (IntKind.wrap IntKind.i64 (IntKind.wrap IntKind.i64 a1 - 224) ≥ 0) then
            bif
                decide
                  (IntKind.wrap IntKind.i64 (IntKind.wrap IntKind.i64 a1 - 224) <
                    IntKind.wrap IntKind.i64 (1 * 2 ^ min (Int.toNat 4) (IntKind.bits IntKind.i64))) then
              K
                (Value.tuple
                  (Array.mk
                    [Value.int IntKind.i64
                        (IntKind.wrap IntKind.i64 (IntKind.wrap IntKind.i64 (IntKind.wrap IntKind.i64 (0 + 1) + 1) + 1)),
                      Value.int IntKind.i64 (IntKind.wrap IntKind.i64 (IntKind.wrap IntKind.i64 a1 - 224))]))
            else
              bif decide (IntKind.wrap IntKind.i64 (IntKind.wrap IntKind.i64 a1 - 240) ≥ 0) then
                bif
                    decide
                      (IntKind.wrap IntKind.i64 (IntKind.wrap IntKind.i64 a1 - 240) <
                        IntKind.wrap IntKind.i64 (1 * 2 ^ min (Int.toNat 3) (IntKind.bits IntKind.i64))) then
                  K
                    (Value.tuple
                      (Array.mk
                        [Value.int IntKind.i64
                            (IntKind.wrap IntKind.i64
                              (IntKind.wrap IntKind.i64
                                  (IntKind.wrap IntKind.i64 (IntKind.wrap IntKind.i64 (0 + 1) + 1) + 1) +
                                1)),
                          Value.int IntKind.i64 (IntKind.wrap IntKind.i64 (IntKind.wrap IntKind.i64 a1 - 240))]))
                else K (Value.tuple (Array.mk [Value.int IntKind.i64 0, Value.int IntKind.i64 0]))
              else K (Value.tuple (Array.mk [Value.int IntKind.i64 0, Value.int IntKind.i64 0]))
          else
            bif decide (IntKind.wrap IntKind.i64 (IntKind.wrap IntKind.i64 a1 - 240) ≥ 0) then
              bif
                  decide
                    (IntKind.wrap IntKind.i64 (IntKind.wrap IntKind.i64 a1 - 240) <
                      IntKind.wrap IntKind.i64 (1 * 2 ^ min (Int.toNat 3) (IntKind.bits IntKind.i64))) then
                K
                  (Value.tuple
                    (Array.mk
                      [Value.int IntKind.i64
                          (IntKind.wrap IntKind.i64
                            (IntKind.wrap IntKind.i64
                                (IntKind.wrap IntKind.i64 (IntKind.wrap IntKind.i64 (0 + 1) + 1) + 1) +
                              1)),
                        Value.int IntKind.i64 (IntKind.wrap IntKind.i64 (IntKind.wrap IntKind.i64 a1 - 240))]))
              else K (Value.tuple (Array.mk [Value.int IntKind.i64 0, Value.int IntKind.i64 0]))
            else K (Value.tuple (Array.mk [Value.int IntKind.i64 0, Value.int IntKind.i64 0]))
      else
        bif decide (IntKind.wrap IntKind.i64 (IntKind.wrap IntKind.i64 a1 - 224) ≥ 0) then
          bif
              decide
                (IntKind.wrap IntKind.i64 (IntKind.wrap IntKind.i64 a1 - 224) <
                  IntKind.wrap IntKind.i64 (1 * 2 ^ min (Int.toNat 4) (IntKind.bits IntKind.i64))) then
            K
              (Value.tuple
                (Array.mk
                  [Value.int IntKind.i64
                      (IntKind.wrap IntKind.i64 (IntKind.wrap IntKind.i64 (IntKind.wrap IntKind.i64 (0 + 1) + 1) + 1)),
                    Value.int IntKind.i64 (IntKind.wrap IntKind.i64 (IntKind.wrap IntKind.i64 a1 - 224))]))
          else
            bif decide (IntKind.wrap IntKind.i64 (IntKind.wrap IntKind.i64 a1 - 240) ≥ 0) then
              bif
                  decide
                    (IntKind.wrap IntKind.i64 (IntKind.wrap IntKind.i64 a1 - 240) <
                      IntKind.wrap IntKind.i64 (1 * 2 ^ min (Int.toNat 3) (IntKind.bits IntKind.i64))) then
                K
                  (Value.tuple
                    (Array.mk
                      [Value.int IntKind.i64
                          (IntKind.wrap IntKind.i64
                            (IntKind.wrap IntKind.i64
                                (IntKind.wrap IntKind.i64 (IntKind.wrap IntKind.i64 (0 + 1) + 1) + 1) +
                              1)),
                        Value.int IntKind.i64 (IntKind.wrap IntKind.i64 (IntKind.wrap IntKind.i64 a1 - 240))]))
              else K (Value.tuple (Array.mk [Value.int IntKind.i64 0, Value.int IntKind.i64 0]))
            else K (Value.tuple (Array.mk [Value.int IntKind.i64 0, Value.int IntKind.i64 0]))
        else
          bif decide (IntKind.wrap IntKind.i64 (IntKind.wrap IntKind.i64 a1 - 240) ≥ 0) then
            bif
                decide
                  (IntKind.wrap IntKind.i64 (IntKind.wrap IntKind.i64 a1 - 240) <
                    IntKind.wrap IntKind.i64 (1 * 2 ^ min (Int.toNat 3) (IntKind.bits IntKind.i64))) then
              K
                (Value.tuple
                  (Array.mk
                    [Value.int IntKind.i64
                        (IntKind.wrap IntKind.i64
                          (IntKind.wrap IntKind.i64
                              (IntKind.wrap IntKind.i64 (IntKind.wrap IntKind.i64 (0 + 1) + 1) + 1) +
                            1)),
                      Value.int IntKind.i64 (IntKind.wrap IntKind.i64 (IntKind.wrap IntKind.i64 a1 - 240))]))
            else K (Value.tuple (Array.mk [Value.int IntKind.i64 0, Value.int IntKind.i64 0]))
          else K (Value.tuple (Array.mk [Value.int IntKind.i64 0, Value.int IntKind.i64 0]))
  else
    bif decide (IntKind.wrap IntKind.i64 (IntKind.wrap IntKind.i64 a1 - 192) ≥ 0) then
      bif
          decide
            (IntKind.wrap IntKind.i64 (IntKind.wrap IntKind.i64 a1 - 192) <
              IntKind.wrap IntKind.i64 (1 * 2 ^ min (Int.toNat 5) (IntKind.bits IntKind.i64))) then
        K
          (Value.tuple
            (Array.mk
              [Value.int IntKind.i64 (IntKind.wrap IntKind.i64 (IntKind.wrap IntKind.i64 (0 + 1) + 1)),
                Value.int IntKind.i64 (IntKind.wrap IntKind.i64 (IntKind.wrap IntKind.i64 a1 - 192))]))
      else
        bif decide (IntKind.wrap IntKind.i64 (IntKind.wrap IntKind.i64 a1 - 224) ≥ 0) then
          bif
              decide
                (IntKind.wrap IntKind.i64 (IntKind.wrap IntKind.i64 a1 - 224) <
                  IntKind.wrap IntKind.i64 (1 * 2 ^ min (Int.toNat 4) (IntKind.bits IntKind.i64))) then
            K
              (Value.tuple
                (Array.mk
                  [Value.int IntKind.i64
                      (IntKind.wrap IntKind.i64 (IntKind.wrap IntKind.i64 (IntKind.wrap IntKind.i64 (0 + 1) + 1) + 1)),
                    Value.int IntKind.i64 (IntKind.wrap IntKind.i64 (IntKind.wrap IntKind.i64 a1 - 224))]))
          else
            bif decide (IntKind.wrap IntKind.i64 (IntKind.wrap IntKind.i64 a1 - 240) ≥ 0) then
              bif
                  decide
                    (IntKind.wrap IntKind.i64 (IntKind.wrap IntKind.i64 a1 - 240) <
                      IntKind.wrap IntKind.i64 (1 * 2 ^ min (Int.toNat 3) (IntKind.bits IntKind.i64))) then
                K
                  (Value.tuple
                    (Array.mk
                      [Value.int IntKind.i64
                          (IntKind.wrap IntKind.i64
                            (IntKind.wrap IntKind.i64
                                (IntKind.wrap IntKind.i64 (IntKind.wrap IntKind.i64 (0 + 1) + 1) + 1) +
                              1)),
                        Value.int IntKind.i64 (IntKind.wrap IntKind.i64 (IntKind.wrap IntKind.i64 a1 - 240))]))
              else K (Value.tuple (Array.mk [Value.int IntKind.i64 0, Value.int IntKind.i64 0]))
            else K (Value.tuple (Array.mk [Value.int IntKind.i64 0, Value.int IntKind.i64 0]))
        else
          bif decide (IntKind.wrap IntKind.i64 (IntKind.wrap IntKind.i64 a1 - 240) ≥ 0) then
            bif
                decide
                  (IntKind.wrap IntKind.i64 (IntKind.wrap IntKind.i64 a1 - 240) <
                    IntKind.wrap IntKind.i64 (1 * 2 ^ min (Int.toNat 3) (IntKind.bits IntKind.i64))) then
              K
                (Value.tuple
                  (Array.mk
                    [Value.int IntKind.i64
                        (IntKind.wrap IntKind.i64
                          (IntKind.wrap IntKind.i64
                              (IntKind.wrap IntKind.i64 (IntKind.wrap IntKind.i64 (0 + 1) + 1) + 1) +
                            1)),
                      Value.int IntKind.i64 (IntKind.wrap IntKind.i64 (IntKind.wrap IntKind.i64 a1 - 240))]))
            else K (Value.tuple (Array.mk [Value.int IntKind.i64 0, Value.int IntKind.i64 0]))
          else K (Value.tuple (Array.mk [Value.int IntKind.i64 0, Value.int IntKind.i64 0]))
    else
      bif decide (IntKind.wrap IntKind.i64 (IntKind.wrap IntKind.i64 a1 - 224) ≥ 0) then
        bif
            decide
              (IntKind.wrap IntKind.i64 (IntKind.wrap IntKind.i64 a1 - 224) <
                IntKind.wrap IntKind.i64 (1 * 2 ^ min (Int.toNat 4) (IntKind.bits IntKind.i64))) then
          K
            (Value.tuple
              (Array.mk
                [Value.int IntKind.i64
                    (IntKind.wrap IntKind.i64 (IntKind.wrap IntKind.i64 (IntKind.wrap IntKind.i64 (0 + 1) + 1) + 1)),
                  Value.int IntKind.i64 (IntKind.wrap IntKind.i64 (IntKind.wrap IntKind.i64 a1 - 224))]))
        else
          bif decide (IntKind.wrap IntKind.i64 (IntKind.wrap IntKind.i64 a1 - 240) ≥ 0) then
            bif
                decide
                  (IntKind.wrap IntKind.i64 (IntKind.wrap IntKind.i64 a1 - 240) <
                    IntKind.wrap IntKind.i64 (1 * 2 ^ min (Int.toNat 3) (IntKind.bits IntKind.i64))) then
              K
                (Value.tuple
                  (Array.mk
                    [Value.int IntKind.i64
                        (IntKind.wrap IntKind.i64
                          (IntKind.wrap IntKind.i64
                              (IntKind.wrap IntKind.i64 (IntKind.wrap IntKind.i64 (0 + 1) + 1) + 1) +
                            1)),
                      Value.int IntKind.i64 (IntKind.wrap IntKind.i64 (IntKind.wrap IntKind.i64 a1 - 240))]))
            else K (Value.tuple (Array.mk [Value.int IntKind.i64 0, Value.int IntKind.i64 0]))
          else K (Value.tuple (Array.mk [Value.int IntKind.i64 0, Value.int IntKind.i64 0]))
      else
        bif decide (IntKind.wrap IntKind.i64 (IntKind.wrap IntKind.i64 a1 - 240) ≥ 0) then
          bif
              decide
                (IntKind.wrap IntKind.i64 (IntKind.wrap IntKind.i64 a1 - 240) <
                  IntKind.wrap IntKind.i64 (1 * 2 ^ min (Int.toNat 3) (IntKind.bits IntKind.i64))) then
            K
              (Value.tuple
                (Array.mk
                  [Value.int IntKind.i64
                      (IntKind.wrap IntKind.i64
                        (IntKind.wrap IntKind.i64 (IntKind.wrap IntKind.i64 (IntKind.wrap IntKind.i64 (0 + 1) + 1) + 1) +
                          1)),
                    Value.int IntKind.i64 (IntKind.wrap IntKind.i64 (IntKind.wrap IntKind.i64 a1 - 240))]))
          else K (Value.tuple (Array.mk [Value.int IntKind.i64 0, Value.int IntKind.i64 0]))
        else K (Value.tuple (Array.mk [Value.int IntKind.i64 0, Value.int IntKind.i64 0]))) := by kernel_rfl
theorem bytes_run (K : Value → Prop) (a1 : Int) : runP Tryz.prog C (fun _ => none) 400 16 #[.int .i64 5, .int .i32 a1] known K = (
  bif decide (a1 < 128) then
    K (Value.string (ByteArray.mk (Array.mk [Nat.toUInt8 (Int.toNat (IntKind.wrap IntKind.u8 a1))])))
  else
    bif decide (a1 < 2048) then
      Go.Ar.ask (decide (a1 = a1)) <|
        K
          (Value.string
            (ByteArray.mk
              (Array.mk
                [Nat.toUInt8
                    (Int.toNat
                      (IntKind.wrap IntKind.u8
                        (IntKind.wrap IntKind.i32
                          ↑(BitVec.toNat
                              (BitVec.ofInt (IntKind.bits IntKind.i32) 192 |||
                                BitVec.ofInt (IntKind.bits IntKind.i32)
                                  (Int.fdiv a1 (2 ^ min (Int.toNat 6) (IntKind.bits IntKind.i32)))))))),
                  Nat.toUInt8
                    (Int.toNat
                      (IntKind.wrap IntKind.u8
                        (IntKind.wrap IntKind.i32
                          ↑(BitVec.toNat
                              (BitVec.ofInt (IntKind.bits IntKind.i32) 128 |||
                                BitVec.ofInt (IntKind.bits IntKind.i32)
                                  (IntKind.wrap IntKind.i32
                                    ↑(BitVec.toNat
                                        (BitVec.ofInt (IntKind.bits IntKind.i32)
                                            (Int.fdiv a1 (2 ^ min (Int.toNat 0) (IntKind.bits IntKind.i32))) &&&
                                          BitVec.ofInt (IntKind.bits IntKind.i32) 63))))))))])))
    else
      bif decide (a1 < 65536) then
        Go.Ar.ask (decide (a1 = a1)) <|
          Go.Ar.ask (decide (a1 = a1)) <|
            K
              (Value.string
                (ByteArray.mk
                  (Array.mk
                    [Nat.toUInt8
                        (Int.toNat
                          (IntKind.wrap IntKind.u8
                            (IntKind.wrap IntKind.i32
                              ↑(BitVec.toNat
                                  (BitVec.ofInt (IntKind.bits IntKind.i32) 224 |||
                                    BitVec.ofInt (IntKind.bits IntKind.i32)
                                      (Int.fdiv a1 (2 ^ min (Int.toNat 12) (IntKind.bits IntKind.i32)))))))),
                      Nat.toUInt8
                        (Int.toNat
                          (IntKind.wrap IntKind.u8
                            (IntKind.wrap IntKind.i32
                              ↑(BitVec.toNat
                                  (BitVec.ofInt (IntKind.bits IntKind.i32) 128 |||
                                    BitVec.ofInt (IntKind.bits IntKind.i32)
                                      (IntKind.wrap IntKind.i32
                                        ↑(BitVec.toNat
                                            (BitVec.ofInt (IntKind.bits IntKind.i32)
                                                (Int.fdiv a1 (2 ^ min (Int.toNat 6) (IntKind.bits IntKind.i32))) &&&
                                              BitVec.ofInt (IntKind.bits IntKind.i32) 63)))))))),
                      Nat.toUInt8
                        (Int.toNat
                          (IntKind.wrap IntKind.u8
                            (IntKind.wrap IntKind.i32
                              ↑(BitVec.toNat
                                  (BitVec.ofInt (IntKind.bits IntKind.i32) 128 |||
                                    BitVec.ofInt (IntKind.bits IntKind.i32)
                                      (IntKind.wrap IntKind.i32
                                        ↑(BitVec.toNat
                                            (BitVec.ofInt (IntKind.bits IntKind.i32)
                                                (Int.fdiv a1 (2 ^ min (Int.toNat 0) (IntKind.bits IntKind.i32))) &&&
                                              BitVec.ofInt (IntKind.bits IntKind.i32) 63))))))))])))
      else
        Go.Ar.ask (decide (a1 = a1)) <|
          Go.Ar.ask (decide (a1 = a1)) <|
            Go.Ar.ask (decide (a1 = a1)) <|
              K
                (Value.string
                  (ByteArray.mk
                    (Array.mk
                      [Nat.toUInt8
                          (Int.toNat
                            (IntKind.wrap IntKind.u8
                              (IntKind.wrap IntKind.i32
                                ↑(BitVec.toNat
                                    (BitVec.ofInt (IntKind.bits IntKind.i32) 240 |||
                                      BitVec.ofInt (IntKind.bits IntKind.i32)
                                        (Int.fdiv a1 (2 ^ min (Int.toNat 18) (IntKind.bits IntKind.i32)))))))),
                        Nat.toUInt8
                          (Int.toNat
                            (IntKind.wrap IntKind.u8
                              (IntKind.wrap IntKind.i32
                                ↑(BitVec.toNat
                                    (BitVec.ofInt (IntKind.bits IntKind.i32) 128 |||
                                      BitVec.ofInt (IntKind.bits IntKind.i32)
                                        (IntKind.wrap IntKind.i32
                                          ↑(BitVec.toNat
                                              (BitVec.ofInt (IntKind.bits IntKind.i32)
                                                  (Int.fdiv a1 (2 ^ min (Int.toNat 12) (IntKind.bits IntKind.i32))) &&&
                                                BitVec.ofInt (IntKind.bits IntKind.i32) 63)))))))),
                        Nat.toUInt8
                          (Int.toNat
                            (IntKind.wrap IntKind.u8
                              (IntKind.wrap IntKind.i32
                                ↑(BitVec.toNat
                                    (BitVec.ofInt (IntKind.bits IntKind.i32) 128 |||
                                      BitVec.ofInt (IntKind.bits IntKind.i32)
                                        (IntKind.wrap IntKind.i32
                                          ↑(BitVec.toNat
                                              (BitVec.ofInt (IntKind.bits IntKind.i32)
                                                  (Int.fdiv a1 (2 ^ min (Int.toNat 6) (IntKind.bits IntKind.i32))) &&&
                                                BitVec.ofInt (IntKind.bits IntKind.i32) 63)))))))),
                        Nat.toUInt8
                          (Int.toNat
                            (IntKind.wrap IntKind.u8
                              (IntKind.wrap IntKind.i32
                                ↑(BitVec.toNat
                                    (BitVec.ofInt (IntKind.bits IntKind.i32) 128 |||
                                      BitVec.ofInt (IntKind.bits IntKind.i32)
                                        (IntKind.wrap IntKind.i32
                                          ↑(BitVec.toNat
                                              (BitVec.ofInt (IntKind.bits IntKind.i32)
                                                  (Int.fdiv a1 (2 ^ min (Int.toNat 0) (IntKind.bits IntKind.i32))) &&&
                                                BitVec.ofInt (IntKind.bits IntKind.i32) 63))))))))])))) := by kernel_rfl
theorem w64 {x : Int} (h0 : -9223372036854775808 ≤ x) (h1 : x ≤ 9223372036854775807) : IntKind.wrap .i64 x = x := by
  rw [IntKind.wrap_i64]; omega
def utf8_lead.f (a0 : Int) : Option (Int × Int) :=
  if a0 < 0 then none else if a0 < 128 then some (1, a0) else if a0 < 192 then some (0, 0) else if a0 < 224 then some (2, a0 - 192) else if a0 < 240 then some (3, a0 - 224) else if a0 < 248 then some (4, a0 - 240) else if a0 < 256 then some (0, 0) else none
theorem utf8_lead.calls (a0 : Int) (r1 r2 : Int) (w : World) (hG : Glob w) (h : utf8_lead.f a0 = some (r1, r2)) :
    Calls Tryz.prog 20 #[.int .u8 a0] w fun e w' => e = .returned (.tuple #[.int .i64 r1, .int .i64 r2]) ∧ Below w.heap.size w w' := by
  have hr : runP Tryz.prog C (fun _ => none) 400 20 #[.int .u8 a0] known (fun v => v = .tuple #[.int .i64 r1, .int .i64 r2]) := by
    rw [lead_run]
    have hb : 0 ≤ a0 ∧ a0 < 256 := by
      unfold utf8_lead.f at h
      repeat' split at h
      all_goals first | omega | cases h
    obtain ⟨h0, h1⟩ := hb
    have c7 : IntKind.wrap .i64 (1 * 2 ^ min (Int.toNat 7) (IntKind.bits .i64)) = 128 := by decide
    have c5 : IntKind.wrap .i64 (1 * 2 ^ min (Int.toNat 5) (IntKind.bits .i64)) = 32 := by decide
    have c4 : IntKind.wrap .i64 (1 * 2 ^ min (Int.toNat 4) (IntKind.bits .i64)) = 16 := by decide
    have c3 : IntKind.wrap .i64 (1 * 2 ^ min (Int.toNat 3) (IntKind.bits .i64)) = 8 := by decide
    have k1 : IntKind.wrap .i64 (0 + 1) = 1 := by decide
    have k2 : IntKind.wrap .i64 (1 + 1) = 2 := by decide
    have k3 : IntKind.wrap .i64 (2 + 1) = 3 := by decide
    have k4 : IntKind.wrap .i64 (3 + 1) = 4 := by decide
    have e0 : IntKind.wrap .i64 a0 = a0 := w64 (by omega) (by omega)
    have e1 : IntKind.wrap .i64 (a0 - 0) = a0 - 0 := w64 (by omega) (by omega)
    have e2 : IntKind.wrap .i64 (a0 - 192) = a0 - 192 := w64 (by omega) (by omega)
    have e3 : IntKind.wrap .i64 (a0 - 224) = a0 - 224 := w64 (by omega) (by omega)
    have e4 : IntKind.wrap .i64 (a0 - 240) = a0 - 240 := w64 (by omega) (by omega)
    simp only [c7, c5, c4, c3, k1, k2, k3, k4, e0, e2, e3, e4, Int.sub_zero]
    unfold utf8_lead.f at h
    split at h
    · cases h
    split at h
    · cases h; simp only [show decide (a0 ≥ 0) = true from decide_eq_true (by omega), show decide (a0 < 128) = true from decide_eq_true (by omega), show decide (a0 - 192 ≥ 0) = false from decide_eq_false (by omega), show decide (a0 - 192 < 32) = true from decide_eq_true (by omega), show decide (a0 - 224 ≥ 0) = false from decide_eq_false (by omega), show decide (a0 - 224 < 16) = true from decide_eq_true (by omega), show decide (a0 - 240 ≥ 0) = false from decide_eq_false (by omega), show decide (a0 - 240 < 8) = true from decide_eq_true (by omega), cond_true, cond_false]
    split at h
    · cases h; simp only [show decide (a0 ≥ 0) = true from decide_eq_true (by omega), show decide (a0 < 128) = false from decide_eq_false (by omega), show decide (a0 - 192 ≥ 0) = false from decide_eq_false (by omega), show decide (a0 - 192 < 32) = true from decide_eq_true (by omega), show decide (a0 - 224 ≥ 0) = false from decide_eq_false (by omega), show decide (a0 - 224 < 16) = true from decide_eq_true (by omega), show decide (a0 - 240 ≥ 0) = false from decide_eq_false (by omega), show decide (a0 - 240 < 8) = true from decide_eq_true (by omega), cond_true, cond_false]
    split at h
    · cases h; simp only [show decide (a0 ≥ 0) = true from decide_eq_true (by omega), show decide (a0 < 128) = false from decide_eq_false (by omega), show decide (a0 - 192 ≥ 0) = true from decide_eq_true (by omega), show decide (a0 - 192 < 32) = true from decide_eq_true (by omega), show decide (a0 - 224 ≥ 0) = false from decide_eq_false (by omega), show decide (a0 - 224 < 16) = true from decide_eq_true (by omega), show decide (a0 - 240 ≥ 0) = false from decide_eq_false (by omega), show decide (a0 - 240 < 8) = true from decide_eq_true (by omega), cond_true, cond_false]
    split at h
    · cases h; simp only [show decide (a0 ≥ 0) = true from decide_eq_true (by omega), show decide (a0 < 128) = false from decide_eq_false (by omega), show decide (a0 - 192 ≥ 0) = true from decide_eq_true (by omega), show decide (a0 - 192 < 32) = false from decide_eq_false (by omega), show decide (a0 - 224 ≥ 0) = true from decide_eq_true (by omega), show decide (a0 - 224 < 16) = true from decide_eq_true (by omega), show decide (a0 - 240 ≥ 0) = false from decide_eq_false (by omega), show decide (a0 - 240 < 8) = true from decide_eq_true (by omega), cond_true, cond_false]
    split at h
    · cases h; simp only [show decide (a0 ≥ 0) = true from decide_eq_true (by omega), show decide (a0 < 128) = false from decide_eq_false (by omega), show decide (a0 - 192 ≥ 0) = true from decide_eq_true (by omega), show decide (a0 - 192 < 32) = false from decide_eq_false (by omega), show decide (a0 - 224 ≥ 0) = true from decide_eq_true (by omega), show decide (a0 - 224 < 16) = false from decide_eq_false (by omega), show decide (a0 - 240 ≥ 0) = true from decide_eq_true (by omega), show decide (a0 - 240 < 8) = true from decide_eq_true (by omega), cond_true, cond_false]
    cases h; simp only [show decide (a0 ≥ 0) = true from decide_eq_true (by omega), show decide (a0 < 128) = false from decide_eq_false (by omega), show decide (a0 - 192 ≥ 0) = true from decide_eq_true (by omega), show decide (a0 - 192 < 32) = false from decide_eq_false (by omega), show decide (a0 - 224 ≥ 0) = true from decide_eq_true (by omega), show decide (a0 - 224 < 16) = false from decide_eq_false (by omega), show decide (a0 - 240 ≥ 0) = true from decide_eq_true (by omega), show decide (a0 - 240 < 8) = false from decide_eq_false (by omega), cond_true, cond_false]
  refine (runP_calls mixed same0 (conOk_none _ _) hr rfl rfl hG.known (fun v hv => by rw [hv]; rfl)).mono ?_
  rintro e w1 ⟨v, rfl, rfl, hb⟩
  exact ⟨rfl, hb⟩
def utf8_Len.f (a0 : Int) : Option Int :=
  if a0 < 0 then some 0 else if a0 ≤ 127 then some 1 else if a0 ≤ 2047 then some 2 else if a0 < 55296 then some 3 else if a0 ≤ 57343 then some 0 else if a0 ≤ 65535 then some 3 else if a0 ≤ 1114111 then some 4 else some 0
theorem utf8_Len.calls (a0 : Int) (r : Int) (w : World) (hG : Glob w) (h : utf8_Len.f a0 = some r) :
    Calls Tryz.prog 17 #[.int .i32 a0] w fun e w' => e = .returned (.int .i64 r) ∧ Below w.heap.size w w' := by
  have hr : runP Tryz.prog C (fun _ => none) 400 17 #[.int .i32 a0] known (fun v => v = .int .i64 r) := by
    rw [len_run]
    have k1 : IntKind.wrap .i64 (0 + 1) = 1 := by decide
    have k2 : IntKind.wrap .i64 (1 + 1) = 2 := by decide
    have k3 : IntKind.wrap .i64 (2 + 1) = 3 := by decide
    have k4 : IntKind.wrap .i64 (3 + 1) = 4 := by decide
    simp only [k1, k2, k3, k4, cond_eq_ite, decide_eq_true_eq]
    unfold utf8_Len.f at h
    repeat' split at h
    all_goals (cases h; repeat' split)
    all_goals first | rfl | (exfalso; omega)
  refine (runP_calls mixed same0 (conOk_none _ _) hr rfl rfl hG.known (fun v hv => by rw [hv]; rfl)).mono ?_
  rintro e w1 ⟨v, rfl, rfl, hb⟩
  exact ⟨rfl, hb⟩
def u8 (x : Int) : UInt8 := Nat.toUInt8 (Int.toNat (IntKind.wrap .u8 x))
def firstB (m x : Int) (n : Nat) : UInt8 := u8 (Go.bits .or .i32 m (Int.fdiv x (2 ^ n)))
def nextB (x : Int) (n : Nat) : UInt8 := u8 (Go.bits .or .i32 128 (Go.bits .and .i32 (Int.fdiv x (2 ^ n)) 63))
def inkhorntop_quillBytes.f (a0 a1 : Int) : Option ByteArray :=
  if a0 = 5 then
    if a1 < 128 then some ⟨#[u8 a1]⟩
    else if a1 < 2048 then some ⟨#[firstB 192 a1 6, nextB a1 0]⟩
    else if a1 < 65536 then some ⟨#[firstB 224 a1 12, nextB a1 6, nextB a1 0]⟩
    else some ⟨#[firstB 240 a1 18, nextB a1 12, nextB a1 6, nextB a1 0]⟩
  else none
theorem inkhorntop_quillBytes.calls (a0 a1 : Int) (r : ByteArray) (w : World) (hG : Glob w) (h : inkhorntop_quillBytes.f a0 a1 = some r) :
    Calls Tryz.prog 16 #[.int .i64 a0, .int .i32 a1] w fun e w' => e = .returned (.string r) ∧ Below w.heap.size w w' := by
  unfold inkhorntop_quillBytes.f at h
  split at h
  · rename_i e5
    subst e5
    have hr : runP Tryz.prog C (fun _ => none) 400 16 #[.int .i64 5, .int .i32 a1] known (fun v => v = .string r) := by
      rw [bytes_run]
      simp only [Go.Ar.ask, cond_eq_ite, decide_eq_true_eq, if_true]
      repeat' split at h
      all_goals (cases h; repeat' split)
      all_goals first | rfl | (exfalso; omega)
    refine (runP_calls mixed same0 (conOk_none _ _) hr rfl rfl hG.known (fun v hv => by rw [hv]; rfl)).mono ?_
    rintro e w1 ⟨v, rfl, rfl, hb⟩
    exact ⟨rfl, hb⟩
  · cases h
end Go.Proofs.YtcaaadaikfnbaaaGreatDoor.HTopUtf
