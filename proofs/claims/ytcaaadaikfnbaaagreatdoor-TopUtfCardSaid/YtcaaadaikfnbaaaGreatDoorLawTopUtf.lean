/- A text of this claim. -/
import Derived.Test.YtcaaadaikfnbaaaGreatDoorRows
import Derived.Test.YtcaaadaikfnbaaaGreatDoorHTopUtfx8
import Derived.Test.YtcaaadaikfnbaaaGreatDoorPureTopUtf
import Derived.Test.YtcaaadaikfnbaaaGreatDoorTie
import Derived.Test.YtcaaadaikfnbaaaGreatDoorCards
import Derived.Lay
import Derived.LaidMore
import Derived.Stop.Joined
import Derived.SevenTiedAt
import Derived.WalkKit
import Derived.ProofKit
import Derived.OpenShut
import Derived.ShutString
import Derived.ChangeOld
import Derived.Below
import Derived.SizedLaws
import Derived.Test.YtcaaadaikfnbaaaGreatDoorWSized
set_option linter.all false
namespace Go.Proofs.YtcaaadaikfnbaaaGreatDoor.topUtf
open Go.ChangeShapes Go.WideShapes Go.ChangeAt Go.RowKit
open Go.ChangeMaps (open_string shut_string)
set_option linter.unusedVariables false
theorem own : ownKnob Tryz.prog.godebug = none := by kernel_rfl
theorem laidOut : laidOutB Tryz.prog = true := by kernel_rfl
def IsRow (k : IntKind) (w : World) (a : Option Addr) (len cap : Nat) (zs : List Int) : Prop :=
  (a = none ∧ len = 0 ∧ cap = 0 ∧ zs = []) ∨
  ∃ x, a = some x ∧ len ≤ cap ∧ cap ≤ maxLen ∧ zs.length = cap ∧ (∀ i, i < zs.length → w.cell? (x.add i) = some (.int k (zs.getD i 0))) ∧ ∀ n ∈ zs, (Lit.int k n).wf = true
section
variable {H : Type} {enc : TypeId × Value → H} {P : Program} {w : World} {base : Nat} {spare : Nat → Bool} {held : Bool} {fuel : Nat} {cs : List Value} {x : DataW H × List MemPlace}
theorem int_at {t : TypeId} {k : IntKind} {z : Int} (ht : P.underlying t = some (.int k)) {y : DataW H × List MemPlace} (h : DataW.trod enc P w base spare held fuel t cs = some y) (hy : y.1 = .lit (.int k z)) : cs = [.int k z] := by
  obtain ⟨n, e1, e2, _⟩ := DataW.trod_int ht h
  subst e2
  cases hy
  exact e1
end
theorem one_at {l : List Value} {o i : Nat} {v : Value} (h : ((l.drop o).take 1) = [v]) (ho : o = i) : l[i]? = some v := by
  subst ho
  have : ((l.drop o).take 1)[0]? = some v := by rw [h]; rfl
  simpa using this
theorem sub_at {l m : List Value} {i k : Nat} {v : Value} (h : m[i]? = some v) (hm : m = (l.drop k).take m.length) : l[k + i]? = some v := by
  rw [hm, List.getElem?_take] at h
  split at h
  · rwa [List.getElem?_drop] at h
  · cases h
theorem glob_of {W : World} (h : laidMetH Tryz.prog Rows.topUtfRow.laid W) : HTopUtf.Glob W := by
  rw [MakeChecks.laidMetH_plain _ _ _ (by kernel_rfl)] at h
  obtain ⟨ps, ⟨g, t, cs, fuel, p, q, hg, ht, hv, hd, ⟨g1, t1, cs1, fuel1, p1, q1, hg1, ht1, hv1, hd1, ⟨g2, t2, cs2, fuel2, p2, q2, hg2, ht2, hv2, hd2, _, _⟩, _⟩, _⟩, _, _⟩ := h
  clear hd1 hv1 ht1 hg1
  obtain rfl := Option.some.inj ((show Tryz.prog.globalNamed "inkhorn/hangul.kinds" = some 2 by kernel_rfl).symm.trans hg)
  obtain rfl := Option.some.inj ((show (Tryz.prog.globals[2]?).map (·.type) = some 216 by kernel_rfl).symm.trans ht)
  obtain rfl := Option.some.inj ((show Tryz.prog.globalNamed "inkhorn/utf8.rows" = some 0 by kernel_rfl).symm.trans hg2)
  obtain rfl := Option.some.inj ((show (Tryz.prog.globals[0]?).map (·.type) = some 61 by kernel_rfl).symm.trans ht2)
  have hR : HTopUtf.Holds W 0 HTopUtf.rowsCells := by
    obtain ⟨xs, m, _, ex, hl0, hl, hel⟩ := DataW.trod_array Tryz.underlying61 hd2
    have c60 : Tryz.prog.cellsOf 60 = 3 := by kernel_rfl
    have c21 : Tryz.prog.cellsOf 21 = 1 := by kernel_rfl
    have c3 : Tryz.prog.cellsOf 3 = 1 := by kernel_rfl
    have e3 : xs.map (·.1) = [.agg [.lit (.int .i32 127), .lit (.int .i64 0), .lit (.int .i64 7)], .agg [.lit (.int .i32 2047), .lit (.int .i64 192), .lit (.int .i64 5)], .agg [.lit (.int .i32 65535), .lit (.int .i64 224), .lit (.int .i64 4)], .agg [.lit (.int .i32 1114111), .lit (.int .i64 240), .lit (.int .i64 3)]] := (DataW.agg.inj (Prod.mk.inj ex).1).symm
    have key : ∀ (i : Nat) (a b c : Int), i < 4 → (xs.map (·.1))[i]? = some (.agg [.lit (.int .i32 a), .lit (.int .i64 b), .lit (.int .i64 c)]) → cs2.toList[i * 3]? = some (.int .i32 a) ∧ cs2.toList[i * 3 + 1]? = some (.int .i64 b) ∧ cs2.toList[i * 3 + 2]? = some (.int .i64 c) := by
      intro i a b c hi hx
      have hE := hel i hi
      rw [c60] at hE
      rw [List.getElem?_map] at hx
      obtain ⟨y, hy, hy1⟩ := Option.map_eq_some_iff.1 hx
      rw [hy] at hE
      obtain ⟨ys, n, _, ey, hyl0, hyl, hyf⟩ := DataW.trod_struct Tryz.underlying60 hE
      subst ey
      have f0 : DataW.trod _ _ _ _ _ _ n 21 (List.take (Tryz.prog.cellsOf 21) (List.drop 0 (List.take 3 (List.drop (i * 3) cs2.toList)))) = ys[0]? := hyf 0 _ rfl
      have f1 : DataW.trod _ _ _ _ _ _ n 3 (List.take (Tryz.prog.cellsOf 3) (List.drop 1 (List.take 3 (List.drop (i * 3) cs2.toList)))) = ys[1]? := hyf 1 _ rfl
      have f2 : DataW.trod _ _ _ _ _ _ n 3 (List.take (Tryz.prog.cellsOf 3) (List.drop 2 (List.take 3 (List.drop (i * 3) cs2.toList)))) = ys[2]? := hyf 2 _ rfl
      have d : ys.map (·.1) = [.lit (.int .i32 a), .lit (.int .i64 b), .lit (.int .i64 c)] := DataW.agg.inj hy1
      match ys, d with
      | [y0, y1, y2], d =>
        simp only [List.map_cons, List.map_nil, List.cons.injEq, and_true] at d
        obtain ⟨d0, d1, d2⟩ := d
        rw [c21] at f0
        rw [c3] at f1 f2
        simp only [List.getElem?_cons_zero, List.getElem?_cons_succ] at f0 f1 f2
        have g0 := one_at (i := 0) (int_at Tryz.underlying21 f0 d0) rfl
        have g1 := one_at (i := 1) (int_at Tryz.underlying3 f1 d1) rfl
        have g2 := one_at (i := 2) (int_at Tryz.underlying3 f2 d2) rfl
        simp only [List.getElem?_take, List.getElem?_drop] at g0 g1 g2
        exact ⟨by simpa using g0, by simpa using g1, by simpa using g2⟩
    have k0 := key 0 127 0 7 (by decide) (by rw [e3]; rfl)
    have k1 := key 1 2047 192 5 (by decide) (by rw [e3]; rfl)
    have k2 := key 2 65535 224 4 (by decide) (by rw [e3]; rfl)
    have k3 := key 3 1114111 240 3 (by decide) (by rw [e3]; rfl)
    simp only [Array.getElem?_toList] at k0 k1 k2 k3
    intro j v hj
    have hc := World.var?_cell hg2 hv2 j
    rw [hc]
    have hj12 : j < 12 := (List.getElem?_eq_some_iff.1 hj).1
    rcases j with _ | _ | _ | _ | _ | _ | _ | _ | _ | _ | _ | _ | j
    · exact k0.1.trans hj
    · exact k0.2.1.trans hj
    · exact k0.2.2.trans hj
    · exact k1.1.trans hj
    · exact k1.2.1.trans hj
    · exact k1.2.2.trans hj
    · exact k2.1.trans hj
    · exact k2.2.1.trans hj
    · exact k2.2.2.trans hj
    · exact k3.1.trans hj
    · exact k3.2.1.trans hj
    · exact k3.2.2.trans hj
    · omega
  have hK : HTopUtf.Holds W 2 HTopUtf.kindsCells := by
    obtain ⟨xs, m, _, ex, hl0, hl, hel⟩ := DataW.trod_array Tryz.underlying216 hd
    have c215 : Tryz.prog.cellsOf 215 = 2 := by kernel_rfl
    have c21 : Tryz.prog.cellsOf 21 = 1 := by kernel_rfl
    have e3 : xs.map (·.1) = [.agg [.lit (.int .i32 4352), .lit (.int .i32 19)], .agg [.lit (.int .i32 4449), .lit (.int .i32 21)], .agg [.lit (.int .i32 4519), .lit (.int .i32 28)]] := (DataW.agg.inj (Prod.mk.inj ex).1).symm
    have key : ∀ (i : Nat) (a b : Int), i < 3 → (xs.map (·.1))[i]? = some (.agg [.lit (.int .i32 a), .lit (.int .i32 b)]) → cs.toList[i * 2]? = some (.int .i32 a) ∧ cs.toList[i * 2 + 1]? = some (.int .i32 b) := by
      intro i a b hi hx
      have hE := hel i hi
      rw [c215] at hE
      rw [List.getElem?_map] at hx
      obtain ⟨y, hy, hy1⟩ := Option.map_eq_some_iff.1 hx
      rw [hy] at hE
      obtain ⟨ys, n, _, ey, hyl0, hyl, hyf⟩ := DataW.trod_struct Tryz.underlying215 hE
      subst ey
      have f0 : DataW.trod _ _ _ _ _ _ n 21 (List.take (Tryz.prog.cellsOf 21) (List.drop 0 (List.take 2 (List.drop (i * 2) cs.toList)))) = ys[0]? := hyf 0 _ rfl
      have f1 : DataW.trod _ _ _ _ _ _ n 21 (List.take (Tryz.prog.cellsOf 21) (List.drop 1 (List.take 2 (List.drop (i * 2) cs.toList)))) = ys[1]? := hyf 1 _ rfl
      have d : ys.map (·.1) = [.lit (.int .i32 a), .lit (.int .i32 b)] := DataW.agg.inj hy1
      match ys, d with
      | [y0, y1], d =>
        simp only [List.map_cons, List.map_nil, List.cons.injEq, and_true] at d
        obtain ⟨d0, d1⟩ := d
        rw [c21] at f0 f1
        simp only [List.getElem?_cons_zero, List.getElem?_cons_succ] at f0 f1
        have g0 := one_at (i := 0) (int_at Tryz.underlying21 f0 d0) rfl
        have g1 := one_at (i := 1) (int_at Tryz.underlying21 f1 d1) rfl
        simp only [List.getElem?_take, List.getElem?_drop] at g0 g1
        exact ⟨by simpa using g0, by simpa using g1⟩
    have k0 := key 0 4352 19 (by decide) (by rw [e3]; rfl)
    have k1 := key 1 4449 21 (by decide) (by rw [e3]; rfl)
    have k2 := key 2 4519 28 (by decide) (by rw [e3]; rfl)
    simp only [Array.getElem?_toList] at k0 k1 k2
    intro j v hj
    have hc := World.var?_cell hg hv j
    rw [hc]
    have hj12 : j < 6 := (List.getElem?_eq_some_iff.1 hj).1
    rcases j with _ | _ | _ | _ | _ | _ | j
    · exact k0.1.trans hj
    · exact k0.2.trans hj
    · exact k1.1.trans hj
    · exact k1.2.trans hj
    · exact k2.1.trans hj
    · exact k2.2.trans hj
    · omega
  exact ⟨World.block_lt_of_cell? W ⟨2, 0, none⟩ (hK 0 _ rfl), hR, hK⟩
set_option maxRecDepth 100000 in
theorem lifted (os : Os) (started : os.Started) (H : Type) (enc : TypeId × Value → H) :
    ReturnsInHanded {} Tryz.checked os 3 .any (fun w args => (Rows.topUtfSpec.pre enc Tryz.prog Tryz.f3 Rows.topUtfRow.domain false w args ∧ laidMetH Tryz.prog Rows.topUtfRow.laid w) ∧ sizedMet enc Tryz.prog Tryz.f3 (OpenSpec.ofChange Rows.topUtfSpec) false w args)
      (Rows.topUtfSpec.post enc Tryz.prog Tryz.f3 false true false false) := by
  refine returnsInHanded_of_change_and (C := Tryz.checked) (X := fun w _ => laidMetH Tryz.prog Rows.topUtfRow.laid w) (fun _ _ _ hh h => h.of_heap hh) own started (by kernel_rfl) Tryz.func3
    (ChangeSpec.witness_shaped (enc := enc) (C := Tryz.checked) (os := os) (X := fun w _ => laidMetH Tryz.prog Rows.topUtfRow.laid w) false (World.laidAll Tryz.prog os Rows.topUtfRow.laid) #[.int .i64 0, .string ByteArray.empty, .int .i64 0, .slice none 0 0] 8 (World.laidAll_os _ _ _)
      (World.shaped_of_ZipB (by kernel_rfl) (by kernel_rfl)) (by kernel_rfl) (by kernel_rfl) (by kernel_rfl)
      (by rw [MakeChecks.laidMetH_plain _ _ _ (by kernel_rfl)]; exact laidMet_laidAll _ (by kernel_rfl) (by kernel_rfl))) ?_
  intro W base args ds gs before hval0 hW hcnd hsz0 hL _
  have hsz : (DataW.weightsEach Tryz.prog (Tryz.f3.params.toList ++ Rows.topUtfSpec.plain.varTypes Tryz.prog) (ds ++ gs)).all (· ≤ reachBytes) = true := hsz0
  have hval : ∀ (j : Nat) t v, Tryz.f3.params[j]? = some t → args[j]? = some v → Value.okWide Tryz.prog W .any base t v := hval0
  have hW' := hW
  obtain ⟨p, q, hA0, hV, rfl, hfz, hnd⟩ := hW
  have hA : DataW.TrodAll enc Tryz.prog W 0 (fun _ => true) true Tryz.f3.params.toList args.toList ds p := hA0
  rw [Tryz.params3] at hA hval hsz
  obtain ⟨v0, vs0, d0, ds0, p0, q0, hargs, rfl, rfl, h0, r0⟩ := trodAll_cons hA
  obtain ⟨v1, vs1, d1, ds1, p1, q1, rfl, rfl, rfl, h1, r1⟩ := trodAll_cons r0
  obtain ⟨v2, vs2, d2, ds2, p2, q2, rfl, rfl, rfl, h2, r2⟩ := trodAll_cons r1
  obtain ⟨v3, vs3, d3, ds3, p3, q3, rfl, rfl, rfl, h3, r3⟩ := trodAll_cons r2
  obtain ⟨rfl, rfl, rfl⟩ := trodAll_nil r3
  obtain rfl : args = #[v0, v1, v2, v3] := by cases args; simp_all
  obtain ⟨rfl, rfl⟩ := trodVars_none hV
  obtain ⟨a0, rfl, rfl, rfl, w0⟩ := open_int Tryz.underlying3 (hval 0 3 v0 rfl rfl) h0
  obtain ⟨a1, rfl, rfl, rfl, y1⟩ := open_string Tryz.underlying9 (hval 1 9 v1 rfl rfl) h1
  have w1 : a1.size ≤ 140737488351232 := by
    have z := sized_string hsz (j := 1) (t := 9) rfl rfl
    rw [Array.length_toList] at z
    exact z
  obtain ⟨a2, rfl, rfl, rfl, w2⟩ := open_int Tryz.underlying3 (hval 2 3 v2 rfl rfl) h2
  obtain ⟨a3, len3, cap3, rfl⟩ := okWide_slice Tryz.underlying22 (hval 3 22 v3 rfl rfl)
  have k3 := h3
  have lt3 : ∀ x ∈ p3, x.block < W.heap.size := by obtain ⟨m, hm⟩ := k3; exact DataW.trod_lt m _ _ _ hm
  obtain ⟨z3, w3⟩ : ∃ zs, IsRow .i32 W a3 len3 cap3 zs := by
    obtain ⟨fuel, hf⟩ := h3
    rcases open_ints Tryz.underlying22 Tryz.underlying21 (by kernel_rfl) hf with ⟨hcs, _⟩ | ⟨x, l, c, zs, hcs, _, hl, hm, hz, _, hcell, hwz⟩
    · simp [Value.cells] at hcs
      obtain ⟨rfl, rfl, rfl⟩ := hcs
      exact ⟨[], .inl ⟨rfl, rfl, rfl, rfl⟩⟩
    · simp [Value.cells] at hcs
      obtain ⟨rfl, rfl, rfl⟩ := hcs
      exact ⟨zs, .inr ⟨_, rfl, hl, hm, by simpa using hz, hcell, hwz⟩⟩
  have y3 : len3 * 4 ≤ 140737488351232 := Go.Proofs.YtcaaadaikfnbaaaGreatDoorW.PrintWords.sized_ints hsz (j := 3) (t := 22) rfl rfl Tryz.underlying22 Tryz.underlying21 (by kernel_rfl) (by kernel_rfl) h3
  clear hA0 hval0 hsz0 hsz
  have hG := glob_of hL
  refine (HTopUtf.inkhorntop_TopUtf.walk Pure.TopUtf a0 a1 a2 a3 len3 cap3 z3 W hG w0 w1 w2 w3 y3).mono fun e W' ⟨he, bel⟩ => ?_
  subst he
  exact ⟨_, rfl, _, _, _, [], _, [], hW', trodAll_mk1 (shut_bool Tryz.underlying4 _), (trodAll_cons_mk (shut_int Tryz.underlying3 w0) (trodAll_cons_mk (shut_string Tryz.underlying9 y1) (trodAll_cons_mk (shut_int Tryz.underlying3 w2) (trodAll_cons_mk (Below.trod laidOut (by kernel_rfl) (of_decide_eq_true (by kernel_rfl)) k3 bel lt3) trodAll_mk0)))), rfl, bel.frame _, fun h => by cases h⟩
theorem over : Rows.topUtfRow.holds Tryz.pinned (OpenSpec.ofChange Rows.topUtfSpec) :=
  OpenClaim.holds_of_wide 3 Tryz.f3 rfl rfl rfl rfl rfl rfl rfl ⟨rfl, rfl, rfl, rfl, rfl⟩ rfl rfl rfl rfl rfl (by kernel_rfl) Tryz.func3 (by kernel_rfl)
    (of_decide_eq_true (by kernel_rfl)) (by unfold Func.isWrapper; first | (rw [if_pos (by decide +kernel)]; kernel_rfl) | (rw [if_neg (by decide +kernel)]; exact ⟨rfl, rfl⟩))
    (fun os started H enc _ => lifted os started H enc)
theorem proved : Rows.TopUtfSaid := over
theorem card_holds : Rows.TopUtfCardSaid :=
  Claim7.holds_tied_plain_at .later [] [.data, .data, .data, .pinned] true (true, "33ed11e432ded13f849410557fc04b56cd1b81f2cfab13cae2e12b399cfcbf72") false proved (fun _ h => by cases h) (by kernel_rfl) (fun _ h => by cases h) topUtf_row_tie rfl ⟨rfl, rfl⟩ (by kernel_rfl) rfl
    (fun f fn hf hfn => by
      obtain rfl : f = 3 := Option.some.inj ((show Tryz.prog.funcNamed "inkhorn/inkhorntop.TopUtf" = some 3 by kernel_rfl).symm.trans hf) |>.symm
      obtain rfl : fn = Tryz.f3 := (Option.some.inj (Tryz.func3.symm.trans hfn)).symm
      exact ⟨by kernel_rfl, fun j t ht => by
        rw [Tryz.params3] at ht
        have hm : t ∈ [3, 9, 3, 22] := by simpa using Array.mem_of_getElem? ht
        have hall : ([3, 9, 3, 22].all fun u => !Tryz.prog.wantsStandIn u) = true := by kernel_rfl
        exact (show Tryz.prog.wantsStandIn t = false by simpa using List.all_eq_true.1 hall t hm)⟩)
    (by kernel_rfl)
#print axioms proved
#print axioms card_holds
end Go.Proofs.YtcaaadaikfnbaaaGreatDoor.topUtf
namespace Go.Proofs.YtcaaadaikfnbaaaGreatDoor
theorem topUtfCard_holds : Rows.TopUtfCardSaid := topUtf.card_holds
end Go.Proofs.YtcaaadaikfnbaaaGreatDoor
