/- A text of this claim. -/
import Derived.Test.YtcaaadaikfnbaaaGreatDoorHandB
set_option linter.all false
namespace Go.Proofs.YtcaaadaikfnbaaaGreatDoor.HTopUtf
open Go Go.Ar Go.RowKit Go.Proofs.YtcaaadaikfnbaaaGreatDoorW.PrintWords Go.Proofs.YtcaaadaikfnbaaaGreatDoorW.PrintLast Go.Proofs.YtcaaadaikfnbaaaGreatDoorW.PrintMore
def encRest (bs : List Int) : List Int → Option (List Int)
  | [] => some bs
  | x :: r =>
    if utf8_Len.f x = some 1 then encRest (bs ++ put_1 x) r
    else if utf8_Len.f x = some 2 then encRest (bs ++ put_2 x) r
    else if utf8_Len.f x = some 3 then encRest (bs ++ put_3 x) r
    else if utf8_Len.f x = some 4 then encRest (bs ++ put_4 x) r
    else none
def encAns : Option (List Int) → ByteArray × Int
  | some bs => (bytesI bs, 0)
  | none => (⟨#[]⟩, 11)
def encV (p : ByteArray × Int) : Value := .tuple #[.string p.1, .int .i64 p.2]
theorem len_cases (x : Int) : utf8_Len.f x = some 0 ∨ utf8_Len.f x = some 1 ∨ utf8_Len.f x = some 2 ∨ utf8_Len.f x = some 3 ∨ utf8_Len.f x = some 4 := by
  unfold utf8_Len.f
  repeat' split
  all_goals simp
theorem at_eq {pre r : List Int} {x : Int} {off : Nat} : at_ (pre ++ x :: r) off (pre.length : Int) = x := by
  unfold at_
  simp
theorem ask_i {p : Prop} [Decidable p] {A : Prop} (h : p) (hA : A) : Go.Ar.ask (decide p) A := by
  rw [decide_eq_true h]; exact hA
theorem ask_true {A : Prop} (h : A) : Go.Ar.ask true A := h
theorem rnd_in {pre r : List Int} {x : Int} {off : Nat} {n : Int} {A B : Prop} (hl : utf8_Len.f x = some n) (hA : A) : rnd (pre ++ x :: r) off (pre.length : Int) n A B := by
  unfold rnd
  have h1 : (pre.length : Int) < ((pre ++ x :: r).length : Int) := by simp; omega
  rw [decide_eq_true h1, cond_true]
  refine ask_i (by omega) (ask_true (ask_i (by omega) (ask_i ?_ (ask_i (by rw [at_eq]; exact hl) hA))))
  simp
theorem rnd_out {pre : List Int} {off : Nat} {n : Int} {A B : Prop} (hB : B) : rnd pre off (pre.length : Int) n A B := by
  unfold rnd
  rw [decide_eq_false (by omega), cond_false]; exact hB
theorem two_i {pre r : List Int} {x : Int} {off : Nat} {n : Int} {A : Prop} (hl : utf8_Len.f x = some n) (hA : A) : two (pre ++ x :: r) off (pre.length : Int) n A := ask_i (by rw [at_eq]; exact hl) hA
theorem more_i {n : Nat} {bs : List Int} {A : Prop} (h : n = bs.length) (hn : n + 1 ≤ 2 ^ 40) (hA : A) : more n bs A := ask_i h (ask_i (by omega) (ask_i hn hA))
theorem out1_i {n : Nat} {bs : List Int} {R : Value → Prop} (h : n = bs.length) (h0 : bs ≠ []) (hn : n ≤ 2 ^ 40) (hR : R (encV (encAns (some bs)))) : out1 n bs R := by
  unfold out1
  have h1 : bs.length ≠ 0 := by intro e; exact h0 (List.length_eq_zero_iff.1 e)
  refine ask_i h1 (ask_i rfl ?_)
  have e : (decide ((some ⟨6, 0, none⟩ : Option Addr) = some ⟨6, 0, none⟩) && n == n && BIG + 6 == BIG + 6) = true := by simp
  rw [e]
  refine ask_i (by omega) (ask_i (by omega) (ask_i ?_ hR))
  have : IntKind.i64.max = 9223372036854775807 := rfl
  rw [this]; omega
theorem go_run {n : Int} {fr : FFr} {H : AH} {R : Value → Prop} (h : runL n fr H R) : GWr Tryz.prog 5 fr H fun v _ => R v :=
  ⟨sRun_sound (C := CE) mixed same84 (conLen_ok n) (relOut Tryz.prog 5) SW_ok h⟩
theorem enc_loop (r : List Int) : ∀ (pre l : List Int) (d1 d2 : Value) (bs : List Int) (n : Nat) (off : Nat), l = pre ++ r → bs ≠ [] → n = bs.length → n + 4 * r.length ≤ 2 ^ 40 → pre.length + r.length ≤ 2 ^ 40 →
    GWr Tryz.prog 5 (FE d1 d2 (pre.length : Int) l off 7) (HE1 n bs l off) fun v _ => v = encV (encAns (encRest bs r)) := by
  induction r with
  | nil =>
    intro pre l d1 d2 bs n off hl h0 hn hb _
    rw [List.append_nil] at hl; subst hl
    refine go_run (n := 0) ?_
    rw [enc1_0]
    exact rnd_out (out1_i hn h0 (by omega) rfl)
  | cons x r ih =>
    intro pre l d1 d2 bs n off hl h0 hn hb hp
    subst hl
    simp only [List.length_cons] at hb hp
    have hw : IntKind.wrap .i64 ((pre.length : Int) + 1) = ((pre ++ [x]).length : Int) := by
      rw [w64 (by omega) (by omega)]; simp
    have hsp : pre ++ x :: r = (pre ++ [x]) ++ r := by simp
    have hlp : (pre ++ [x]).length = pre.length + 1 := by simp
    rcases len_cases x with h | h | h | h | h
    · refine go_run (n := 0) ?_
      rw [enc1_0]
      refine rnd_in h ?_
      simp [encRest, h, encAns, encV]
    · refine go_run (n := 1) ?_
      rw [enc1_1, at_eq, hw]
      refine rnd_in h (two_i h (more_i hn (by omega) ?_))
      have := ih (pre ++ [x]) (pre ++ x :: r) (.bool true) (.bool false) (bs ++ put_1 x) (n + 1) off hsp (by simp [h0]) (by simp [put_1]; omega) (by omega) (by omega)
      simp only [encRest, h, if_true]
      simpa [put_1] using this
    · refine go_run (n := 2) ?_
      rw [enc1_2, at_eq, hw]
      refine rnd_in h (two_i h (more_i hn (by omega) (more_i (by simp; omega) (by omega) ?_)))
      have := ih (pre ++ [x]) (pre ++ x :: r) (.bool true) (.bool false) (bs ++ put_2 x) (n + 1 + 1) off hsp (by simp [h0]) (by simp [put_2]; omega) (by omega) (by omega)
      have e : encRest bs (x :: r) = encRest (bs ++ put_2 x) r := by simp [encRest, h]
      rw [e]
      simpa [put_2] using this
    · refine go_run (n := 3) ?_
      rw [enc1_3, at_eq, hw]
      refine rnd_in h (two_i h (more_i hn (by omega) (more_i (by simp; omega) (by omega) (more_i (by simp; omega) (by omega) ?_))))
      have := ih (pre ++ [x]) (pre ++ x :: r) (.bool true) (.bool false) (bs ++ put_3 x) (n + 1 + 1 + 1) off hsp (by simp [h0]) (by simp [put_3]; omega) (by omega) (by omega)
      have e : encRest bs (x :: r) = encRest (bs ++ put_3 x) r := by simp [encRest, h]
      rw [e]
      simpa [put_3] using this
    · refine go_run (n := 4) ?_
      rw [enc1_4, at_eq, hw]
      refine rnd_in h (two_i h (more_i hn (by omega) (more_i (by simp; omega) (by omega) (more_i (by simp; omega) (by omega) (more_i (by simp; omega) (by omega) ?_)))))
      have := ih (pre ++ [x]) (pre ++ x :: r) (.bool true) (.bool false) (bs ++ put_4 x) (n + 1 + 1 + 1 + 1) off hsp (by simp [h0]) (by simp [put_4]; omega) (by omega) (by omega)
      have e : encRest bs (x :: r) = encRest (bs ++ put_4 x) r := by simp [encRest, h]
      rw [e]
      simpa [put_4] using this
theorem enc_loop0 (r : List Int) : ∀ (d1 d2 : Value) (l : List Int) (off : Nat), l = r → 4 * r.length ≤ 2 ^ 40 →
    GWr Tryz.prog 5 (FE d1 d2 0 l off 6) (HE0 l off) fun v _ => v = encV (encAns (encRest [] r)) := by
  intro d1 d2 l off hl hb
  subst hl
  cases l with
  | nil =>
    refine go_run (n := 0) ?_
    rw [enc0_0]
    exact rnd_out (pre := []) (B := out0 fun v => v = encV (encAns (encRest [] []))) rfl
  | cons x r =>
    simp only [List.length_cons] at hb
    have hw : IntKind.wrap .i64 ((0 : Int) + 1) = (([x] : List Int).length : Int) := by rw [w64 (by omega) (by omega)]; rfl
    have hat : at_ (x :: r) off 0 = x := at_eq (pre := [])
    have loop : ∀ (bs : List Int) (n : Nat), bs ≠ [] → n = bs.length → n ≤ 4 → encRest [] (x :: r) = encRest bs r → GWr Tryz.prog 5 (FE (.bool true) (.bool false) (([x] : List Int).length : Int) (x :: r) off 7) (HE1 n bs (x :: r) off) fun v _ => v = encV (encAns (encRest [] (x :: r))) := by
      intro bs n h0 hn hn4 he
      rw [he]
      exact enc_loop r [x] (x :: r) (.bool true) (.bool false) bs n off rfl h0 hn (by omega) (by simp; omega)
    rcases len_cases x with h | h | h | h | h
    · refine go_run (n := 0) ?_
      rw [enc0_0]
      refine rnd_in (pre := []) h ?_
      simp [encRest, h, encAns, encV]
    · refine go_run (n := 1) ?_
      rw [enc0_1, hat, hw]
      exact rnd_in (pre := []) h (two_i (pre := []) h (loop (put_1 x) 1 (by simp [put_1]) rfl (by omega) (by simp [encRest, h])))
    · refine go_run (n := 2) ?_
      rw [enc0_2, hat, hw]
      exact rnd_in (pre := []) h (two_i (pre := []) h (loop (put_2 x) 2 (by simp [put_2]) rfl (by omega) (by simp [encRest, h])))
    · refine go_run (n := 3) ?_
      rw [enc0_3, hat, hw]
      exact rnd_in (pre := []) h (two_i (pre := []) h (loop (put_3 x) 3 (by simp [put_3]) rfl (by omega) (by simp [encRest, h])))
    · refine go_run (n := 4) ?_
      rw [enc0_4, hat, hw]
      exact rnd_in (pre := []) h (two_i (pre := []) h (loop (put_4 x) 4 (by simp [put_4]) rfl (by omega) (by simp [encRest, h])))
set_option maxRecDepth 100000
noncomputable def encStart (args : Array Value) (extra : List AO) (R : Value → Prop) : Prop :=
  match enterF Tryz.prog 18 args, startS known extra with
  | some fr, some H => sRun Tryz.prog CE (conLen 0) 400 (SW Tryz.prog 5 (fun _ => [4, 7, 8, 9])) (some []) fr H fun v _ => R v
  | _, _ => False
noncomputable def encStartN (args : Array Value) (extra : List AO) (R : Value → Prop) : Prop :=
  match enterF Tryz.prog 18 args, startS known extra with
  | some fr, some H => sRun Tryz.prog CE (conLen 0) 400 (SW Tryz.prog 5 (fun _ => [4, 7, 8, 9])) none fr H fun v _ => R v
  | _, _ => False
theorem enc_start (R : Value → Prop) (l : List Int) (off : Nat) : encStart #[.slice (some ⟨5, off, none⟩) l.length (BIG + 5)] [.intsAt off .i32 l] R =
    GWr Tryz.prog 5 (FE (.chan (some 0)) (.chan (some 0)) 0 l off 6) (HE0 l off) fun v _ => R v := by kernel_rfl
theorem enc_startE (R : Value → Prop) (off : Nat) (sp : Option Nat) : encStartN #[.slice (some ⟨5, off, sp⟩) 0 (BIG + 5)] [.intsAt off .i32 []] R = R (encV (⟨#[]⟩, 0)) := by kernel_rfl
theorem enc_startN (R : Value → Prop) : encStartN #[.slice none 0 (BIG + 5)] [.intsAt 0 .i32 []] R = R (encV (⟨#[]⟩, 0)) := by kernel_rfl
def utf8_Encode.f (l0 : List Int) : Option (ByteArray × Int) := if l0.length ≤ 1000000 then some (encAns (encRest [] l0)) else none
theorem enc_of {args args' : Array Value} {extra : List AO} {path : Option (List Bool)} {R : Value → Prop} {w : World} {ρ : Rho} {fr : FFr} {H : AH} (hen : enterF Tryz.prog 18 args = some fr) (hst : startS known extra = some H)
    (h : sRun Tryz.prog CE (conLen 0) 400 (SW Tryz.prog 5 (fun _ => [4, 7, 8, 9])) path fr H fun v _ => R v) (hs : Sat Tryz.prog 5 ρ (startH known ++ extra.map AO.abs) w)
    (hno : ∀ o ∈ extra, isOwn o.abs = false) (ha : AR ρ args args') (hp : ∀ v, R v → plain v = true) :
    Calls Tryz.prog 18 args' w fun e w' => ∃ v, R v ∧ e = .returned v ∧ Below w.heap.size w w' := by
  have hgw := sRun_sound (C := CE) mixed same84 (conLen_ok 0) (relOut Tryz.prog 5) (SW_ok (live := fun _ => [4, 7, 8, 9])) h
  have he := startS_abs hst
  refine Calls.mono (calls_of_gw (C := CE) hen hgw (by rw [he]; exact hs) ?_ ha) ?_
  · intro i o hi
    rw [he, List.getElem?_append] at hi
    split at hi
    · exact startH_no i o hi
    · have := List.mem_of_getElem? hi
      rw [List.mem_map] at this
      obtain ⟨x, hx, rfl⟩ := this
      exact hno x hx
  · rintro e w1 ⟨ρ1, v, v', H1, hR, rfl, hv, _, hb, _⟩
    exact ⟨v, hR, by rw [plain_eq (hp v hR) hv], hb⟩
theorem sat_start {w : World} (hG : Glob w) (b cap off : Nat) (l : List Int) (hc : ∀ (j : Nat) (x : Int), l[j]? = some x → w.cell? ⟨b, off + j, none⟩ = some (.int .i32 x)) :
    Sat Tryz.prog 5 ((startRho 5).put 5 b cap) (startH known ++ [AO.intsAt off .i32 l].map AO.abs) w := by
  have h := start_sat (P := Tryz.prog) (C := CE) (w := w) (known := known) rfl hG.known
  refine h.addPart startH_no (by decide) ?_
  intro j v hj
  simp only [List.getElem?_map, Option.map_eq_some_iff] at hj
  obtain ⟨x, hx, rfl⟩ := hj
  exact ⟨rfl, hc j x hx⟩
theorem utf8_Encode.calls1 (A0 : Option Addr) (c0 : Nat) (l0 : List Int) (r1 : ByteArray) (r2 : Int) (w : World) (hG : Glob w) (hr0 : Kd.C (Kd.int .i32) w A0 l0.length l0) (hc0 : l0.length ≤ c0) (h : utf8_Encode.f l0 = some (r1, r2)) :
    Calls Tryz.prog 18 #[.slice A0 l0.length c0] w fun e w' => e = .returned (.tuple #[.string r1, .int .i64 r2]) ∧ Below w.heap.size w w' := by
  unfold utf8_Encode.f at h
  split at h
  case isFalse => cases h
  case isTrue hlen =>
    have hres : encAns (encRest [] l0) = (r1, r2) := by injection h
    have hplain : ∀ v, v = encV (r1, r2) → plain v = true := by rintro v rfl; rfl
    have fin : ∀ {args : Array Value} {extra : List AO} {path : Option (List Bool)} {ρ : Rho} {fr : FFr} {H : AH}, enterF Tryz.prog 18 args = some fr → startS known extra = some H →
        sRun Tryz.prog CE (conLen 0) 400 (SW Tryz.prog 5 (fun _ => [4, 7, 8, 9])) path fr H (fun v _ => v = encV (r1, r2)) → Sat Tryz.prog 5 ρ (startH known ++ extra.map AO.abs) w →
        (∀ o ∈ extra, isOwn o.abs = false) → AR ρ args #[.slice A0 l0.length c0] → Calls Tryz.prog 18 #[.slice A0 l0.length c0] w fun e w' => e = .returned (.tuple #[.string r1, .int .i64 r2]) ∧ Below w.heap.size w w' := by
      intro args extra path ρ fr H h1 h2 h3 h4 h5 h6
      refine Calls.mono (enc_of h1 h2 h3 h4 h5 h6 hplain) ?_
      rintro e w1 ⟨v, rfl, rfl, hb⟩
      exact ⟨rfl, hb⟩
    have one : ∀ {ρ : Rho} {v v' : Value}, VR ρ v v' → AR ρ #[v] #[v'] := fun hv => AR.toList.2 (.cons hv .nil)
    have hown : ∀ (off : Nat) (l : List Int), ∀ o ∈ [AO.intsAt off .i32 l], isOwn o.abs = false := by intro off l o ho; simp at ho; subst ho; rfl
    have hcap : ∀ b, CapR ((startRho 5).put 5 b c0) (BIG + 5) c0 := fun b => .inr ⟨by omega, by rw [Nat.add_sub_cancel_left, put_cap, if_pos rfl]⟩
    by_cases h0 : l0 = []
    · subst h0
      have hr : (r1, r2) = ((⟨#[]⟩ : ByteArray), (0 : Int)) := by rw [← hres]; rfl
      cases A0 with
      | none =>
        have hrun := enc_startN (fun v => v = encV (r1, r2))
        rw [hr] at hrun
        have hrun : encStartN #[.slice none 0 (BIG + 5)] [.intsAt 0 .i32 []] (fun v => v = encV ((⟨#[]⟩ : ByteArray), (0 : Int))) := by rw [hrun]
        rw [← hr] at hrun
        unfold encStartN at hrun
        split at hrun
        · rename_i fr H hen hst
          exact fin hen hst hrun (sat_start hG 0 c0 0 [] (fun j x hx => by simp at hx)) (hown _ _) (one (.nilSlice _ _ _ (hcap 0)))
        · exact hrun.elim
      | some ad =>
        obtain ⟨b, off, sp⟩ := ad
        have hrun := enc_startE (fun v => v = encV (r1, r2)) off sp
        rw [hr] at hrun
        have hrun : encStartN #[.slice (some ⟨5, off, sp⟩) 0 (BIG + 5)] [.intsAt off .i32 []] (fun v => v = encV ((⟨#[]⟩ : ByteArray), (0 : Int))) := by rw [hrun]
        rw [← hr] at hrun
        unfold encStartN at hrun
        split at hrun
        · rename_i fr H hen hst
          exact fin hen hst hrun (sat_start hG b c0 off [] (fun j x hx => by simp at hx)) (hown _ _) (one (.slice _ _ _ _ _ _ _ (by rw [put_blk, if_pos rfl]) (hcap b)))
        · exact hrun.elim
    · have hn : 0 < l0.length := List.length_pos_iff.2 h0
      obtain ⟨_, _, hcells⟩ := hr0
      obtain ⟨ad, hA, hcell1⟩ := hcells hn
      subst hA
      obtain ⟨b, off, sp⟩ := ad
      have cell : ∀ (j : Nat) (x : Int), l0[j]? = some x → w.cell? (Addr.add ⟨b, off, sp⟩ j) = some (.int .i32 x) := by
        intro j x hx
        obtain ⟨c, hcl, hK, hc⟩ := hcell1 j x hx
        have hK : c = [.int .i32 x] := hK
        subst hK
        have := hc 0 _ rfl
        simpa [Kd.int, Kd.scalar] using this
      have hsp : sp = none := by
        obtain ⟨x, hx⟩ : ∃ x, l0[0]? = some x := ⟨_, List.getElem?_eq_getElem hn⟩
        have h1 := cell 0 x hx
        have e : Addr.add ⟨b, off, sp⟩ 0 = ⟨b, off, sp⟩ := rfl
        rw [e] at h1
        cases sp with
        | none => rfl
        | some s =>
          unfold World.cell? at h1
          cases ho : w.heap[b]? with
          | none => simp [ho] at h1
          | some o => cases o <;> simp [ho] at h1
      subst hsp
      have cell : ∀ (j : Nat) (x : Int), l0[j]? = some x → w.cell? ⟨b, off + j, none⟩ = some (.int .i32 x) := fun j x hx => by rw [← add_none]; exact cell j x hx
      have hrun : encStart #[.slice (some ⟨5, off, none⟩) l0.length (BIG + 5)] [.intsAt off .i32 l0] (fun v => v = encV (r1, r2)) := by
        rw [enc_start, ← hres]
        exact enc_loop0 l0 _ _ l0 off rfl (by omega)
      unfold encStart at hrun
      split at hrun
      · rename_i fr H hen hst
        exact fin hen hst hrun (sat_start hG b c0 off l0 cell) (hown _ _) (one (.slice _ _ _ _ _ _ _ (by rw [put_blk, if_pos rfl]) (hcap b)))
      · exact hrun.elim
theorem utf8_Encode.calls (A0 : Option Addr) (c0 : Nat) (l0 : List Int) (r1 : ByteArray) (r2 : Int) (w : World) (hG : Glob w) {n0 : Nat} (hr0 : Kd.C (Kd.int .i32) w A0 n0 l0) (hc0 : n0 ≤ c0) (h : utf8_Encode.f l0 = some (r1, r2)) :
    Calls Tryz.prog 18 #[.slice A0 n0 c0] w fun e w' => e = .returned (.tuple #[.string r1, .int .i64 r2]) ∧ Below w.heap.size w w' := by
  have hn : l0.length = n0 := hr0.1
  subst hn
  exact utf8_Encode.calls1 A0 c0 l0 r1 r2 w hG hr0 hc0 h
end Go.Proofs.YtcaaadaikfnbaaaGreatDoor.HTopUtf
