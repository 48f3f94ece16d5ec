/-
  ABBR, WALKED: an offset read from its text.
-/
import Derived.Test.YtknnadihmodnfaaDoorAb3
import Derived.Deep.QuietTactic
import Derived.BigQuiet
import Derived.Lib.ConvBytes
namespace Go.Proofs.YtknnadihmodnfaaDoor.Ab
open Go.ChangeShapes Go.WideShapes Go.ChangeAt Go.RowKit
open Go.Proofs.YtknnadihmodnfaaDoor
open Go.Proofs.YtknnadihmodnfaaDoor.Wd
open Go.Lib (byteCells)
set_option linter.unusedVariables false
def pt (k : Nat) : Int := if k = 0 then 3600 else if k = 1 then 60 else if k = 2 then 1 else 0
theorem pt_of {k : Nat} (h : k < 3) : (pt k = 3600 ∨ pt k = 60 ∨ pt k = 1) ∧ pt (k + 1) = pt k / 60 := by
  have : k = 0 ∨ k = 1 ∨ k = 2 := by omega
  rcases this with rfl | rfl | rfl <;> decide
def pv (x y : UInt8) : Int := ((x.toNat : Int) - 48) * 10 + ((y.toNat : Int) - 48)
/-- what has been read, k parts in -/
def Rdg (s : ByteArray) (k : Nat) (o : Int) : Prop := ((L s).tail.take (2 * k)).all digB = true ∧ numT (L s).tail 3600 = o + numT ((L s).tail.drop (2 * k)) (pt k)
theorem tail_at (s : ByteArray) (j : Nat) (h : j + 1 < s.size) : ∃ hq, (L s).tail[j]'hq = s[j + 1] := by
  have hl := L_len s
  refine ⟨by rw [List.length_tail]; omega, ?_⟩
  rw [List.getElem_tail]; rfl
theorem Rdg.next {s : ByteArray} {k j : Nat} {o p : Int} (h : Rdg s k o) (hp : pt k = p) (hk : k < 3) (hj : j = 1 + 2 * k) (h1 : j < s.size) (h2 : j + 1 < s.size) (hx : digB s[j] = true) (hy : digB s[j + 1] = true) :
    Rdg s (k + 1) (o + p * pv s[j] s[j + 1]) := by
  obtain ⟨a, b⟩ := h
  subst hj
  obtain ⟨q1, e1⟩ := tail_at s (2 * k) (by omega)
  obtain ⟨q2, e2⟩ := tail_at s (2 * k + 1) (by omega)
  have f1 : (L s).tail[2 * k]'q1 = s[1 + 2 * k] := by rw [e1]; congr 1; omega
  have f2 : (L s).tail[2 * k + 1]'q2 = s[1 + 2 * k + 1] := by rw [e2]; congr 1; omega
  have d : (L s).tail.drop (2 * k) = s[1 + 2 * k] :: s[1 + 2 * k + 1] :: (L s).tail.drop (2 * (k + 1)) := by
    rw [List.drop_eq_getElem_cons q1, f1, List.drop_eq_getElem_cons q2, f2, show 2 * k + 1 + 1 = 2 * (k + 1) by omega]
  refine ⟨?_, ?_⟩
  · rw [show 2 * (k + 1) = 2 * k + 1 + 1 by omega, take_all q2, take_all q1, a, f1, f2, hx, hy]; rfl
  · rw [b, d, (pt_of hk).2, hp]
    show o + (p * pv s[1 + 2 * k] s[1 + 2 * k + 1] + numT _ (p / 60)) = _
    omega
theorem Rdg.last {s : ByteArray} {k : Nat} {o : Int} (h : Rdg s k o) (hk : 1 + 2 * k = s.size) : (L s).tail.all digB = true ∧ numT (L s).tail 3600 = o := by
  obtain ⟨a, b⟩ := h
  have hl : (L s).tail.length ≤ 2 * k := by rw [List.length_tail, L_len]; omega
  rw [List.take_of_length_le hl] at a
  rw [List.drop_of_length_le hl] at b
  exact ⟨a, by rw [b]; simp [numT]⟩
theorem dig_bad {s : ByteArray} {j : Nat} (h1 : 1 ≤ j) (h2 : j < s.size) (hx : digB s[j] = false) : parB (L s) = false := by
  obtain ⟨q, e⟩ := tail_at s (j - 1) (by omega)
  have e' : (L s).tail[j - 1]'q = s[j] := by rw [e]; congr 1; omega
  have : (L s).tail.all digB = false := not_all q (by rw [e']; exact hx)
  unfold parB; rw [this]; simp
theorem par_no {s : ByteArray} (h : parB (L s) = false) : Ending.returned (.tuple #[.int .i64 0, .int .i64 4]) = Ending.returned (.tuple #[.int .i64 (parN (L s)), .int .i64 (parE (L s))]) := by
  unfold parN parE; rw [h]; rfl
theorem par_yes {s : ByteArray} {v : Int} (h : parB (L s) = true) (hv : valV (L s) = v) : Ending.returned (.tuple #[.int .i64 v, .int .i64 0]) = Ending.returned (.tuple #[.int .i64 (parN (L s)), .int .i64 (parE (L s))]) := by
  unfold parN parE; rw [h, hv]; rfl
theorem below_bytes {B : Nat} {w w' : World} (h : Below B w w') (hB : B ≤ w'.heap.size) (e : TypeId) (s : ByteArray) : Below B w (Lib.bytesWorld w' e s) :=
  h.trans ⟨rfl, rfl, rfl, by rw [Lib.bytesWorld_size]; omega, fun g hg => Lib.bytesWorld_at_old _ _ _ _ (by omega)⟩
theorem ext_of {B : Nat} {w0 w : World} (hbw : Below B w0 w) (s : ByteArray) (j m i : Nat) (hi : i = j + m) (hm : m < 2) (h : j + 2 ≤ s.size) (e : TypeId) : (Lib.bytesWorld w e (s.extract j (j + 2))).cell? ⟨w.heap.size, m, none⟩ = some (.int .u8 ((s[i]'(by omega)).toNat : Int)) := by
  subst hi
  have hl : (s.extract j (j + 2)).size = 2 := by rw [ByteArray.size_extract]; omega
  rw [Lib.bytesWorld_cell _ _ _ _ (by omega)]
  have hll := L_len s
  have e1 : (s.extract j (j + 2)).data.toList = ((L s).drop j).take 2 := by rw [Lib.extract_data, show j + 2 - j = 2 by omega]
  rw [e1]
  have : (((L s).drop j).take 2).getD m 0 = s[j + m]'(by omega) := by
    rw [List.getD_eq_getElem?_getD, List.getElem?_take, if_pos hm, List.getElem?_drop, List.getElem?_eq_getElem (by omega)]
    rfl
  rw [this]
theorem conv_of {B : Nat} {w0 w : World} (hbw : Below B w0 w) (x : ByteArray) (hx : x.size = 2) : (convert 9 32 (.string x)).run Tryd.prog w = .ok (.slice (some ⟨w.heap.size, 0, none⟩) 2 (grownCap w 2 0 5)) (Lib.bytesWorld w 5 x) := by
  have := Lib.run_convert_string_bytes (P := Tryd.prog) w 9 32 5 x (u := .string) Tryd.underlying9 Tryd.underlying32 Tryd.underlying5
  rwa [hx] at this
theorem bcall {w0 w w1 : World} (h : Below w0.heap.size w0 w) (hb : Below w.heap.size w w1) : Below w0.heap.size w0 w1 := h.trans (hb.mono h.size)
theorem par_false_len {s : ByteArray} (h : lenB s.size = false) : parB (L s) = false := by unfold parB; rw [L_len, h]; rfl
theorem toList_L (s : ByteArray) : s.toList = L s := Lib.toList_data s
theorem head_L {s : ByteArray} (h : 0 < s.size) : (L s).head? = some s[0] := by
  have hl := L_len s
  cases hs : L s with
  | nil => rw [hs] at hl; simp at hl; omega
  | cons x r =>
    have : (L s)[0]'(by rw [L_len]; exact h) = s[0] := rfl
    simp only [hs, List.getElem_cons_zero] at this
    rw [List.head?_cons, this]
theorem par_cases {s : ByteArray} {v : Int} (hl : lenB s.size = true) (hd : (L s).tail.all digB = true) (hv : valV (L s) = v) :
    (offE v = 1 ∧ parB (L s) = false) ∨ (offE v = 0 ∧ (offT v == s.toList) = false ∧ parB (L s) = false) ∨ (offE v = 0 ∧ (offT v == s.toList) = true ∧ parB (L s) = true) := by
  unfold parB
  rw [L_len, hl, hd, hv, toList_L]
  unfold offE
  cases hb : offB v
  · exact Or.inl ⟨rfl, by simp⟩
  · cases hq : offT v == L s
    · exact Or.inr (Or.inl ⟨rfl, rfl, by simp⟩)
    · exact Or.inr (Or.inr ⟨rfl, rfl, by simp⟩)
set_option maxRecDepth 20000 in
set_option maxHeartbeats 3200000 in
theorem parse_bad (s : ByteArray) (w : World) (h : lenB s.size = false) (hs : s.size ≤ 1000000) :
    Calls Tryd.prog 7 #[.string s] w fun e w' => e = .returned (.tuple #[.int .i64 (parN (L s)), .int .i64 (parE (L s))]) ∧ Below w.heap.size w w' := by
  have HP := Lib.hid (par_no (par_false_len h))
  unfold lenB at h
  simp only [decide_eq_false_iff_not] at h
  have hc : (s.size : Int) < 3 ∨ (3 ≤ (s.size : Int) ∧ 7 < (s.size : Int)) ∨ (3 ≤ (s.size : Int) ∧ (s.size : Int) ≤ 7 ∧ (s.size : Int) % 2 = 0) := by omega
  clear h hs
  rcases hc with h1 | ⟨h1, h2⟩ | ⟨h1, h2, h3⟩
  all_goals
    go_enter Tryd.func7, Tryd.ntmps7
    go_wp2
    go_ret2
    exact ⟨HP.out, Below.refl _ _⟩
theorem odd_cases {s : ByteArray} (h : lenB s.size = true) : s.size = 3 ∨ s.size = 5 ∨ s.size = 7 := by
  unfold lenB at h; simp only [decide_eq_true_eq] at h; omega
set_option maxRecDepth 20000 in
set_option maxHeartbeats 6400000 in
theorem parse_odd (s : ByteArray) (w : World) (h : lenB s.size = true) :
    Calls Tryd.prog 7 #[.string s] w fun e w' => e = .returned (.tuple #[.int .i64 (parN (L s)), .int .i64 (parE (L s))]) ∧ Below w.heap.size w w' := by
  have hod := odd_cases h
  have HL := Lib.hid h
  clear h
  have z1 : 3 ≤ (s.size : Int) ∧ (s.size : Int) ≤ 7 := by omega
  have z2 : (s.size : Int) % 2 = 1 := by omega
  go_enter Tryd.func7, Tryd.ntmps7
  go_wp2_with fail
  go_loopw [4, 5, 6] (fun v4 v5 v6 w' => ∃ (k : Nat) (o : Int), v4 = .int .i64 o ∧ ((k = 0 ∧ v5 = .int .i64 1 ∧ v6 = .int .i64 3600) ∨ (k = 1 ∧ v5 = .int .i64 3 ∧ v6 = .int .i64 60) ∨ (k = 2 ∧ v5 = .int .i64 5 ∧ v6 = .int .i64 1) ∨ (k = 3 ∧ v5 = .int .i64 7 ∧ v6 = .int .i64 0)) ∧ 1 + 2 * k ≤ s.size ∧ (0 ≤ o ∧ o ≤ 400000 * k) ∧ Rdg s k o ∧ Below w.heap.size w w') (fun _ v5 _ _ => 8 - (intOf v5).toNat)
  case atStart => exact ⟨0, 0, rfl, Or.inl ⟨rfl, rfl, rfl⟩, by omega, by omega, ⟨by simp, by simp [pt]⟩, Below.refl _ _⟩
  case round =>
    obtain ⟨k, o, rfl, hk, hle, ho, hR, hbw⟩ := hrel
    have hsz := hbw.size
    have HR := Lib.hid hR; clear hR
    by_cases hlt : 1 + 2 * k < s.size
    · rcases hk with ⟨rfl, rfl, rfl⟩ | ⟨rfl, rfl, rfl⟩ | ⟨rfl, rfl, rfl⟩ | ⟨rfl, rfl, rfl⟩
      · have hj2 : 3 ≤ s.size := by omega
        have hj2' : (3 : Int) ≤ (s.size : Int) := by omega
        have hj1' : (1 : Int) < (s.size : Int) := by omega
        have hj3' : (2 : Int) < (s.size : Int) := by omega
        have hx0 := ext_of hbw s 1 0 1 rfl (by decide) hj2 5
        have hx1 := ext_of hbw s 1 1 2 rfl (by decide) hj2 5
        have hcv := conv_of hbw (s.extract 1 (1 + 2)) (by rw [ByteArray.size_extract]; omega)
        have hN0 := Lib.hid (fun (h2 : digB s[1] = false) => par_no (dig_bad (s := s) (j := 1) (by decide) (by omega) h2))
        have hN1 := Lib.hid (fun (h2 : digB s[2] = false) => par_no (dig_bad (s := s) (j := 2) (by decide) (by omega) h2))
        have HX := Lib.hid (fun (hx : digB s[1] = true) (hy : digB s[2] = true) => Rdg.next HR.out (j := 1) (p := 3600) rfl (by decide) rfl (by omega) (by omega) hx hy)
        have hbb := below_bytes hbw hsz 5 (s.extract 1 (1 + 2))
        have x8 := (s[1]).toNat_lt; have y8 := (s[2]).toNat_lt
        go_wp2
        go_loop [40] (fun i => i = .int .i64 0 ∨ (i = .int .i64 1 ∧ digB s[1] = true) ∨ (i = .int .i64 2 ∧ digB s[1] = true ∧ digB s[2] = true)) (fun i => 2 - (intOf i).toNat)
        case atStart => exact Or.inl rfl
        case round =>
          rcases hrel with rfl | ⟨rfl, hX⟩ | ⟨rfl, hX, hY⟩
          · cases hq : digB s[1]
            · skip
              have hq' : (s[1].toNat : Int) < 48 ∨ (57 : Int) < (s[1].toNat : Int) := by unfold digB at hq; simp at hq; omega
              have HN := Lib.hid (hN0.out hq)
              clear hq
              rcases hq' with e1 | e1
              all_goals
                go_wp2
                go_ret2
                exact ⟨HN.out, hbb⟩
            · skip
              have HQ := Lib.hid hq
              have hq' : (48 : Int) ≤ (s[1].toNat : Int) ∧ (s[1].toNat : Int) ≤ 57 := by unfold digB at hq; simp at hq; omega
              obtain ⟨e1, e2⟩ := hq'
              clear hq
              go_wp2
              go_round
              case rel => exact Or.inr (Or.inl ⟨rfl, by first | trivial | exact HQ.out⟩)
              case measure => simp [intOf]
          · have HQ0 := Lib.hid hX
            clear hX
            cases hq : digB s[2]
            · skip
              have hq' : (s[2].toNat : Int) < 48 ∨ (57 : Int) < (s[2].toNat : Int) := by unfold digB at hq; simp at hq; omega
              have HN := Lib.hid (hN1.out hq)
              clear hq
              rcases hq' with e1 | e1
              all_goals
                go_wp2
                go_ret2
                exact ⟨HN.out, hbb⟩
            · skip
              have HQ := Lib.hid hq
              have hq' : (48 : Int) ≤ (s[2].toNat : Int) ∧ (s[2].toNat : Int) ≤ 57 := by unfold digB at hq; simp at hq; omega
              obtain ⟨e1, e2⟩ := hq'
              clear hq
              go_wp2
              go_round
              case rel => exact Or.inr (Or.inr ⟨rfl, HQ0.out, by first | trivial | exact HQ.out⟩)
              case measure => simp [intOf]
          · have HX2 := Lib.hid (HX.out hX hY)
            have hq' : ((48 : Int) ≤ (s[1].toNat : Int) ∧ (s[1].toNat : Int) ≤ 57) ∧ ((48 : Int) ≤ (s[2].toNat : Int) ∧ (s[2].toNat : Int) ≤ 57) := by unfold digB at hX hY; simp at hX hY; omega
            obtain ⟨⟨e1, e2⟩, e3, e4⟩ := hq'
            clear hX hY
            go_wp2_with (go_quiet (fail))
            go_roundw
            case rel => exact ⟨1, _, rfl, Or.inr (Or.inl ⟨rfl, rfl, rfl⟩), by omega, by omega, by have q := HX2.out; first | exact q | (unfold pv at q; simpa using q), hbb.trans (Joins.below_draws _ _ _)⟩
            case measure => simp [intOf]
      · have hj2 : 5 ≤ s.size := by omega
        have hj2' : (5 : Int) ≤ (s.size : Int) := by omega
        have hj1' : (3 : Int) < (s.size : Int) := by omega
        have hj3' : (4 : Int) < (s.size : Int) := by omega
        have hx0 := ext_of hbw s 3 0 3 rfl (by decide) hj2 5
        have hx1 := ext_of hbw s 3 1 4 rfl (by decide) hj2 5
        have hcv := conv_of hbw (s.extract 3 (3 + 2)) (by rw [ByteArray.size_extract]; omega)
        have hN0 := Lib.hid (fun (h2 : digB s[3] = false) => par_no (dig_bad (s := s) (j := 3) (by decide) (by omega) h2))
        have hN1 := Lib.hid (fun (h2 : digB s[4] = false) => par_no (dig_bad (s := s) (j := 4) (by decide) (by omega) h2))
        have HX := Lib.hid (fun (hx : digB s[3] = true) (hy : digB s[4] = true) => Rdg.next HR.out (j := 3) (p := 60) rfl (by decide) rfl (by omega) (by omega) hx hy)
        have hbb := below_bytes hbw hsz 5 (s.extract 3 (3 + 2))
        have x8 := (s[3]).toNat_lt; have y8 := (s[4]).toNat_lt
        go_wp2
        go_loop [40] (fun i => i = .int .i64 0 ∨ (i = .int .i64 1 ∧ digB s[3] = true) ∨ (i = .int .i64 2 ∧ digB s[3] = true ∧ digB s[4] = true)) (fun i => 2 - (intOf i).toNat)
        case atStart => exact Or.inl rfl
        case round =>
          rcases hrel with rfl | ⟨rfl, hX⟩ | ⟨rfl, hX, hY⟩
          · cases hq : digB s[3]
            · skip
              have hq' : (s[3].toNat : Int) < 48 ∨ (57 : Int) < (s[3].toNat : Int) := by unfold digB at hq; simp at hq; omega
              have HN := Lib.hid (hN0.out hq)
              clear hq
              rcases hq' with e1 | e1
              all_goals
                go_wp2
                go_ret2
                exact ⟨HN.out, hbb⟩
            · skip
              have HQ := Lib.hid hq
              have hq' : (48 : Int) ≤ (s[3].toNat : Int) ∧ (s[3].toNat : Int) ≤ 57 := by unfold digB at hq; simp at hq; omega
              obtain ⟨e1, e2⟩ := hq'
              clear hq
              go_wp2
              go_round
              case rel => exact Or.inr (Or.inl ⟨rfl, by first | trivial | exact HQ.out⟩)
              case measure => simp [intOf]
          · have HQ0 := Lib.hid hX
            clear hX
            cases hq : digB s[4]
            · skip
              have hq' : (s[4].toNat : Int) < 48 ∨ (57 : Int) < (s[4].toNat : Int) := by unfold digB at hq; simp at hq; omega
              have HN := Lib.hid (hN1.out hq)
              clear hq
              rcases hq' with e1 | e1
              all_goals
                go_wp2
                go_ret2
                exact ⟨HN.out, hbb⟩
            · skip
              have HQ := Lib.hid hq
              have hq' : (48 : Int) ≤ (s[4].toNat : Int) ∧ (s[4].toNat : Int) ≤ 57 := by unfold digB at hq; simp at hq; omega
              obtain ⟨e1, e2⟩ := hq'
              clear hq
              go_wp2
              go_round
              case rel => exact Or.inr (Or.inr ⟨rfl, HQ0.out, by first | trivial | exact HQ.out⟩)
              case measure => simp [intOf]
          · have HX2 := Lib.hid (HX.out hX hY)
            have hq' : ((48 : Int) ≤ (s[3].toNat : Int) ∧ (s[3].toNat : Int) ≤ 57) ∧ ((48 : Int) ≤ (s[4].toNat : Int) ∧ (s[4].toNat : Int) ≤ 57) := by unfold digB at hX hY; simp at hX hY; omega
            obtain ⟨⟨e1, e2⟩, e3, e4⟩ := hq'
            clear hX hY
            go_wp2_with (go_quiet (fail))
            go_roundw
            case rel => exact ⟨2, _, rfl, Or.inr (Or.inr (Or.inl ⟨rfl, rfl, rfl⟩)), by omega, by omega, by have q := HX2.out; first | exact q | (unfold pv at q; simpa using q), hbb.trans (Joins.below_draws _ _ _)⟩
            case measure => simp [intOf]
      · have hj2 : 7 ≤ s.size := by omega
        have hj2' : (7 : Int) ≤ (s.size : Int) := by omega
        have hj1' : (5 : Int) < (s.size : Int) := by omega
        have hj3' : (6 : Int) < (s.size : Int) := by omega
        have hx0 := ext_of hbw s 5 0 5 rfl (by decide) hj2 5
        have hx1 := ext_of hbw s 5 1 6 rfl (by decide) hj2 5
        have hcv := conv_of hbw (s.extract 5 (5 + 2)) (by rw [ByteArray.size_extract]; omega)
        have hN0 := Lib.hid (fun (h2 : digB s[5] = false) => par_no (dig_bad (s := s) (j := 5) (by decide) (by omega) h2))
        have hN1 := Lib.hid (fun (h2 : digB s[6] = false) => par_no (dig_bad (s := s) (j := 6) (by decide) (by omega) h2))
        have HX := Lib.hid (fun (hx : digB s[5] = true) (hy : digB s[6] = true) => Rdg.next HR.out (j := 5) (p := 1) rfl (by decide) rfl (by omega) (by omega) hx hy)
        have hbb := below_bytes hbw hsz 5 (s.extract 5 (5 + 2))
        have x8 := (s[5]).toNat_lt; have y8 := (s[6]).toNat_lt
        go_wp2
        go_loop [40] (fun i => i = .int .i64 0 ∨ (i = .int .i64 1 ∧ digB s[5] = true) ∨ (i = .int .i64 2 ∧ digB s[5] = true ∧ digB s[6] = true)) (fun i => 2 - (intOf i).toNat)
        case atStart => exact Or.inl rfl
        case round =>
          rcases hrel with rfl | ⟨rfl, hX⟩ | ⟨rfl, hX, hY⟩
          · cases hq : digB s[5]
            · skip
              have hq' : (s[5].toNat : Int) < 48 ∨ (57 : Int) < (s[5].toNat : Int) := by unfold digB at hq; simp at hq; omega
              have HN := Lib.hid (hN0.out hq)
              clear hq
              rcases hq' with e1 | e1
              all_goals
                go_wp2
                go_ret2
                exact ⟨HN.out, hbb⟩
            · skip
              have HQ := Lib.hid hq
              have hq' : (48 : Int) ≤ (s[5].toNat : Int) ∧ (s[5].toNat : Int) ≤ 57 := by unfold digB at hq; simp at hq; omega
              obtain ⟨e1, e2⟩ := hq'
              clear hq
              go_wp2
              go_round
              case rel => exact Or.inr (Or.inl ⟨rfl, by first | trivial | exact HQ.out⟩)
              case measure => simp [intOf]
          · have HQ0 := Lib.hid hX
            clear hX
            cases hq : digB s[6]
            · skip
              have hq' : (s[6].toNat : Int) < 48 ∨ (57 : Int) < (s[6].toNat : Int) := by unfold digB at hq; simp at hq; omega
              have HN := Lib.hid (hN1.out hq)
              clear hq
              rcases hq' with e1 | e1
              all_goals
                go_wp2
                go_ret2
                exact ⟨HN.out, hbb⟩
            · skip
              have HQ := Lib.hid hq
              have hq' : (48 : Int) ≤ (s[6].toNat : Int) ∧ (s[6].toNat : Int) ≤ 57 := by unfold digB at hq; simp at hq; omega
              obtain ⟨e1, e2⟩ := hq'
              clear hq
              go_wp2
              go_round
              case rel => exact Or.inr (Or.inr ⟨rfl, HQ0.out, by first | trivial | exact HQ.out⟩)
              case measure => simp [intOf]
          · have HX2 := Lib.hid (HX.out hX hY)
            have hq' : ((48 : Int) ≤ (s[5].toNat : Int) ∧ (s[5].toNat : Int) ≤ 57) ∧ ((48 : Int) ≤ (s[6].toNat : Int) ∧ (s[6].toNat : Int) ≤ 57) := by unfold digB at hX hY; simp at hX hY; omega
            obtain ⟨⟨e1, e2⟩, e3, e4⟩ := hq'
            clear hX hY
            go_wp2_with (go_quiet (fail))
            go_roundw
            case rel => exact ⟨3, _, rfl, Or.inr (Or.inr (Or.inr ⟨rfl, rfl, rfl⟩)), by omega, by omega, by have q := HX2.out; first | exact q | (unfold pv at q; simpa using q), hbb.trans (Joins.below_draws _ _ _)⟩
            case measure => simp [intOf]
      · omega
    · have hlast := HR.out.last (by rcases hk with ⟨rfl, _, _⟩ | ⟨rfl, _, _⟩ | ⟨rfl, _, _⟩ | ⟨rfl, _, _⟩ <;> omega)
      have h0' : (0 : Int) < (s.size : Int) := by omega
      have hh := head_L (s := s) (by omega)
      have x8 := s[0].toNat_lt
      have hle3 : k = 1 → ¬ (3 : Int) < (s.size : Int) := by intro hj; omega
      have hle5 : k = 2 → ¬ (5 : Int) < (s.size : Int) := by intro hj; omega
      have hle7 : k = 3 → ¬ (7 : Int) < (s.size : Int) := by intro hj; omega
      by_cases hm : (s[0].toNat : Int) = 45
      · have hv : valV (L s) = -o := by
          unfold valV; rw [hh, if_pos (by congr 1; exact UInt8.toNat_inj.1 (by show _ = 45; omega)), hlast.2]
        have hcs := par_cases HL.out hlast.1 hv
        have HV := Lib.hid hv
        have hof := fun w => offset_any (-o) w
        generalize offT (-o) = T at hcs hof
        generalize offE (-o) = E at hcs hof
        clear hv hlast hh HR
        rcases hcs with ⟨rfl, hq⟩ | ⟨rfl, ht, hq⟩ | ⟨rfl, ht, hq⟩
        all_goals
          have HP := Lib.hid hq
          clear hq
          rcases hk with ⟨rfl, rfl, rfl⟩ | ⟨rfl, rfl, rfl⟩ | ⟨rfl, rfl, rfl⟩ | ⟨rfl, rfl, rfl⟩
          · omega
          all_goals
            first | have hlt' := hle3 rfl | have hlt' := hle5 rfl | have hlt' := hle7 rfl
            clear hle3 hle5 hle7
            go_wp2_with (go_at_call 6; refine (hof _).mono ?_; rintro e w1 ⟨rfl, hb1⟩; have hbw := bcall hbw hb1)
            go_ret2
            exact ⟨by first | exact par_no HP.out | exact par_yes HP.out HV.out, hbw⟩
      · have hv : valV (L s) = o := by
          unfold valV; rw [hh, if_neg (by intro e; exact hm (by rw [Option.some.inj e]; rfl)), hlast.2]
        have hcs := par_cases HL.out hlast.1 hv
        have HV := Lib.hid hv
        have hof := fun w => offset_any o w
        generalize offT o = T at hcs hof
        generalize offE o = E at hcs hof
        clear hv hlast hh HR
        rcases hcs with ⟨rfl, hq⟩ | ⟨rfl, ht, hq⟩ | ⟨rfl, ht, hq⟩
        all_goals
          have HP := Lib.hid hq
          clear hq
          rcases hk with ⟨rfl, rfl, rfl⟩ | ⟨rfl, rfl, rfl⟩ | ⟨rfl, rfl, rfl⟩ | ⟨rfl, rfl, rfl⟩
          · omega
          all_goals
            first | have hlt' := hle3 rfl | have hlt' := hle5 rfl | have hlt' := hle7 rfl
            clear hle3 hle5 hle7
            go_wp2_with (go_at_call 6; refine (hof _).mono ?_; rintro e w1 ⟨rfl, hb1⟩; have hbw := bcall hbw hb1)
            go_ret2
            exact ⟨by first | exact par_no HP.out | exact par_yes HP.out HV.out, hbw⟩
theorem parse_any (s : ByteArray) (w : World) (hs : s.size ≤ 1000000) :
    Calls Tryd.prog 7 #[.string s] w fun e w' => e = .returned (.tuple #[.int .i64 (parN (L s)), .int .i64 (parE (L s))]) ∧ Below w.heap.size w w' := by
  cases h : lenB s.size
  · exact parse_bad s w h hs
  · exact parse_odd s w h
end Go.Proofs.YtknnadihmodnfaaDoor.Ab
