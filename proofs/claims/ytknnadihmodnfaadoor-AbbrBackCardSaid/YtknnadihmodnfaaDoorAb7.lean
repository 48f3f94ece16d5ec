/-
  ABBR, WALKED: AbbrBack.
-/
import Derived.Test.YtknnadihmodnfaaDoorAb6
import Derived.Deep.DeepCutAuto
namespace Go.Proofs.YtknnadihmodnfaaDoor.Ab
open Go.ChangeShapes Go.WideShapes Go.ChangeAt Go.RowKit
open Go.Proofs.YtknnadihmodnfaaDoor
open Go.Proofs.YtknnadihmodnfaaDoor.Wd
set_option linter.unusedVariables false
theorem any_take {p : UInt8 → Bool} {l : List UInt8} {k : Nat} (h : k < l.length) : (l.take (k + 1)).any p = ((l.take k).any p || p l[k]) := by
  rw [List.take_succ_eq_append_getElem h, List.any_append]; simp
theorem of_len (f l : List UInt8) (off : Int) (dst : Bool) : (ofV f l off dst).1.length ≤ 2 * f.length + l.length + 7 := by
  have h := cutV_le f
  unfold ofV
  split
  · unfold ofP
    split
    · simp only [List.length_append]; omega
    · split
      · split
        · rename_i hb
          have := off_len hb
          simp only [List.length_append]; omega
        · simp
      · split
        · split <;> simp only <;> omega
        · simp only; omega
  · simp
theorem len_1000 {s : ByteArray} (h : s.size ≤ maxLen) : (s.size : Int) ≤ 9223372036854775807 := by unfold maxLen at h; omega
theorem mem_any {l : List UInt8} {c : UInt8} : l.any (· == c) = true ↔ c ∈ l := by simp
set_option maxRecDepth 20000 in
set_option maxHeartbeats 3200000 in
theorem back_long (off o : Int) (s f l1 l2 : ByteArray) (w : World) (hT : Tb w) (hs : s.size ≤ maxLen) (hf : f.size ≤ maxLen) (h1 : l1.size ≤ maxLen) (h2 : l2.size ≤ maxLen) (h : ¬ (s.size ≤ 1000 ∧ f.size ≤ 1000 ∧ l1.size ≤ 1000 ∧ l2.size ≤ 1000)) :
    Calls Tryd.prog 3 #[.int .i64 off, .int .i64 o, .string s, .string f, .string l1, .string l2] w fun e w' => e = .returned (.bool true) ∧ Below w.heap.size w w' := by
  have h0 := TI.start hT
  have hlv := fun w hT => lives_any w hT
  have ms := len_1000 hs; have mf := len_1000 hf; have m1 := len_1000 h1; have m2 := len_1000 h2
  have hc : (1000 : Int) < s.size ∨ (¬ (1000 : Int) < s.size ∧ (1000 : Int) < f.size) ∨ (¬ (1000 : Int) < s.size ∧ ¬ (1000 : Int) < f.size ∧ (1000 : Int) < l1.size) ∨ (¬ (1000 : Int) < s.size ∧ ¬ (1000 : Int) < f.size ∧ ¬ (1000 : Int) < l1.size ∧ (1000 : Int) < l2.size) := by omega
  clear h hs hf h1 h2
  rcases hc with q1 | ⟨q1, q2⟩ | ⟨q1, q2, q3⟩ | ⟨q1, q2, q3, q4⟩
  all_goals
    go_enter Tryd.func3, Tryd.ntmps3
    go_wp2_with fail
    refine (hlv _ h0.1).mono ?_; rintro e w1 ⟨rfl, hb1⟩; have i1 := h0.call hb1; clear hb1 h0 hlv
    go_wp2_with fail
    go_ret
    exact ⟨rfl, i1.2⟩
set_option maxRecDepth 20000 in
set_option maxHeartbeats 8000000 in
theorem back_short (off o : Int) (s f l1 l2 : ByteArray) (w : World) (hT : Tb w) (h : s.size ≤ 1000 ∧ f.size ≤ 1000 ∧ l1.size ≤ 1000 ∧ l2.size ≤ 1000) :
    Calls Tryd.prog 3 #[.int .i64 off, .int .i64 o, .string s, .string f, .string l1, .string l2] w fun e w' => e = .returned (.bool true) ∧ Below w.heap.size w w' := by
  have h0 := TI.start hT
  have hlv := fun w hT => lives_any w hT
  obtain ⟨ms, mf, m1, m2⟩ := h
  have q1 : ¬ (1000 : Int) < s.size := by omega
  have q2 : ¬ (1000 : Int) < f.size := by omega
  have q3 : ¬ (1000 : Int) < l1.size := by omega
  have q4 : ¬ (1000 : Int) < l2.size := by omega
  have zs : s.size ≤ 1000000 := by omega
  have zf : f.size ≤ 1000000 := by omega
  have z1 : l1.size ≤ 1000000 := by omega
  have z2 : l2.size ≤ 1000000 := by omega
  have hx := fun w => offset_any off w
  have hy := fun w => offset_any o w
  have hps := fun w => parse_any s w zs
  have HPA := Lib.hid (fun (hb : offB off = true) w => parse_at (w := w) (s := B (offT off)) (v := off) (n := 0) (by have := off_len hb; show (offT off).toArray.size ≤ _; simp; omega) (parN_off hb) (parE_off hb))
  have HPO := Lib.hid (fun (hp : parE (L s) = 0) w => offset_at (w := w) (o := parN (L s)) (x := s) (n := 0) (par_back hp).2 (by unfold offE; rw [if_pos (par_back hp).1]))
  have HP := Lib.hid (show parE (L s) = 0 ∨ parE (L s) = 4 by unfold parE; split; exact Or.inl rfl; exact Or.inr rfl)
  obtain ⟨T1, hT1⟩ : ∃ T, B (offT off) = T := ⟨_, rfl⟩
  obtain ⟨T2, hT2⟩ : ∃ T, B (offT o) = T := ⟨_, rfl⟩
  obtain ⟨E1, hE1⟩ : ∃ T, offE off = T := ⟨_, rfl⟩
  obtain ⟨E2, hE2⟩ : ∃ T, offE o = T := ⟨_, rfl⟩
  rw [hT1] at HPA
  rw [hT1, hE1] at hx
  rw [hT2, hE2] at hy
  have HT1 := Lib.hid hT1; have HT2 := Lib.hid hT2; have HE1 := Lib.hid hE1; have HE2 := Lib.hid hE2
  clear hT1 hT2 hE1 hE2 ms mf m1 m2
  generalize parE (L s) = PE at *
  generalize parN (L s) = PN at *
  go_enter Tryd.func3, Tryd.ntmps3
  go_wp2_with fail
  refine (hlv _ h0.1).mono ?_; rintro e w1 ⟨rfl, hb1⟩; have i1 := h0.call hb1; clear hb1 h0
  go_wp2_with fail
  refine (hx _ ).mono ?_; rintro e w2 ⟨rfl, hb2⟩; have i2 := i1.call hb2; clear hb2 i1
  go_wp2_with fail
  refine (hy _ ).mono ?_; rintro e w3 ⟨rfl, hb3⟩; have i3 := i2.call hb3; clear hb3 i2
  go_upto_region 7 with fail
  go_cut [72] (fun c wx => c = .bool false ∧ wx = w3)
  case first => as_aux_lemma =>
    cases hb : offB off with
    | false =>
      have e1 : E1 = 1 := by rw [← HE1.out]; unfold offE; rw [hb]; rfl
      subst e1
      unfold offB at hb
      simp only [decide_eq_false_iff_not] at hb
      have hr : off ≤ -360000 ∨ (-360000 < off ∧ 360000 ≤ off) := by omega
      clear hb
      rcases hr with r1 | ⟨r1, r2⟩
      · have q1 : decide (-360000 < off) = false := by simpa using r1
        go_wp2_with fail
        go_meet
        exact ⟨rfl, rfl⟩
      · have q2 : decide (off < 360000) = false := by simpa using r2
        go_wp2_with fail
        go_meet
        exact ⟨rfl, rfl⟩
    | true =>
      have e1 : E1 = 0 := by rw [← HE1.out]; unfold offE; rw [hb]; rfl
      subst e1
      unfold offB at hb
      simp only [decide_eq_true_eq] at hb
      obtain ⟨r1, r2⟩ := hb
      go_wp2_with fail
      go_meet
      exact ⟨rfl, rfl⟩
  case rest =>
    obtain ⟨rfl, rfl⟩ := hcut
    go_upto_if 74 with fail
    go_cut [74] (fun c wx => TI w wx)
    case first => as_aux_lemma =>
      cases hb : offB off with
      | false =>
        have e1 : E1 = 1 := by rw [← HE1.out]; unfold offE; rw [hb]; rfl
        subst e1
        go_wp2_with fail
        go_meet
        exact i3
      | true =>
        have e1 : E1 = 0 := by rw [← HE1.out]; unfold offE; rw [hb]; rfl
        subst e1
        have hp := HPA.out hb
        cases hb2 : offB o with
        | false =>
          have e2 : E2 = 1 := by rw [← HE2.out]; unfold offE; rw [hb2]; rfl
          subst e2
          clear hb hb2
          go_wp2_with fail
          refine (hp _).mono ?_; rintro e w4 ⟨rfl, hb4⟩; have i4 := i3.call hb4; clear hb4 hp
          go_wp2_with fail
          go_meet
          exact i4
        | true =>
          have e2 : E2 = 0 := by rw [← HE2.out]; unfold offE; rw [hb2]; rfl
          subst e2
          by_cases hq : off = o
          · have hT12 : T1 = T2 := by rw [← HT1.out, ← HT2.out, hq]
            subst hT12 hq
            clear hb hb2
            go_wp2_with fail
            refine (hp _).mono ?_; rintro e w4 ⟨rfl, hb4⟩; have i4 := i3.call hb4; clear hb4 hp
            go_wp2_with fail
            go_meet
            exact i4
          · have hne : (T1.toList == T2.toList) = false := by
              rw [← HT1.out, ← HT2.out, toList_L, toList_L, beq_eq_false_iff_ne]
              exact fun e => hq ((off_inj hb hb2).1 e)
            have hq' : (off == o) = false := by simpa using hq
            clear hb hb2 hq
            go_wp2_with fail
            refine (hp _).mono ?_; rintro e w4 ⟨rfl, hb4⟩; have i4 := i3.call hb4; clear hb4 hp
            go_wp2_with fail
            go_meet
            exact i4
    case rest =>
      have j0 : TI w _ := hcut
      clear hcut i3 hx hy
      go_wp2_with fail
      refine (hps _).mono ?_; rintro e w5 ⟨rfl, hb5⟩; have j1 := j0.call hb5; clear hb5 j0 hps
      go_upto_if 106 with fail
      go_cut [106] (fun c wx => TI w wx)
      case first => as_aux_lemma =>
        rcases HP.out with hp0 | hp4
        · have hpo := HPO.out hp0
          subst hp0
          go_wp2_with fail
          refine (hpo _).mono ?_; rintro e w6 ⟨rfl, hb6⟩; have j2 := j1.call hb6; clear hb6 hpo
          go_wp2_with fail
          go_meet
          exact j2
        · subst hp4
          go_wp2_with fail
          go_meet
          exact j1
      case rest => as_aux_lemma =>
        have k0 : TI w _ := hcut
        clear hcut j1
        have hck := fun w hT => check_any f w hT zf
        have hl1 := fun w => letter_any l1 w z1
        have hl2 := fun w => letter_any l2 w z2
        cases hk : chkB (L f) with
        | false =>
          rw [hk] at hck; simp only [show okE false = 2 from rfl] at hck; clear hk
          go_wp2_with fail
          refine (hck _ k0.1).mono ?_; rintro e w1 ⟨rfl, hb1⟩; have i1 := k0.call hb1; clear hb1 k0
          go_wp2_with fail
          go_ret
          exact ⟨rfl, i1.2⟩
        | true =>
          rw [hk] at hck; simp only [show okE true = 0 from rfl] at hck
          cases hm1 : letB (L l1) with
          | false =>
            rw [hm1] at hl1; simp only [show okE false = 2 from rfl] at hl1; clear hk hm1
            go_wp2_with fail
            refine (hck _ k0.1).mono ?_; rintro e w1 ⟨rfl, hb1⟩; have i1 := k0.call hb1; clear hb1 k0
            go_wp2_with fail
            refine (hl1 _ ).mono ?_; rintro e w2 ⟨rfl, hb2⟩; have i2 := i1.call hb2; clear hb2 i1
            go_wp2_with fail
            go_ret
            exact ⟨rfl, i2.2⟩
          | true =>
            rw [hm1] at hl1; simp only [show okE true = 0 from rfl] at hl1
            cases hm2 : letB (L l2) with
            | false =>
              rw [hm2] at hl2; simp only [show okE false = 2 from rfl] at hl2; clear hk hm1 hm2
              go_wp2_with fail
              refine (hck _ k0.1).mono ?_; rintro e w1 ⟨rfl, hb1⟩; have i1 := k0.call hb1; clear hb1 k0
              go_wp2_with fail
              refine (hl1 _ ).mono ?_; rintro e w2 ⟨rfl, hb2⟩; have i2 := i1.call hb2; clear hb2 i1
              go_wp2_with fail
              refine (hl2 _ ).mono ?_; rintro e w3 ⟨rfl, hb3⟩; have i3 := i2.call hb3; clear hb3 i2
              go_wp2_with fail
              go_ret
              exact ⟨rfl, i3.2⟩
            | true =>
              rw [hm2] at hl2; simp only [show okE true = 0 from rfl] at hl2
              have HK := Lib.hid hk; have HM1 := Lib.hid hm1; have HM2 := Lib.hid hm2; clear hk hm1 hm2
              go_wp2_with fail
              refine (hck _ k0.1).mono ?_; rintro e w1 ⟨rfl, hb1⟩; have i1 := k0.call hb1; clear hb1 k0
              go_wp2_with fail
              refine (hl1 _ ).mono ?_; rintro e w2 ⟨rfl, hb2⟩; have i2 := i1.call hb2; clear hb2 i1
              go_wp2_with fail
              refine (hl2 _ ).mono ?_; rintro e w3 ⟨rfl, hb3⟩; have i3 := i2.call hb3; clear hb3 i2
              clear hck hl1 hl2
              go_wp2_with fail
              have hfl : (L f).length = f.size := L_len f
              go_loop [23, 24, 134] (fun p q i => ∃ k : Nat, i = .int .i64 k ∧ k ≤ f.size ∧ p = .bool (((L f).take k).any (· == 37)) ∧ q = .bool (((L f).take k).any (· == 47))) (fun _ _ i => f.size - (intOf i).toNat)
              case atStart => exact ⟨0, rfl, Nat.zero_le _, by simp, by simp⟩
              case round =>
                obtain ⟨k, rfl, hk, rfl, rfl⟩ := hrel
                by_cases hlt : k < f.size
                · have hlt' : (k : Int) < (f.size : Int) := by omega
                  have hl : k < (L f).length := by omega
                  have hT1 := Lib.hid (any_take (p := (· == 37)) hl)
                  have hT2 := Lib.hid (any_take (p := (· == 47)) hl)
                  have hat : (L f)[k] = f[k]'hlt := rfl
                  rw [hat] at hT1 hT2
                  have x8 := (f[k]'hlt).toNat_lt
                  generalize ((L f).take k).any (· == 37) = P at *
                  generalize ((L f).take k).any (· == 47) = Q at *
                  have e37 : (f[k]'hlt == 37) = (((f[k]'hlt).toNat : Int) == 37) := by rw [Bool.eq_iff_iff]; simp [← UInt8.toNat_inj]; omega
                  have e47 : (f[k]'hlt == 47) = (((f[k]'hlt).toNat : Int) == 47) := by rw [Bool.eq_iff_iff]; simp [← UInt8.toNat_inj]; omega
                  rw [e37] at hT1; rw [e47] at hT2; clear e37 e47 hat hl hfl
                  cases P <;> cases Q
                  all_goals
                    go_wp2_with fail
                    go_round
                    case rel => exact ⟨k + 1, by go_num, by omega, by rw [hT1.out]; first | rfl | simp, by rw [hT2.out]; first | rfl | simp⟩
                    case measure => simp [intOf]; omega
                · obtain rfl : k = f.size := by omega
                  have hta : (L f).take f.size = L f := List.take_of_length_le (by omega)
                  rw [hta]; clear hta hfl
                  have hge : ¬ (f.size : Int) < (f.size : Int) := by omega
                  cases hpc : (L f).any (· == 37) with
                  | true =>
                    have hm := mem_any.1 hpc
                    have p1 := of_percent off HK.out HM1.out HM2.out hm false true
                    have p2 := of_percent o HK.out HM2.out HM1.out hm false true
                    have c3 := fun w hT => of_any f l1 off false w hT zf z1
                    have c4 := fun w hT => of_any f l2 o false w hT zf z2
                    have c5 := fun w hT => of_any f l1 o true w hT zf z1
                    have c6 := fun w hT => of_any f l2 off true w hT zf z2
                    unfold ofR at c3 c4 c5 c6
                    rw [← p1.1] at c6; rw [← p2.1] at c5
                    have hne := (chk_len HK.out).1
                    have hsz : (((B (ofV (L f) (L l1) off false).1).size : Nat) : Int) = ((ofV (L f) (L l1) off false).1.length : Int) := by show (((ofV (L f) (L l1) off false).1.toArray.size : Nat) : Int) = _; simp
                    have zA : (B (ofV (L f) (L l1) off false).1).size ≤ 9000000 := by have q := of_len (L f) (L l1) off false; rw [L_len, L_len] at q; show (ofV (L f) (L l1) off false).1.toArray.size ≤ _; simp; omega
                    have hle := p1.2
                    rw [← hsz, L_len] at hle; rw [L_len] at hne
                    have hna : (!(B (ofV (L f) (L l1) off false).1 ++ f).toList.isEmpty) = true := by
                      rw [empty_of, show L (B (ofV (L f) (L l1) off false).1 ++ f) = (ofV (L f) (L l1) off false).1 ++ L f by simp [L, ByteArray.data_append]]
                      have : L f ≠ [] := by intro e; have := L_len f; rw [e] at this; simp at this; omega
                      simp [this]
                    clear hsz hm p1 p2 hpc
                    generalize (ofV (L f) (L l1) off false).2 = e3 at *
                    generalize (ofV (L f) (L l2) o false).2 = e4 at *
                    generalize B (ofV (L f) (L l1) off false).1 = A3 at *
                    generalize B (ofV (L f) (L l2) o false).1 = A4 at *
                    generalize B (ofV (L f) (L l1) o true).1 = A5 at *
                    generalize B (ofV (L f) (L l2) off true).1 = A6 at *
                    have hd3 : (e3 = 0 ∧ (f.size : Int) - 2 ≤ (A3.size : Int)) ∨ ((e3 == 0) = false ∧ (e3 != 0) = true) := by by_cases h : e3 = 0; exact Or.inl ⟨h, hle h⟩; exact Or.inr (by simpa using h)
                    have hd4 : e4 = 0 ∨ (e4 == 0) = false := by by_cases h : e4 = 0; exact Or.inl h; exact Or.inr (by simpa using h)
                    clear hle
                    rcases hd3 with ⟨rfl, hle⟩ | ⟨g3, g3b⟩ <;> rcases hd4 with rfl | g4
                    all_goals
                      go_wp2_with fail
                      refine (c3 _ i3.1).mono ?_; rintro e w1 ⟨rfl, hb1⟩; have i1 := i3.call hb1; clear hb1 i3
                      go_wp2_with fail
                      refine (c4 _ i1.1).mono ?_; rintro e w2 ⟨rfl, hb2⟩; have i2 := i1.call hb2; clear hb2 i1
                      go_wp2_with fail
                      refine (c5 _ i2.1).mono ?_; rintro e w3 ⟨rfl, hb3⟩; have i3 := i2.call hb3; clear hb3 i2
                      go_wp2_with fail
                      refine (c6 _ i3.1).mono ?_; rintro e w4 ⟨rfl, hb4⟩; have i4 := i3.call hb4; clear hb4 i3
                      go_wp2_with fail
                      go_ret
                      exact ⟨rfl, i4.2⟩
                  | false =>
                    have hm : ¬ (37 : UInt8) ∈ L f := fun q => by rw [mem_any.2 q] at hpc; cases hpc
                    have c3 := fun w hT => of_any f l1 off false w hT zf z1
                    have c4 := fun w hT => of_any f l2 o false w hT zf z2
                    have c5 := fun w hT => of_any f l1 o true w hT zf z1
                    have c6 := fun w hT => of_any f l2 off true w hT zf z2
                    unfold ofR at c3 c4 c5 c6
                    rw [of_plain off false HK.out HM1.out hm] at c3; rw [of_plain o false HK.out HM2.out hm] at c4; rw [of_plain o true HK.out HM1.out hm] at c5; rw [of_plain off true HK.out HM2.out hm] at c6
                    clear hpc hm
                    cases hsl : (L f).any (· == 47) with
                    | true =>
                      have hm := mem_any.1 hsl
                      rw [if_pos hm, if_neg (by decide)] at c3 c4; rw [if_pos hm, if_pos rfl] at c5 c6
                      have hfs : ((B (cutA (L f) [47]) ++ ⟨#[47]⟩ ++ B (cutZ (L f) [47])).toList == f.toList) = true := by
                        rw [toList_L, toList_L, app3s, beq_iff_eq]; exact of_slash hm
                      have q := cut_sizes (L f) [47]
                      rw [L_len] at q
                      have zA : (B (cutA (L f) [47])).size ≤ 1000000 := by show (cutA (L f) [47]).toArray.size ≤ _; simp; omega
                      have zZ : (B (cutZ (L f) [47])).size ≤ 1000000 := by show (cutZ (L f) [47]).toArray.size ≤ _; simp; omega
                      clear hsl hm q
                      generalize B (cutA (L f) [47]) = A at *
                      generalize B (cutZ (L f) [47]) = Z at *
                      go_wp2_with fail
                      refine (c3 _ i3.1).mono ?_; rintro e w1 ⟨rfl, hb1⟩; have i1 := i3.call hb1; clear hb1 i3
                      go_wp2_with fail
                      refine (c4 _ i1.1).mono ?_; rintro e w2 ⟨rfl, hb2⟩; have i2 := i1.call hb2; clear hb2 i1
                      go_wp2_with fail
                      refine (c5 _ i2.1).mono ?_; rintro e w3 ⟨rfl, hb3⟩; have i3 := i2.call hb3; clear hb3 i2
                      go_wp2_with fail
                      refine (c6 _ i3.1).mono ?_; rintro e w4 ⟨rfl, hb4⟩; have i4 := i3.call hb4; clear hb4 i3
                      go_wp2_with fail
                      go_ret
                      exact ⟨rfl, i4.2⟩
                    | false =>
                      have hm : ¬ (47 : UInt8) ∈ L f := fun q => by rw [mem_any.2 q] at hsl; cases hsl
                      rw [if_neg hm] at c3 c4 c5 c6
                      have hB : B (L f) = f := L_mk f
                      rw [hB] at c3 c4 c5 c6
                      clear hsl hm hB
                      go_wp2_with fail
                      refine (c3 _ i3.1).mono ?_; rintro e w1 ⟨rfl, hb1⟩; have i1 := i3.call hb1; clear hb1 i3
                      go_wp2_with fail
                      refine (c4 _ i1.1).mono ?_; rintro e w2 ⟨rfl, hb2⟩; have i2 := i1.call hb2; clear hb2 i1
                      go_wp2_with fail
                      refine (c5 _ i2.1).mono ?_; rintro e w3 ⟨rfl, hb3⟩; have i3 := i2.call hb3; clear hb3 i2
                      go_wp2_with fail
                      refine (c6 _ i3.1).mono ?_; rintro e w4 ⟨rfl, hb4⟩; have i4 := i3.call hb4; clear hb4 i3
                      go_wp2_with fail
                      go_ret
                      exact ⟨rfl, i4.2⟩
theorem back_any (off o : Int) (s f l1 l2 : ByteArray) (w : World) (hT : Tb w) (hs : s.size ≤ maxLen) (hf : f.size ≤ maxLen) (h1 : l1.size ≤ maxLen) (h2 : l2.size ≤ maxLen) :
    Calls Tryd.prog 3 #[.int .i64 off, .int .i64 o, .string s, .string f, .string l1, .string l2] w fun e w' => e = .returned (.bool true) ∧ Below w.heap.size w w' := by
  by_cases h : s.size ≤ 1000 ∧ f.size ≤ 1000 ∧ l1.size ≤ 1000 ∧ l2.size ≤ 1000
  · exact back_short off o s f l1 l2 w hT h
  · exact back_long off o s f l1 l2 w hT hs hf h1 h2 h
end Go.Proofs.YtknnadihmodnfaaDoor.Ab
