/-
  STAMPS, PLAIN: a time's stamp is right, and at that time in its year and in no other; a stamp's time has its date; bytes there and back.
-/
import Derived.Test.YtcjjgfejamddjaaDoorStpV
namespace Go.Proofs.YtcjjgfejamddjaaDoor.Stp
open Go.ChangeShapes Go.WideShapes Go.ChangeAt Go.RowKit
open Go.Proofs.YtcjjgfejamddjaaDoor
set_option linter.unusedVariables false
theorem of_parts {n : Int} (h : Cal.ofE n = 0) : Cal.okD (Cal.ofYV n) (Cal.ofMV n) (Cal.ofDV n) = true ∧ Cal.num (Cal.ofYV n) (Cal.ofMV n) (Cal.ofDV n) = n := by
  have hk : Cal.okN n = true := by
    apply Decidable.byContradiction; intro hc
    unfold Cal.ofE at h; rw [if_neg hc] at h; cases h
  obtain ⟨a, b⟩ := (Cal.okN_iff n).1 hk
  have e0 : Cal.ofYV n = Cal.dayY n := by unfold Cal.ofYV; rw [if_pos hk]
  have e1 : Cal.ofMV n = Cal.dayM n := by unfold Cal.ofMV; rw [if_pos hk]
  have e2 : Cal.ofDV n = Cal.dayD n := by unfold Cal.ofDV; rw [if_pos hk]
  rw [e0, e1, e2]
  exact ⟨Cal.day_ok n a b, Cal.day_num n⟩
theorem x_iff {ms : Int} : xOk ms = true ↔ (Cal.ofE (xD ms) = 0 ∧ 1601 ≤ Cal.ofYV (xD ms) ∧ Cal.ofYV (xD ms) ≤ 9999) := by unfold xOk; exact decide_eq_true_iff
/-- the stamp of a time -/
theorem x_right {ms : Int} (hx : xOk ms = true) :
    okS (Cal.ofYV (xD ms)) (Cal.ofMV (xD ms)) (Cal.wday (xD ms)) (Cal.ofDV (xD ms)) (xT ms / 3600000) (xT ms / 60000 % 60) (xT ms / 1000 % 60) (xT ms % 1000) = true ∧
    Bd (Cal.ofYV (xD ms)) (Cal.ofMV (xD ms)) (Cal.wday (xD ms)) (Cal.ofDV (xD ms)) (xT ms / 3600000) (xT ms / 60000 % 60) (xT ms / 1000 % 60) (xT ms % 1000) := by
  obtain ⟨h1, h2, h3⟩ := x_iff.1 hx
  obtain ⟨hk, hn⟩ := of_parts h1
  obtain ⟨_, _, k1, k2, k3, k4⟩ := (Cal.okD_iff _ _ _).1 hk
  have lb := Cal.mlen_bd (Cal.ofYV (xD ms)) (Cal.ofMV (xD ms))
  have hw := Civ.wday_bd (xD ms)
  have ht := xT_bd ms
  have hT2 : xT ms / 3600000 ≤ 23 := by omega
  constructor
  · unfold okS
    have hn2 : numS (Cal.ofMV (xD ms)) (Cal.wday (xD ms)) (Cal.ofDV (xD ms)) (xT ms / 3600000) (xT ms / 60000 % 60) (xT ms / 1000 % 60) (xT ms % 1000) = true := num_iff.2 ⟨k1, k2, by omega, by omega, by omega, by omega, by omega, k3⟩
    have hd2 : dayS (Cal.ofYV (xD ms)) (Cal.ofMV (xD ms)) (Cal.ofDV (xD ms)) = true := day_iff.2 (Or.inr ⟨h2, h3, k4⟩)
    rw [hn2, hd2]; simp
  · exact ⟨by omega, by omega, by omega, by omega, by omega, by omega, by omega, by omega⟩
/-- the time of the day is put together again -/
theorem ms_join {T : Int} (h0 : 0 ≤ T) (h1 : T < 86400000) : msT (T / 3600000) (T / 60000 % 60) (T / 1000 % 60) (T % 1000) = T := by unfold msT; omega
theorem dt_exact {Y m v d h i s u : Int} (hk : okS Y m v d h i s u = true) (hY : 1601 ≤ Y) (hY2 : Y ≤ 9999) (y : Int) : (dtE Y m v d h i s u y = 0 ↔ y = Y) := by
  have hz : zeroS Y m v d h i s u = false := by
    cases hh : zeroS Y m v d h i s u with
    | false => rfl
    | true => have := zero_iff.1 hh; omega
  unfold dtE noneS
  rw [if_neg (by rw [hk]; decide), hz]
  constructor
  · intro h
    apply Decidable.byContradiction; intro hc
    by_cases hr : 1601 ≤ y ∧ y ≤ 9999
    · rw [if_neg (by omega), if_pos (by simp; omega)] at h; cases h
    · rw [if_pos hr] at h; cases h
  · rintro rfl
    rw [if_neg (by omega), if_neg (by simp)]
theorem x_time {ms : Int} (hx : xOk ms = true) :
    dtE (Cal.ofYV (xD ms)) (Cal.ofMV (xD ms)) (Cal.wday (xD ms)) (Cal.ofDV (xD ms)) (xT ms / 3600000) (xT ms / 60000 % 60) (xT ms / 1000 % 60) (xT ms % 1000) (Cal.ofYV (xD ms)) = 0 ∧
    lcV (Cal.ofYV (xD ms)) (Cal.ofMV (xD ms)) (Cal.wday (xD ms)) (Cal.ofDV (xD ms)) (xT ms / 3600000) (xT ms / 60000 % 60) (xT ms / 1000 % 60) (xT ms % 1000) (Cal.ofYV (xD ms)) = ms := by
  obtain ⟨h1, h2, h3⟩ := x_iff.1 hx
  obtain ⟨hk, hn⟩ := of_parts h1
  have he := (dt_exact (x_right hx).1 h2 h3 (Cal.ofYV (xD ms))).2 rfl
  refine ⟨he, ?_⟩
  have ht := xT_bd ms
  unfold lcV dtY dtM dtD
  rw [if_pos he, if_pos he, if_pos he, if_pos he, if_neg (by omega), hn, ms_join ht.1 ht.2]
  unfold xD xT; omega
/-- a stamp's time in a year: its day, and the time of the day -/
theorem l_back {y m v d h i s u Y : Int} (B : Bd y m v d h i s u) (he : dtE y m v d h i s u Y = 0) :
    xOk (lcV y m v d h i s u Y) = true ∧ Cal.ofYV (xD (lcV y m v d h i s u Y)) = Y ∧ Cal.ofMV (xD (lcV y m v d h i s u Y)) = m ∧ Cal.ofDV (xD (lcV y m v d h i s u Y)) = dtD y m v d h i s u Y ∧
      xT (lcV y m v d h i s u Y) / 3600000 = h ∧ xT (lcV y m v d h i s u Y) % 1000 = u ∧ -9223372036854775808 ≤ lcV y m v d h i s u Y ∧ lcV y m v d h i s u Y ≤ 9223372036854775807 := by
  obtain ⟨hok, e1, e2, hY1, hY2, m1, m2, v6, h23, i59, s59, u999, d1⟩ := dt_ok B he
  obtain ⟨_, _, _, _, b5, b6, b7, b8⟩ := B
  have hnr := Cal.num_range hok
  have hdo := Cal.day_of hok
  have el : lcV y m v d h i s u Y = Cal.num (dtY y m v d h i s u Y) (dtM y m v d h i s u Y) (dtD y m v d h i s u Y) * 86400000 + msT h i s u := by unfold lcV; rw [if_pos he]
  have hkN := (Cal.okN_iff _).2 hnr
  generalize hN : Cal.num (dtY y m v d h i s u Y) (dtM y m v d h i s u Y) (dtD y m v d h i s u Y) = N at *
  have hm : 0 ≤ msT h i s u ∧ msT h i s u < 86400000 := by unfold msT; omega
  have exd : xD (lcV y m v d h i s u Y) = N := by rw [el]; unfold xD; omega
  have ext : xT (lcV y m v d h i s u Y) = msT h i s u := by rw [el]; unfold xT; omega
  have y1 : Cal.ofYV N = Y := by unfold Cal.ofYV; rw [if_pos hkN, hdo.1, e1]
  have y2 : Cal.ofMV N = m := by unfold Cal.ofMV; rw [if_pos hkN, hdo.2.1, e2]
  have y3 : Cal.ofDV N = dtD y m v d h i s u Y := by unfold Cal.ofDV; rw [if_pos hkN, hdo.2.2]
  have y4 : Cal.ofE N = 0 := by unfold Cal.ofE; rw [if_pos hkN]
  refine ⟨x_iff.2 ?_, ?_, ?_, ?_, ?_, ?_, ?_, ?_⟩
  · rw [exd, y1, y4]; omega
  · rw [exd, y1]
  · rw [exd, y2]
  · rw [exd, y3]
  · rw [ext]; unfold msT; omega
  · rw [ext]; unfold msT; omega
  · rw [el]; omega
  · rw [el]; omega
/-! ### Bytes there and back -/
theorem put_le (a b : UInt8) : Lit.putN (Lit.leN [a, b]) 2 = [a, b] := by
  have ha := a.toNat_lt
  have hb := b.toNat_lt
  have e : Lit.leN [a, b] = a.toNat + 256 * b.toNat := by simp [Lit.leN]
  rw [e]
  have h0 : Lit.byteN (a.toNat + 256 * b.toNat) 0 = a := by
    apply UInt8.toNat_inj.1; unfold Lit.byteN; simp <;> omega
  have h1 : Lit.byteN (a.toNat + 256 * b.toNat) 1 = b := by
    apply UInt8.toNat_inj.1; unfold Lit.byteN; simp <;> omega
  show [Lit.byteN _ 0, Lit.byteN _ 1] = _
  rw [h0, h1]
theorem of_back (b : ByteArray) (hb : b.size = 16) : Lit.encN 2 (stL (ofV b 0) (ofV b 1) (ofV b 2) (ofV b 3) (ofV b 4) (ofV b 5) (ofV b 6) (ofV b 7)) = Lit.LB b := by
  have hl : (Lit.LB b).length = 16 := by rw [Lit.LB_len, hb]
  unfold ofV
  generalize Lit.LB b = l at *
  match l, hl with
  | [b0, b1, b2, b3, b4, b5, b6, b7, b8, b9, b10, b11, b12, b13, b14, b15], _ =>
    show Lit.putN (Lit.leN [b0, b1]) 2 ++ (Lit.putN (Lit.leN [b2, b3]) 2 ++ (Lit.putN (Lit.leN [b4, b5]) 2 ++ (Lit.putN (Lit.leN [b6, b7]) 2 ++ (Lit.putN (Lit.leN [b8, b9]) 2 ++ (Lit.putN (Lit.leN [b10, b11]) 2 ++ (Lit.putN (Lit.leN [b12, b13]) 2 ++ (Lit.putN (Lit.leN [b14, b15]) 2 ++ []))))))) = _
    rw [put_le, put_le, put_le, put_le, put_le, put_le, put_le, put_le]
    rfl
end Go.Proofs.YtcjjgfejamddjaaDoor.Stp
