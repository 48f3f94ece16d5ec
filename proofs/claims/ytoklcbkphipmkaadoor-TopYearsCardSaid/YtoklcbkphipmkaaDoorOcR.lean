/-
  THE DOCUMENT'S CHECKS OF RULES, walked: that they answer; whether rules are near.
-/
import Derived.Test.YtoklcbkphipmkaaDoorOcQ
import Derived.Test.YtoklcbkphipmkaaDoorSm
namespace Go.Proofs.YtoklcbkphipmkaaDoor.Oc
open Go.ChangeShapes Go.WideShapes Go.ChangeAt Go.RowKit
open Go.Proofs.YtoklcbkphipmkaaDoor
open Go.Proofs.YtoklcbkphipmkaaDoor.Wd
open Go.Proofs.YtoklcbkphipmkaaDoor.Sr
open Go.Proofs.YtoklcbkphipmkaaDoor.Sl
open Go.Proofs.YtoklcbkphipmkaaDoor.Civ (Tab ret_int)
open Go.Proofs.YtoklcbkphipmkaaDoor.Dy
open Go.Proofs.YtoklcbkphipmkaaDoor.Va (bcl)
set_option linter.unusedVariables false
set_option linter.unusedSimpArgs false
/-- a number is answered -/
def AnP (w : World) (e : Ending) (w' : World) : Prop := (∃ v : Int, e = .returned (.int .i64 v)) ∧ Below w.heap.size w w'
set_option maxRecDepth 20000 in
set_option maxHeartbeats 3200000 in
theorem rmc_any (s c : Int) (w : World) : Calls Tryd.prog 40 #[.agg #[.int .i64 s, .int .u8 c]] w (AnP w) := by
  have ht := fun w => rtext_any s w
  have b0 := bal (Below.refl _ w) (.cells #[.int .i64 s, .int .u8 c] 33)
  have x0 := Blk.new w 33 #[.int .i64 s, .int .u8 c]
  have c0 : (w.alloc (.cells #[.int .i64 s, .int .u8 c] 33)).cell? ⟨w.heap.size, 0, none⟩ = some (.int .i64 s) := x0.cell 0
  go_enter Tryd.func40, Tryd.ntmps40
  go_wp2_with fail
  refine (ht _).mono ?_; rintro e w1 ⟨⟨s1, rfl, hs1⟩, b1⟩
  have x1 := x0.below b1 x0.lt
  have c1 : w1.cell? ⟨w.heap.size, 1, none⟩ = some (.int .u8 c) := x1.cell 1
  have b2 := bcl b0 b1
  by_cases hz : s1.toList = []
  · go_wp2_with fail
    go_ret
    exact ⟨⟨_, rfl⟩, b2⟩
  · have he : s1.toList.isEmpty = false := by simpa using hz
    by_cases hc : 2 < c
    · go_wp2_with fail
      go_ret
      exact ⟨⟨_, rfl⟩, b2⟩
    · go_wp2_with fail
      go_ret
      exact ⟨⟨_, rfl⟩, b2⟩
/-- a truth value is answered -/
def BoP (w : World) (e : Ending) (w' : World) : Prop := (∃ v : Bool, e = .returned (.bool v)) ∧ w' = w
set_option maxRecDepth 20000 in
set_option maxHeartbeats 6400000 in
theorem rsg_any (s : ByteArray) (w : World) (hs : s.size ≤ maxLen) : Calls Tryd.prog 60 #[.string s] w (BoP w) := by
  unfold maxLen at hs
  go_enter Tryd.func60, Tryd.ntmps60
  go_wp2_with fail
  go_loop [3] (fun i => ∃ k : Nat, i = .int .i64 k ∧ k ≤ s.size) (fun i => s.size - (intOf i).toNat)
  case atStart => exact ⟨0, rfl, Nat.zero_le _⟩
  case round =>
    obtain ⟨k, rfl, hk⟩ := hrel
    by_cases hlt : k < s.size
    · have hlt' : (k : Int) < (s.size : Int) := by omega
      obtain ⟨z0, z1⟩ : (0 : Int) ≤ (s[k].toNat : Int) ∧ (s[k].toNat : Int) ≤ 255 := by have := s[k].toNat_lt; omega
      rcases (show ((s[k].toNat : Int) ≤ 42) ∨ ((s[k].toNat : Int) = 43) ∨ ((s[k].toNat : Int) = 44) ∨ ((s[k].toNat : Int) = 45) ∨ ((46 ≤ (s[k].toNat : Int) ∧ (s[k].toNat : Int) ≤ 47)) ∨ ((48 ≤ (s[k].toNat : Int) ∧ (s[k].toNat : Int) ≤ 57)) ∨ ((58 ≤ (s[k].toNat : Int) ∧ (s[k].toNat : Int) ≤ 64)) ∨ ((65 ≤ (s[k].toNat : Int) ∧ (s[k].toNat : Int) ≤ 90)) ∨ ((91 ≤ (s[k].toNat : Int) ∧ (s[k].toNat : Int) ≤ 96)) ∨ ((97 ≤ (s[k].toNat : Int) ∧ (s[k].toNat : Int) ≤ 122)) ∨ (123 ≤ (s[k].toNat : Int)) by omega) with g | g | g | g | g | g | g | g | g | g | g
      · have : ¬ 97 ≤ (s[k].toNat : Int) := by omega
        have : ¬ 65 ≤ (s[k].toNat : Int) := by omega
        have : ¬ 48 ≤ (s[k].toNat : Int) := by omega
        have : (s[k].toNat : Int) ≤ 122 := by omega
        have : (s[k].toNat : Int) ≤ 90 := by omega
        have : (s[k].toNat : Int) ≤ 57 := by omega
        have : ((s[k].toNat : Int) == 43) = false := by simp; omega
        have : ((s[k].toNat : Int) == 45) = false := by simp; omega
        clear g
        go_wp2_with fail
        go_ret
        exact ⟨⟨_, rfl⟩, rfl⟩
      · have : ¬ 97 ≤ (s[k].toNat : Int) := by omega
        have : ¬ 65 ≤ (s[k].toNat : Int) := by omega
        have : ¬ 48 ≤ (s[k].toNat : Int) := by omega
        have : (s[k].toNat : Int) ≤ 122 := by omega
        have : (s[k].toNat : Int) ≤ 90 := by omega
        have : (s[k].toNat : Int) ≤ 57 := by omega
        have : ((s[k].toNat : Int) == 43) = true := by simp; omega
        have : ((s[k].toNat : Int) == 45) = false := by simp; omega
        clear g
        go_wp2_with fail
        go_round
        case rel => exact ⟨k + 1, by go_num, by omega⟩
        case measure => simp [intOf]; omega
      · have : ¬ 97 ≤ (s[k].toNat : Int) := by omega
        have : ¬ 65 ≤ (s[k].toNat : Int) := by omega
        have : ¬ 48 ≤ (s[k].toNat : Int) := by omega
        have : (s[k].toNat : Int) ≤ 122 := by omega
        have : (s[k].toNat : Int) ≤ 90 := by omega
        have : (s[k].toNat : Int) ≤ 57 := by omega
        have : ((s[k].toNat : Int) == 43) = false := by simp; omega
        have : ((s[k].toNat : Int) == 45) = false := by simp; omega
        clear g
        go_wp2_with fail
        go_ret
        exact ⟨⟨_, rfl⟩, rfl⟩
      · have : ¬ 97 ≤ (s[k].toNat : Int) := by omega
        have : ¬ 65 ≤ (s[k].toNat : Int) := by omega
        have : ¬ 48 ≤ (s[k].toNat : Int) := by omega
        have : (s[k].toNat : Int) ≤ 122 := by omega
        have : (s[k].toNat : Int) ≤ 90 := by omega
        have : (s[k].toNat : Int) ≤ 57 := by omega
        have : ((s[k].toNat : Int) == 43) = false := by simp; omega
        have : ((s[k].toNat : Int) == 45) = true := by simp; omega
        clear g
        go_wp2_with fail
        go_round
        case rel => exact ⟨k + 1, by go_num, by omega⟩
        case measure => simp [intOf]; omega
      · have : ¬ 97 ≤ (s[k].toNat : Int) := by omega
        have : ¬ 65 ≤ (s[k].toNat : Int) := by omega
        have : ¬ 48 ≤ (s[k].toNat : Int) := by omega
        have : (s[k].toNat : Int) ≤ 122 := by omega
        have : (s[k].toNat : Int) ≤ 90 := by omega
        have : (s[k].toNat : Int) ≤ 57 := by omega
        have : ((s[k].toNat : Int) == 43) = false := by simp; omega
        have : ((s[k].toNat : Int) == 45) = false := by simp; omega
        clear g
        go_wp2_with fail
        go_ret
        exact ⟨⟨_, rfl⟩, rfl⟩
      · have : ¬ 97 ≤ (s[k].toNat : Int) := by omega
        have : ¬ 65 ≤ (s[k].toNat : Int) := by omega
        have : 48 ≤ (s[k].toNat : Int) := by omega
        have : (s[k].toNat : Int) ≤ 122 := by omega
        have : (s[k].toNat : Int) ≤ 90 := by omega
        have : (s[k].toNat : Int) ≤ 57 := by omega
        have : ((s[k].toNat : Int) == 43) = false := by simp; omega
        have : ((s[k].toNat : Int) == 45) = false := by simp; omega
        clear g
        go_wp2_with fail
        go_round
        case rel => exact ⟨k + 1, by go_num, by omega⟩
        case measure => simp [intOf]; omega
      · have : ¬ 97 ≤ (s[k].toNat : Int) := by omega
        have : ¬ 65 ≤ (s[k].toNat : Int) := by omega
        have : 48 ≤ (s[k].toNat : Int) := by omega
        have : (s[k].toNat : Int) ≤ 122 := by omega
        have : (s[k].toNat : Int) ≤ 90 := by omega
        have : ¬ (s[k].toNat : Int) ≤ 57 := by omega
        have : ((s[k].toNat : Int) == 43) = false := by simp; omega
        have : ((s[k].toNat : Int) == 45) = false := by simp; omega
        clear g
        go_wp2_with fail
        go_ret
        exact ⟨⟨_, rfl⟩, rfl⟩
      · have : ¬ 97 ≤ (s[k].toNat : Int) := by omega
        have : 65 ≤ (s[k].toNat : Int) := by omega
        have : 48 ≤ (s[k].toNat : Int) := by omega
        have : (s[k].toNat : Int) ≤ 122 := by omega
        have : (s[k].toNat : Int) ≤ 90 := by omega
        have : ¬ (s[k].toNat : Int) ≤ 57 := by omega
        have : ((s[k].toNat : Int) == 43) = false := by simp; omega
        have : ((s[k].toNat : Int) == 45) = false := by simp; omega
        clear g
        go_wp2_with fail
        go_round
        case rel => exact ⟨k + 1, by go_num, by omega⟩
        case measure => simp [intOf]; omega
      · have : ¬ 97 ≤ (s[k].toNat : Int) := by omega
        have : 65 ≤ (s[k].toNat : Int) := by omega
        have : 48 ≤ (s[k].toNat : Int) := by omega
        have : (s[k].toNat : Int) ≤ 122 := by omega
        have : ¬ (s[k].toNat : Int) ≤ 90 := by omega
        have : ¬ (s[k].toNat : Int) ≤ 57 := by omega
        have : ((s[k].toNat : Int) == 43) = false := by simp; omega
        have : ((s[k].toNat : Int) == 45) = false := by simp; omega
        clear g
        go_wp2_with fail
        go_ret
        exact ⟨⟨_, rfl⟩, rfl⟩
      · have : 97 ≤ (s[k].toNat : Int) := by omega
        have : 65 ≤ (s[k].toNat : Int) := by omega
        have : 48 ≤ (s[k].toNat : Int) := by omega
        have : (s[k].toNat : Int) ≤ 122 := by omega
        have : ¬ (s[k].toNat : Int) ≤ 90 := by omega
        have : ¬ (s[k].toNat : Int) ≤ 57 := by omega
        have : ((s[k].toNat : Int) == 43) = false := by simp; omega
        have : ((s[k].toNat : Int) == 45) = false := by simp; omega
        clear g
        go_wp2_with fail
        go_round
        case rel => exact ⟨k + 1, by go_num, by omega⟩
        case measure => simp [intOf]; omega
      · have : 97 ≤ (s[k].toNat : Int) := by omega
        have : 65 ≤ (s[k].toNat : Int) := by omega
        have : 48 ≤ (s[k].toNat : Int) := by omega
        have : ¬ (s[k].toNat : Int) ≤ 122 := by omega
        have : ¬ (s[k].toNat : Int) ≤ 90 := by omega
        have : ¬ (s[k].toNat : Int) ≤ 57 := by omega
        have : ((s[k].toNat : Int) == 43) = false := by simp; omega
        have : ((s[k].toNat : Int) == 45) = false := by simp; omega
        clear g
        go_wp2_with fail
        go_ret
        exact ⟨⟨_, rfl⟩, rfl⟩
    · have hlt' : ¬ (k : Int) < (s.size : Int) := by omega
      go_wp2_with fail
      go_ret
      exact ⟨⟨_, rfl⟩, rfl⟩
set_option maxRecDepth 20000 in
set_option maxHeartbeats 6400000 in
theorem rcl_any (s : ByteArray) (w : World) (hs : s.size ≤ maxLen) : Calls Tryd.prog 42 #[.string s] w (AnP w) := by
  have hsg := fun w => rsg_any s w hs
  unfold maxLen at hs
  by_cases h1 : s.size ≤ 32
  · have h1' : ¬ (32 : Int) < (s.size : Int) := by omega
    clear h1
    go_enter Tryd.func42, Tryd.ntmps42
    go_wp2_with fail
    refine (hsg _).mono ?_; rintro e w1 ⟨⟨v, rfl⟩, rfl⟩
    cases v with
    | false =>
      go_wp2_with fail
      go_ret
      exact ⟨⟨_, rfl⟩, Below.refl _ _⟩
    | true =>
      by_cases hq : s.toList = [45]
      · have he : (s.toList == [45]) = true := by rw [hq]; rfl
        go_wp2_with fail
        go_ret
        exact ⟨⟨_, rfl⟩, Below.refl _ _⟩
      · have he : (s.toList == [45]) = false := by rw [beq_eq_false_iff_ne]; exact hq
        go_wp2_with fail
        go_ret
        exact ⟨⟨_, rfl⟩, Below.refl _ _⟩
  · have h1' : (32 : Int) < (s.size : Int) := by omega
    clear h1
    go_enter Tryd.func42, Tryd.ntmps42
    go_wp2_with fail
    go_ret
    exact ⟨⟨_, rfl⟩, Below.refl _ _⟩
open Go.Proofs.YtoklcbkphipmkaaDoor.Nv in
set_option maxRecDepth 20000 in
set_option maxHeartbeats 12800000 in
theorem rchk_any (r : Ru) (w : World) (hB : r.Bd) : Calls Tryd.prog 25 #[.agg r.C] w (AnP w) := by
  have hnm := fun w => Nv.rname_any r.nm w hB.1
  have hdy := fun w => rdchk_any r.kd r.dn r.dw w hB.2.2.1.1
  have hmc := fun w => rmc_any r.sec r.ck w
  have htx := fun w => rtext_any r.sv w
  have hcl := fun w => rcl_any r.lt w hB.2.1
  unfold AnP at hmc hcl
  unfold TyP at htx
  clear hB
  have b0 := bal (Below.refl _ w) (.cells r.C 42)
  have x0 := Blk.new w 42 r.C
  obtain ⟨nb, hnb⟩ : ∃ b, Nv.nmB r.nm = b := ⟨_, rfl⟩
  rw [hnb] at hnm
  obtain ⟨de, hde⟩ : ∃ b, dE r.kd r.dn r.dw = b := ⟨_, rfl⟩
  rw [hde] at hdy
  clear hnb hde
  go_enter Tryd.func25, Tryd.ntmps25
  go_upto_region 1 with fail
  generalize w.alloc (.cells r.C 42) = V at *
  obtain ⟨q, hq⟩ : ∃ q, w.heap.size = q := ⟨_, rfl⟩
  rw [hq] at x0
  simp only [hq]
  have HQ := Lib.hid hq; clear hq
  have b0' : Below q w V := by rw [← HQ.out]; exact b0
  have c0 : V.cell? ⟨q, 0, none⟩ = some (.string r.nm) := x0.cell 0
  have c1 : V.cell? ⟨q, 1, none⟩ = some (.int .i64 r.fr) := x0.cell 1
  have c2 : V.cell? ⟨q, 2, none⟩ = some (.int .i64 r.tt) := x0.cell 2
  have c3 : V.cell? ⟨q, 3, none⟩ = some (.int .i64 r.mo) := x0.cell 3
  go_wp2_with fail
  refine (hnm _).mono ?_; rintro e w1 ⟨rfl, rfl⟩
  have FIN := Lib.hid b0
  cases nb with
  | false =>
    go_wp2_with fail
    go_ret
    exact ⟨⟨_, rfl⟩, by rw [HQ.out] at *; exact FIN.out⟩
  | true =>
    by_cases g0 : r.fr < 1
    · go_wp2_with fail
      go_ret
      exact ⟨⟨_, rfl⟩, FIN.out⟩
    by_cases g1 : 9999 < r.tt
    · go_wp2_with fail
      go_ret
      exact ⟨⟨_, rfl⟩, FIN.out⟩
    by_cases g2 : r.tt < r.fr
    · go_wp2_with fail
      go_ret
      exact ⟨⟨_, rfl⟩, FIN.out⟩
    by_cases g3 : r.mo < 1
    · go_wp2_with fail
      go_ret
      exact ⟨⟨_, rfl⟩, FIN.out⟩
    by_cases g4 : 12 < r.mo
    · go_wp2_with fail
      go_ret
      exact ⟨⟨_, rfl⟩, FIN.out⟩
    go_wp2_with (refine wpList_seg_g rfl 30 _ rfl q 4 #[.int .u8 r.kd, .int .i64 r.dn, .int .i64 r.dw] rfl _ _ _ _ x0 Tryd.underlying30 rfl (by kernel_rfl) (by rfl) ?_)
    clear g0 g1 g2 g3 g4 c0 c1 c2 c3 b0' FIN
    refine (hdy _).mono ?_; rintro e w2 ⟨rfl, hb⟩
    have x2 := x0.below hb x0.lt; have b2 := bcl b0 hb; clear hb x0 b0
    by_cases hd : de = 0
    rotate_left
    · have hd2 : (de != 0) = true := by rw [bne_iff_ne]; exact hd
      go_wp2_with fail
      go_ret
      exact ⟨⟨_, rfl⟩, b2⟩
    subst hd
    go_wp2_with (refine wpList_seg_g rfl 33 _ rfl q 7 #[.int .i64 r.sec, .int .u8 r.ck] rfl _ _ _ _ x2 Tryd.underlying33 rfl (by kernel_rfl) (by rfl) ?_)
    refine (hmc _).mono ?_; rintro e w3 ⟨⟨mv, rfl⟩, hb⟩
    have x3 := x2.below hb x2.lt; have b3 := bcl b2 hb; clear hb x2 b2
    by_cases hd : mv = 0
    rotate_left
    · have hd2 : (mv != 0) = true := by rw [bne_iff_ne]; exact hd
      go_wp2_with fail
      go_ret
      exact ⟨⟨_, rfl⟩, b3⟩
    subst hd
    have d9 : w3.cell? ⟨q, 9, none⟩ = some (.int .i64 r.sv) := x3.cell 9
    go_wp2_with fail
    refine (htx _).mono ?_; rintro e w4 ⟨⟨s1, rfl, hs1⟩, hb⟩
    have x4 := x3.below hb x3.lt; have b4 := bcl b3 hb; clear hb x3 b3 d9
    by_cases hz : s1.toList = []
    · go_wp2_with fail
      go_ret
      exact ⟨⟨_, rfl⟩, b4⟩
    have he : s1.toList.isEmpty = false := by simpa using hz
    have d10 : w4.cell? ⟨q, 10, none⟩ = some (.string r.lt) := x4.cell 10
    go_wp2_with fail
    refine (hcl _).mono ?_; rintro e w5 ⟨⟨lv, rfl⟩, hb⟩
    have b5 := bcl b4 hb; clear hb x4 b4 d10
    by_cases hd : lv = 0
    rotate_left
    · have hd2 : (lv != 0) = true := by rw [bne_iff_ne]; exact hd
      go_wp2_with fail
      go_ret
      exact ⟨⟨_, rfl⟩, b5⟩
    subst hd
    go_wp2_with fail
    go_ret
    exact ⟨⟨_, rfl⟩, b5⟩
/-- rules are few, or not -/
def N15P (w : World) (n : Nat) (e : Ending) (w' : World) : Prop := (e = .returned (.int .i64 0) ∨ (e = .returned (.int .i64 1) ∧ n ≤ 12)) ∧ Below w.heap.size w w'
set_option maxRecDepth 100000 in
set_option maxHeartbeats 12800000 in
theorem near15 (A : Option Addr) (n c B : Nat) (rs : List Ru) (hi : Int) (w : World) (hS : Sls Ru.C 11 w B A n rs) (hBw : B ≤ w.heap.size) (hb : ∀ r ∈ rs, r.Bd) : Calls Tryd.prog 11 #[.slice A n c, .int .i64 hi] w (N15P w n) := by
  by_cases h12 : n ≤ 12
  rotate_left
  · have hI : (12 : Int) < (n : Int) := by omega
    go_enter Tryd.func11, Tryd.ntmps11
    go_wp2_with fail
    go_ret
    exact ⟨.inl rfl, Below.refl _ _⟩
  have hI : ¬ (12 : Int) < (n : Int) := by omega
  go_enter Tryd.func11, Tryd.ntmps11
  go_upto_region 4 with fail
  go_loopw [12] (fun i wr => ∃ k : Nat, i = .int .i64 (k : Int) ∧ k ≤ n ∧ Below w.heap.size w wr) (fun i _ => n - (intOf i).toNat)
  case atStart => exact ⟨0, rfl, Nat.zero_le _, Below.refl _ _⟩
  case round =>
    obtain ⟨k, rfl, hk, b⟩ := hrel
    by_cases hlt : k < n
    · have hltI : (k : Int) < (n : Int) := by omega
      obtain ⟨ad, eA, hrow⟩ := (hS.below (b.mono hBw)).row (fun _ => rfl) Ru.nil hlt
      subst eA
      have hB := hb _ (getD_mem (L := rs) Ru.nil (by rw [hS.len]; exact hlt))
      generalize rs.getD k Ru.nil = r at *
      have b1 := bcl b (bal (Below.refl _ wr) (.cells r.C 42)); have y1 := Blk.new wr 42 r.C
      go_upto_region 6 with (first | (refine wpList_at_g rfl 42 _ rfl _ _ r.C rfl _ hrow Tryd.underlying42 rfl (by kernel_rfl) ?_) | (refine wpList_store_new rfl 42 _ _ rfl rfl wr.heap.size r.C rfl rfl _ ruZ wr rfl rfl rfl (by kernel_rfl) (by kernel_rfl) ?_))
      clear hrow b
      generalize wr.alloc (.cells r.C 42) = V at *
      obtain ⟨q, hq⟩ : ∃ q, wr.heap.size = q := ⟨_, rfl⟩
      simp only [hq] at y1 ⊢
      clear hq
      have d0 : V.cell? ⟨q, 0, none⟩ = some (.string r.nm) := y1.cell 0
      have d10 : V.cell? ⟨q, 10, none⟩ = some (.string r.lt) := y1.cell 10
      have m1 : r.nm.size ≤ maxLen := hB.1
      have m2 : r.lt.size ≤ maxLen := hB.2.1
      unfold maxLen at m1 m2
      by_cases g1 : r.nm.size ≤ 1000
      rotate_left
      · have gI : (1000 : Int) < (r.nm.size : Int) := by omega
        go_wp2_with fail
        go_ret
        exact ⟨.inl rfl, b1⟩
      have gI : ¬ (1000 : Int) < (r.nm.size : Int) := by omega
      by_cases g2 : r.lt.size ≤ 1000
      rotate_left
      · have gJ : (1000 : Int) < (r.lt.size : Int) := by omega
        go_wp2_with fail
        go_ret
        exact ⟨.inl rfl, b1⟩
      have gJ : ¬ (1000 : Int) < (r.lt.size : Int) := by omega
      have hck := rchk_any r V hB
      clear hB
      go_wp2_with (refine wpList_row_g rfl 42 _ rfl _ rfl _ _ _ _ y1 Tryd.underlying42 rfl (by kernel_rfl) ?_)
      refine hck.mono ?_; rintro e V2 ⟨⟨v, rfl⟩, hb2⟩
      have y2 := y1.below hb2 y1.lt; have b2 := bcl b1 hb2
      clear y1 b1 hb2 hck d0 d10
      have d1 : V2.cell? ⟨q, 1, none⟩ = some (.int .i64 r.fr) := y2.cell 1
      have d2 : V2.cell? ⟨q, 2, none⟩ = some (.int .i64 r.tt) := y2.cell 2
      by_cases hv : v = 0
      rotate_left
      · have hv2 : (v == 0) = false := by rw [beq_eq_false_iff_ne]; exact hv
        go_wp2_with fail
        go_roundw
        case rel => exact ⟨k + 1, by go_num, by omega, b2⟩
        case measure => simp [intOf]; omega
      subst hv
      by_cases gm : hi < r.tt
      · by_cases gl : r.fr < wrap64 (hi - 80)
        · go_wp2_with fail
          go_ret
          exact ⟨.inl rfl, b2⟩
        · go_wp2_with fail
          go_roundw
          case rel => exact ⟨k + 1, by go_num, by omega, b2⟩
          case measure => simp [intOf]; omega
      · by_cases gl : r.fr < wrap64 (r.tt - 80)
        · go_wp2_with fail
          go_ret
          exact ⟨.inl rfl, b2⟩
        · go_wp2_with fail
          go_roundw
          case rel => exact ⟨k + 1, by go_num, by omega, b2⟩
          case measure => simp [intOf]; omega
    · obtain rfl : k = n := by omega
      have hltI : ¬ (k : Int) < (k : Int) := by omega
      go_wp2_with fail
      go_ret
      exact ⟨.inr ⟨rfl, h12⟩, b⟩
/-- a source is near, or not -/
def N16P (w : World) (h : Hd) (S : So) (e : Ending) (w' : World) : Prop := (e = .returned (.int .i64 0) ∨ (e = .returned (.int .i64 1) ∧ SoS h S ∧ h.rn ≤ 12)) ∧ Below w.heap.size w w'
set_option maxRecDepth 100000 in
set_option maxHeartbeats 12800000 in
theorem near16 (h : Hd) (S : So) (hi : Int) (w : World) (hS : SoR w w.heap.size h S) : Calls Tryd.prog 6 #[h.V, .int .i64 hi] w (N16P w h S) := by
  have x0 := Blk.new w 26 h.C
  have b0 := bal (Below.refl _ w) (.cells h.C 26)
  have HSR := Lib.hid hS
  clear hS
  go_enter Tryd.func6, Tryd.ntmps6
  go_upto_region 1 with fail
  generalize w.alloc (.cells h.C 26) = W at *
  obtain ⟨g0, hg⟩ : ∃ g, w.heap.size = g := ⟨_, rfl⟩
  have x1 : Blk W g0 26 h.C := by rw [← hg]; exact x0
  rw [hg]
  have HG := Lib.hid hg; clear hg x0
  go_wp2_with (refine wpList_row_g rfl 26 _ rfl _ rfl _ _ _ _ x1 Tryd.underlying26 rfl (by kernel_rfl) ?_)
  refine (small_any h S W ((HSR.out.below b0).more b0.size)).mono ?_; rintro e W1 ⟨hsm, hb⟩
  have x2 := x1.below hb x1.lt; have b1 := bcl b0 hb; clear hb x1 b0
  have c0 : W1.cell? ⟨g0, 0, none⟩ = some (.slice h.rA h.rn h.rc) := x2.cell 0
  rcases hsm with rfl | ⟨rfl, hss⟩
  · go_wp2_with fail
    go_ret
    exact ⟨.inl rfl, b1⟩
  have hz12 := hss.zn
  have hl1 := hss.ln
  by_cases h12 : h.rn ≤ 12
  rotate_left
  · have hI : (12 : Int) < (h.rn : Int) := by omega
    have hr40 := hss.rn
    go_wp2_with fail
    go_ret
    exact ⟨.inl rfl, b1⟩
  have hI : ¬ (12 : Int) < (h.rn : Int) := by omega
  have hne := near15 h.rA h.rn h.rc w.heap.size S.rs hi W1 (HSR.out.below b1).r b1.size (HSR.out.below b1).rb
  have HSS := Lib.hid hss; clear hss
  go_wp2_with fail
  refine hne.mono ?_; rintro e W2 ⟨hv, hb⟩
  have x3 := x2.below hb x2.lt; have b2 := bcl b1 hb; clear hb x2 b1 hne c0
  rcases hv with rfl | ⟨rfl, -⟩
  · go_wp2_with fail
    go_ret
    exact ⟨.inl rfl, b2⟩
  have c1 : W2.cell? ⟨g0, 1, none⟩ = some (.slice h.zA h.zn h.zc) := x3.cell 1
  go_upto_region 4 with fail
  clear c1 x3
  go_loopw [28] (fun i wr => ∃ k : Nat, i = .int .i64 (k : Int) ∧ k ≤ h.zn ∧ Below w.heap.size w wr) (fun i _ => h.zn - (intOf i).toNat)
  case atStart => exact ⟨0, rfl, Nat.zero_le _, b2⟩
  case round =>
    clear b2
    obtain ⟨k, rfl, hk, b⟩ := hrel
    by_cases hlt : k < h.zn
    · have hltI : (k : Int) < (h.zn : Int) := by omega
      have hS2 := HSR.out.below b
      obtain ⟨ad, e0, hr⟩ := hS2.z.row (fun _ => rfl) Zn.nil hlt
      rw [e0]; clear e0
      have hzb : ZnOk wr w.heap.size (zn_ S.zs k) := hS2.zb _ (getD_mem Zn.nil (by rw [hS2.z.len]; exact hlt))
      have hzs := HSS.out.z _ (getD_mem (L := S.zs) Zn.nil (by rw [hS2.z.len]; exact hlt))
      have hz1 : (zn_ S.zs k).n ≤ 12 := hzs.1
      obtain ⟨-, hz2, -⟩ := hzb
      clear hS2 hzs
      rw [show S.zs.getD k Zn.nil = zn_ S.zs k from rfl] at hr
      generalize zn_ S.zs k = z at *
      have i2 := bal b (.cells z.C 63)
      have z2 := Blk.new wr 63 z.C
      have n1 : (wr.alloc (.cells z.C 63)).cell? ⟨wr.heap.size, 1, none⟩ = some (.slice z.A z.n z.c) := z2.cell 1
      go_upto_region 7 with (first | (refine wpList_at_g rfl 63 _ rfl _ _ z.C rfl _ hr Tryd.underlying63 rfl (by kernel_rfl) ?_) | (refine wpList_store_new rfl 63 _ _ rfl rfl wr.heap.size z.C rfl rfl _ #[.string ByteArray.empty, .slice none 0 0] wr rfl rfl rfl (by kernel_rfl) (by kernel_rfl) ?_))
      clear n1 hr z2
      have hes := hz2.below (bal (Below.refl _ wr) (.cells z.C 63) |>.mono b.size)
      generalize wr.alloc (.cells z.C 63) = W3 at *
      clear b hz2
      go_loopw [35] (fun i wq => ∃ j : Nat, i = .int .i64 (j : Int) ∧ j ≤ z.n ∧ Below w.heap.size w wq ∧ Sls Er.C 13 wq w.heap.size z.A z.n z.es) (fun i _ => z.n - (intOf i).toNat)
      case atStart => exact ⟨0, rfl, Nat.zero_le _, i2, hes⟩
      case round =>
        clear i2 hes
        obtain ⟨j, rfl, hj, b, hes⟩ := hrel
        by_cases hl2 : j < z.n
        · have hl2' : (j : Int) < (z.n : Int) := by omega
          obtain ⟨ae, e0, hr2⟩ := hes.row (fun _ => rfl) Er.nil hl2
          rw [e0] at hes ⊢; clear e0
          generalize z.es.getD j Er.nil = y at *
          have i3 := bal b (.cells y.C 37)
          have es3 := hes.below ((bal (Below.refl _ wr) (.cells y.C 37)).mono b.size)
          have z3 := Blk.new wr 37 y.C
          go_upto_region 9 with (first | (refine wpList_at_g rfl 37 _ rfl _ _ y.C rfl _ hr2 Tryd.underlying37 rfl (by kernel_rfl) ?_) | (refine wpList_store_new rfl 37 _ _ rfl rfl wr.heap.size y.C rfl rfl _ #[.int .i64 0, .int .u8 0, .int .i64 0, .string ByteArray.empty, .string ByteArray.empty, .bool false, .int .i64 0, .int .i64 0, .int .u8 0, .int .i64 0, .int .i64 0, .int .i64 0, .int .u8 0] wr rfl rfl rfl (by kernel_rfl) (by kernel_rfl) ?_))
          clear hr2 b hes
          generalize wr.alloc (.cells y.C 37) = W4 at *
          obtain ⟨q, hq⟩ : ∃ q, wr.heap.size = q := ⟨_, rfl⟩
          simp only [hq] at z3 ⊢
          clear hq
          have n5 : W4.cell? ⟨q, 5, none⟩ = some (.bool y.en) := z3.cell 5
          have n6 : W4.cell? ⟨q, 6, none⟩ = some (.int .i64 y.uy) := z3.cell 6
          obtain ⟨eb, heb⟩ : ∃ b, y.en = b := ⟨_, rfl⟩
          rw [heb] at n5
          cases eb with
          | false =>
            go_wp2_with fail
            go_roundw
            case rel => exact ⟨j + 1, by go_num, by omega, i3, es3⟩
            case measure => simp [intOf]; omega
          | true =>
            by_cases u1 : hi < y.uy
            rotate_left
            · go_wp2_with fail
              go_roundw
              case rel => exact ⟨j + 1, by go_num, by omega, i3, es3⟩
              case measure => simp [intOf]; omega
            by_cases u2 : y.uy ≤ 9999
            · go_wp2_with fail
              go_ret
              exact ⟨.inl rfl, i3⟩
            · go_wp2_with fail
              go_roundw
              case rel => exact ⟨j + 1, by go_num, by omega, i3, es3⟩
              case measure => simp [intOf]; omega
        · obtain rfl : j = z.n := by omega
          have hl2' : ¬ (z.n : Int) < (z.n : Int) := by omega
          go_wp2_with fail
          go_roundw
          case rel => exact ⟨k + 1, by go_num, by omega, b⟩
          case measure => simp [intOf]; omega
    · obtain rfl : k = h.zn := by omega
      have hltI : ¬ (h.zn : Int) < (h.zn : Int) := by omega
      go_wp2_with fail
      go_ret
      exact ⟨.inr ⟨rfl, HSS.out, h12⟩, b⟩
end Go.Proofs.YtoklcbkphipmkaaDoor.Oc
