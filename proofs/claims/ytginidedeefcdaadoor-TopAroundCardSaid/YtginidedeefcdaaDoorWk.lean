/-
  NAMES OF DAYS OF THE WEEK, WALKED: letters alike; which name a text means.
-/
import Derived.Test.YtginidedeefcdaaDoorDay
import Derived.Test.YtginidedeefcdaaDoorWords
import Derived.Lib.Strings
namespace Go.Proofs.YtginidedeefcdaaDoor.Wk
open Go.ChangeShapes Go.WideShapes Go.ChangeAt Go.RowKit
open Go.Proofs.YtginidedeefcdaaDoor
open Go.Proofs.YtginidedeefcdaaDoor.Wd
set_option linter.unusedVariables false
abbrev L (s : ByteArray) : List UInt8 := s.data.toList
theorem L_len (s : ByteArray) : (L s).length = s.size := Array.length_toList
def smN (n : Nat) : Int := if 65 ≤ n ∧ n ≤ 90 then (n : Int) + 32 else n
theorem small_any (b : UInt8) (w : World) :
    Calls Tryd.prog 100 #[.int .u8 (b.toNat : Int)] w fun e w' => e = .returned (.int .u8 (smN b.toNat)) ∧ w' = w := by
  have hb := b.toNat_lt
  unfold smN
  generalize b.toNat = n at *
  by_cases h : 65 ≤ n
  · have h1 : ¬ (n : Int) < 65 := by omega
    by_cases h2 : n ≤ 90
    · have h3 : ¬ (90 : Int) < (n : Int) := by omega
      have e : (n : Int) - 65 + 97 = (n : Int) + 32 := by omega
      have e2 : IntKind.u8.wrap ((n : Int) - 65) = (n : Int) - 65 := by simp [IntKind.wrap, IntKind.bits, IntKind.signed]; omega
      have e3 : IntKind.u8.wrap ((n : Int) - 65 + 97) = (n : Int) + 32 := by simp [IntKind.wrap, IntKind.bits, IntKind.signed]; omega
      rw [if_pos ⟨h, h2⟩]
      go_enter Tryd.func100, Tryd.ntmps100
      go_wp2
      go_ret
      exact ⟨Civ.ret_int (by omega), rfl⟩
    · have h3 : (90 : Int) < (n : Int) := by omega
      rw [if_neg (by omega)]
      go_enter Tryd.func100, Tryd.ntmps100
      go_wp2
      go_ret
      exact ⟨rfl, rfl⟩
  · have h1 : (n : Int) < 65 := by omega
    rw [if_neg (by omega)]
    go_enter Tryd.func100, Tryd.ntmps100
    go_wp2
    go_ret
    exact ⟨rfl, rfl⟩
/-- letters alike -/
def smL (l : List UInt8) : List Int := l.map fun b => smN b.toNat
def sameB (a b : ByteArray) : Bool := smL (L a) == smL (L b)
theorem sm_take {s : ByteArray} {k : Nat} (h : k < s.size) : smL ((L s).take (k + 1)) = smL ((L s).take k) ++ [smN s[k].toNat] := by
  have hl : k < (L s).length := by rw [L_len]; exact h
  rw [List.take_succ_eq_append_getElem hl]
  simp [smL]; rfl
theorem same_no {a b : ByteArray} {k : Nat} (ha : k < a.size) (hb : k < b.size) (h : smN a[k].toNat ≠ smN b[k].toNat) : sameB a b = false := by
  unfold sameB
  rw [beq_eq_false_iff_ne]
  intro e
  have := congrArg (·[k]?) e
  have h1 : k < (L a).length := by rw [L_len]; exact ha
  have h2 : k < (L b).length := by rw [L_len]; exact hb
  have e1 : (smL (L a))[k]? = some (smN a[k].toNat) := by unfold smL; rw [List.getElem?_map, List.getElem?_eq_getElem h1]; rfl
  have e2 : (smL (L b))[k]? = some (smN b[k].toNat) := by unfold smL; rw [List.getElem?_map, List.getElem?_eq_getElem h2]; rfl
  simp only [e1, e2] at this
  injection this with this
  exact h this
theorem same_len {a b : ByteArray} (h : a.size ≠ b.size) : sameB a b = false := by
  unfold sameB
  rw [beq_eq_false_iff_ne]
  intro e
  have := congrArg List.length e
  simp only [smL, List.length_map, L_len] at this
  exact h this
theorem same_yes {a b : ByteArray} (h : a.size = b.size) (hk : smL ((L a).take a.size) = smL ((L b).take a.size)) : sameB a b = true := by
  unfold sameB
  rw [beq_iff_eq]
  rw [List.take_of_length_le (by rw [L_len]; omega), List.take_of_length_le (by rw [L_len]; omega)] at hk
  exact hk
set_option maxRecDepth 20000 in
set_option maxHeartbeats 1600000 in
theorem same_any (a b : ByteArray) (w : World) (ha : a.size ≤ 9223372036854775807) (hbz : b.size ≤ 9223372036854775807) :
    Calls Tryd.prog 91 #[.string a, .string b] w fun e w' => e = .returned (.bool (sameB a b)) ∧ Below w.heap.size w w' := by
  by_cases hl : a.size = b.size
  · have hne : ((a.size : Int) != (b.size : Int)) = false := by simp; omega
    have hl' : (a.size : Int) = (b.size : Int) := by omega
    have HL := Lib.hid hl
    clear hl
    go_enter Tryd.func91, Tryd.ntmps91
    go_wp2
    go_loopw [5, 13] (fun _ i w' => ∃ k : Nat, i = .int .i64 k ∧ k ≤ a.size ∧ smL ((L a).take k) = smL ((L b).take k) ∧ Below w.heap.size w w') (fun _ i _ => a.size - (intOf i).toNat)
    case atStart => exact ⟨0, rfl, Nat.zero_le _, rfl, Below.refl _ _⟩
    case round =>
      obtain ⟨k, rfl, hk, hs, hbw⟩ := hrel
      have HS := Lib.hid hs; clear hs
      by_cases hlt : k < a.size
      · have hlt' : (k : Int) < (a.size : Int) := by omega
        have hltb : k < b.size := by have := HL.out; omega
        have hltb' : (k : Int) < (b.size : Int) := by omega
        have T1 := Lib.hid (sm_take hlt)
        have T2 := Lib.hid (sm_take hltb)
        have NO := Lib.hid (same_no hlt hltb)
        clear hne
        go_wp2
        go_quiet (first | (go_at_call 100; refine Calls.quiet_of_same (small_any _ _)))
        have hb' : Below w.heap.size w (wr.drewN nq) := bdrewN hbw nq
        by_cases he : smN a[k].toNat = smN b[k].toNat
        · have heb : (smN a[k].toNat != smN b[k].toNat) = false := by rw [he]; simp
          have hE := Lib.hid he; clear he
          go_wp2
          go_roundw
          case rel => exact ⟨k + 1, by go_num, by omega, by rw [T1.out, T2.out, HS.out, hE.out], hb'⟩
          case measure => simp [intOf]; omega
        · have heb : (smN a[k].toNat != smN b[k].toNat) = true := by rw [bne_iff_ne]; exact he
          have hE := Lib.hid (NO.out he); clear he
          go_wp2
          go_ret
          exact ⟨Civ.ret_bool hE.out.symm, hb'⟩
      · obtain rfl : k = a.size := by omega
        have hlt' : ¬ (a.size : Int) < (a.size : Int) := by omega
        have hY := Lib.hid (same_yes HL.out HS.out)
        go_wp2
        go_ret
        exact ⟨Civ.ret_bool hY.out.symm, hbw⟩
  · have hne : ((a.size : Int) != (b.size : Int)) = true := by simp; omega
    have hN := Lib.hid (same_len hl)
    clear hl
    go_enter Tryd.func91, Tryd.ntmps91
    go_wp2
    go_ret
    exact ⟨Civ.ret_bool hN.out.symm, Below.refl _ _⟩
/-- the names -/
def dayNs : List ByteArray := [⟨#[83, 117, 110, 100, 97, 121]⟩, ⟨#[77, 111, 110, 100, 97, 121]⟩, ⟨#[84, 117, 101, 115, 100, 97, 121]⟩, ⟨#[87, 101, 100, 110, 101, 115, 100, 97, 121]⟩, ⟨#[84, 104, 117, 114, 115, 100, 97, 121]⟩, ⟨#[70, 114, 105, 100, 97, 121]⟩, ⟨#[83, 97, 116, 117, 114, 100, 97, 121]⟩]
theorem days_names (w : World) :
    Calls Tryd.prog 73 #[] w fun e w' => e = .returned (.slice (some ⟨w.heap.size, 0, none⟩) 7 7) ∧ w' = w.alloc (.cells (dayNs.map Value.string).toArray 9) := by
  go_enter Tryd.func73, Tryd.ntmps73
  go_wp2
  go_ret
  exact ⟨rfl, rfl⟩
theorem names_read (w : World) : Reads (w.alloc (.cells (dayNs.map Value.string).toArray 9)) (w.heap.size + 1) 1 (some ⟨w.heap.size, 0, none⟩) 7 (dayNs.map Value.string) :=
  ⟨rfl, fun _ => ⟨_, rfl, Nat.lt_succ_self _, fun j x hx => by
    have hj : j < 7 := by have := (List.getElem?_eq_some_iff.1 hx).1; simpa [dayNs] using this
    have h := (Blk.new w 9 (dayNs.map Value.string).toArray).cell j
    have e : (⟨w.heap.size, 0, none⟩ : Addr).add j = ⟨w.heap.size, j, none⟩ := by unfold Addr.add; split <;> simp_all
    rw [e, h]; simpa using hx⟩⟩
/-- which name a text means -/
def pickL (s : ByteArray) : List ByteArray → Int → Int → Int → Int
  | [], i, bg, ct => if ct = 1 then bg else -1
  | x :: r, i, bg, ct =>
    if x.size < s.size then pickL s r (i + 1) bg ct
    else if sameB (x.extract 0 s.size) s = false then pickL s r (i + 1) bg ct
    else if x.size = s.size then i
    else pickL s r (i + 1) i (ct + 1)
def pickV (s : ByteArray) (xs : List ByteArray) : Int := if s.size = 0 then -1 else pickL s xs 0 (-1) 0
theorem str_at {w : World} {B n k : Nat} {A : Option Addr} {xs : List ByteArray} (h : Reads w B 1 A n (xs.map Value.string)) (hk : k < n) (hl : k < xs.length) : ∃ ad, A = some ad ∧ w.cell? (ad.add k) = some (.string xs[k]) := by
  obtain ⟨ad, u, rfl, _, hu, hc⟩ := h.at_ hk
  simp [hl] at hu
  subst hu
  exact ⟨ad, rfl, hc⟩
set_option maxRecDepth 20000 in
set_option maxHeartbeats 1600000 in
theorem pick_any (s : ByteArray) (A : Option Addr) (n c : Nat) (xs : List ByteArray) (w : World) (hr : Reads w w.heap.size 1 A n (xs.map Value.string)) (hs : s.size ≤ 1000000) (hx : ∀ x ∈ xs, x.size ≤ 1000000) (hn : n ≤ 1000) :
    Calls Tryd.prog 74 #[.string s, .slice A n c] w fun e w' => e = .returned (.int .i64 (pickV s xs)) ∧ Below w.heap.size w w' := by
  have hll : xs.length = n := by have := hr.1; simpa using this
  by_cases hz : s.size = 0
  · have hem : s.toList.isEmpty = true := by
      rw [Lib.toList_data, List.isEmpty_iff_length_eq_zero]; show (L s).length = 0; rw [L_len]; exact hz
    have hv := Lib.hid (show pickV s xs = -1 by unfold pickV; rw [if_pos hz])
    clear hr hx
    go_enter Tryd.func74, Tryd.ntmps74
    go_wp2
    go_ret
    exact ⟨Civ.ret_int hv.out.symm, Below.refl _ _⟩
  · have hem : s.toList.isEmpty = false := by
      rw [Lib.toList_data, List.isEmpty_eq_false_iff]; intro e; have := L_len s; rw [show L s = [] from e] at this; simp at this; omega
    have hv := Lib.hid (show pickV s xs = pickL s xs 0 (-1) 0 by unfold pickV; rw [if_neg hz])
    clear hz
    go_enter Tryd.func74, Tryd.ntmps74
    go_wp2
    go_loopw [5, 6, 7, 8, 13] (fun b c _ _ i w' => ∃ (k : Nat) (bg ct : Int), i = .int .i64 k ∧ b = .int .i64 bg ∧ c = .int .i64 ct ∧ k ≤ n ∧ 0 ≤ ct ∧ ct ≤ k ∧ pickL s (xs.drop k) k bg ct = pickV s xs ∧ Below w.heap.size w w') (fun _ _ _ _ i _ => n - (intOf i).toNat)
    case atStart => exact ⟨0, -1, 0, rfl, rfl, rfl, Nat.zero_le _, by decide, by decide, by rw [hv.out]; rfl, Below.refl _ _⟩
    case round =>
      obtain ⟨k, bg, ct, rfl, rfl, rfl, hk, hc0, hck, hp, hbw⟩ := hrel
      have hbs := hbw.size
      by_cases hlt : k < n
      · have hlt' : (k : Int) < (n : Int) := by omega
        have hkl : k < xs.length := by omega
        obtain ⟨ad, rfl, hcell⟩ := str_at (hr.below hbw) hlt hkl
        have hxs := hx _ (List.getElem_mem hkl)
        rw [List.drop_eq_getElem_cons hkl] at hp
        have HP := Lib.hid hp; clear hp
        generalize xs[k] = x at *
        by_cases h1 : x.size < s.size
        · have h1' : (x.size : Int) < (s.size : Int) := by omega
          have HQ := Lib.hid (show pickL s (xs.drop (k + 1)) ((k : Int) + 1) bg ct = pickV s xs by rw [← HP.out]; simp only [pickL]; rw [if_pos h1])
          clear h1 HP hr hx
          go_wp2
          go_roundw
          case rel => exact ⟨k + 1, bg, ct, by go_num, rfl, rfl, by omega, hc0, by omega, by rw [← HQ.out]; rfl, hbw⟩
          case measure => simp [intOf]; omega
        · have h1' : ¬ (x.size : Int) < (s.size : Int) := by omega
          have hS := same_any (x.extract 0 s.size) s wr (by rw [ByteArray.size_extract]; omega) (by omega)
          cases hq : sameB (x.extract 0 s.size) s with
          | false =>
            have HQ := Lib.hid (show pickL s (xs.drop (k + 1)) ((k : Int) + 1) bg ct = pickV s xs by rw [← HP.out]; simp only [pickL]; rw [if_neg h1, if_pos hq])
            rw [hq] at hS
            clear h1 HP hr hx hq
            go_wp2_with (go_at_call 91; refine hS.mono ?_; rintro e w1 ⟨rfl, hb1⟩)
            go_roundw
            case rel => exact ⟨k + 1, bg, ct, by go_num, rfl, rfl, by omega, hc0, by omega, by rw [← HQ.out]; rfl, hbw.trans (hb1.mono hbs)⟩
            case measure => simp [intOf]; omega
          | true =>
            rw [hq] at hS
            by_cases h2 : x.size = s.size
            · have h2' : ((x.size : Int) == (s.size : Int)) = true := by rw [beq_iff_eq]; omega
              have HQ := Lib.hid (show (k : Int) = pickV s xs by rw [← HP.out]; simp only [pickL]; rw [if_neg h1, if_neg (by rw [hq]; decide), if_pos h2])
              clear h1 HP hr hx hq h2
              go_wp2_with (go_at_call 91; refine hS.mono ?_; rintro e w1 ⟨rfl, hb1⟩)
              go_ret
              exact ⟨Civ.ret_int HQ.out, hbw.trans (hb1.mono hbs)⟩
            · have h2' : ((x.size : Int) == (s.size : Int)) = false := by rw [beq_eq_false_iff_ne]; omega
              have HQ := Lib.hid (show pickL s (xs.drop (k + 1)) ((k : Int) + 1) k (ct + 1) = pickV s xs by rw [← HP.out]; simp only [pickL]; rw [if_neg h1, if_neg (by rw [hq]; decide), if_neg h2])
              clear h1 HP hr hx hq h2
              go_wp2_with (go_at_call 91; refine hS.mono ?_; rintro e w1 ⟨rfl, hb1⟩)
              go_roundw
              case rel => exact ⟨k + 1, k, ct + 1, by go_num, rfl, rfl, by omega, by omega, by omega, by rw [← HQ.out]; rfl, hbw.trans (hb1.mono hbs)⟩
              case measure => simp [intOf]; omega
      · obtain rfl : k = n := by omega
        have hlt' : ¬ (k : Int) < (k : Int) := by omega
        rw [List.drop_of_length_le (by omega)] at hp
        simp only [pickL] at hp
        by_cases h1 : ct = 1
        · rw [if_pos h1] at hp
          have HP := Lib.hid hp; clear hp
          subst h1
          go_wp2
          go_ret
          exact ⟨Civ.ret_int HP.out, hbw⟩
        · rw [if_neg h1] at hp
          have HP := Lib.hid hp; clear hp
          have h1' : (ct != 1) = true := by rw [bne_iff_ne]; exact h1
          go_wp2
          go_ret
          exact ⟨Civ.ret_int HP.out, hbw⟩
theorem dayNs_size : ∀ x ∈ dayNs, x.size ≤ 1000000 := by decide
theorem wkday_any (s : ByteArray) (w : World) (hs : s.size ≤ 1000000) :
    Calls Tryd.prog 39 #[.string s] w fun e w' => e = .returned (.int .i64 (pickV s dayNs)) ∧ Below w.heap.size w w' := by
  have hp := pick_any s (some ⟨w.heap.size, 0, none⟩) 7 7 dayNs (w.alloc (.cells (dayNs.map Value.string).toArray 9)) ((names_read w).more (by simp)) hs dayNs_size (by decide)
  have hb : Below w.heap.size w (w.alloc (.cells (dayNs.map Value.string).toArray 9)) := (Below.refl _ _).alloc (Nat.le_refl _) _
  generalize hW : w.alloc (.cells (dayNs.map Value.string).toArray 9) = W at *
  have HW := Lib.hid hW; clear hW
  go_enter Tryd.func39, Tryd.ntmps39
  go_wp2_with (first
    | (go_at_call 73; refine (days_names _).mono ?_; rintro e w1 ⟨rfl, hw1⟩; rw [HW.out] at hw1; subst hw1)
    | (go_at_call 74; refine hp.mono ?_; rintro e w2 ⟨rfl, hb2⟩))
  go_ret
  exact ⟨rfl, hb.trans (hb2.mono hb.size)⟩
set_option maxRecDepth 20000 in
theorem text_mon (w : World) :
    Calls Tryd.prog 38 #[.int .i64 1] w fun e w' => e = .returned (.string ⟨#[77, 111, 110]⟩) ∧ Below w.heap.size w w' := by
  obtain ⟨ad, hA, hc⟩ := str_at (names_read w) (show 1 < 7 by decide) (show 1 < dayNs.length by decide)
  injection hA with hA; subst hA
  have hb : Below w.heap.size w (w.alloc (.cells (dayNs.map Value.string).toArray 9)) := (Below.refl _ _).alloc (Nat.le_refl _) _
  have hc' : (w.alloc (.cells (dayNs.map Value.string).toArray 9)).cell? ⟨w.heap.size, 1, none⟩ = some (.string ⟨#[77, 111, 110, 100, 97, 121]⟩) := hc
  clear hc
  generalize hW : w.alloc (.cells (dayNs.map Value.string).toArray 9) = W at *
  have HW := Lib.hid hW; clear hW
  go_enter Tryd.func38, Tryd.ntmps38
  go_wp2_with (go_at_call 73; refine (days_names _).mono ?_; rintro e w1 ⟨rfl, hw1⟩; rw [HW.out] at hw1; subst hw1)
  go_ret
  exact ⟨rfl, hb⟩
end Go.Proofs.YtginidedeefcdaaDoor.Wk
