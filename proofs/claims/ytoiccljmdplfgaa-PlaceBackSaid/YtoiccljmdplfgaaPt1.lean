/-
  TEXTS OF POINTS, WALKED: digits, an angle, a point's text.
-/
import Derived.Test.YtoiccljmdplfgaaPtM
import Derived.Test.YtoiccljmdplfgaaPl1
import Derived.WalkKit
import Derived.WalkSpells
import Derived.Below
import Derived.ProofKit
import Derived.Lib.SmallJoins
import Derived.Lib.Builder
import Derived.Lib.AppendStr
import Derived.Lib.BufferRead
import Derived.Laws.OwnMore
import Derived.OwnWalk
import Derived.Deep.QuietTactic
import Derived.BigQuiet
namespace Go.Proofs.Ytoiccljmdplfgaa.Pt
open Go.ChangeShapes Go.WideShapes Go.ChangeAt Go.RowKit
open Go.Proofs.Ytoiccljmdplfgaa
open Go.Proofs.Ytoiccljmdplfgaa.Wd
open Go.Proofs.Ytoiccljmdplfgaa.Pl
open Go.Lib (byteCells)
set_option linter.unusedVariables false
abbrev L (s : ByteArray) : List UInt8 := s.data.toList
abbrev B (l : List UInt8) : ByteArray := ⟨l.toArray⟩
theorem L_len (s : ByteArray) : (L s).length = s.size := Array.length_toList
theorem byteCells_app (a b : List UInt8) : byteCells (a ++ b) = byteCells a ++ byteCells b := by simp [byteCells]
theorem byteCells_len (a : List UInt8) : (byteCells a).length = a.length := by simp [byteCells]
theorem byte_info : (Try.prog.info? 5).map (fun i => (i.zero, i.size, i.bytes)) = some (some (.int .u8 0), 1, 1) := by kernel_rfl
theorem own_ge {w : World} {base : Nat} {e : TypeId} {size n : Nat} {v : Value} {xs : List Value} (h : w.ownsRow base e size v n xs) : ∀ g, v.ownBlock = some g → base ≤ g := by
  intro g hg
  rcases h.2 with ⟨rfl, _⟩ | ⟨g', cap, cur, rfl, h2, h3, _⟩
  · simp [Value.ownBlock] at hg
  · simp [Value.ownBlock] at hg; subst hg; exact h2
theorem own_bel {w w' : World} {base : Nat} {e : TypeId} {size : Nat} {v : Value} {n : Nat} {xs : List Value} (h : w.ownsRow base e size v n xs) (hb : Below w.heap.size w w') : w'.ownsRow base e size v n xs := by
  refine ⟨h.1, ?_⟩
  rcases h.2 with h' | ⟨g, cap, cur, h1, h2, h3, h4⟩
  · exact .inl h'
  · exact .inr ⟨g, cap, cur, h1, h2, by rw [hb.block g (Array.getElem?_eq_some_iff.1 h3).1]; exact h3, h4⟩
theorem int_one (t : IntKind) (b : Int) : ∀ u ∈ [Value.int t b], u.oneCell' = true := by intro u hu; simp at hu; subst hu; rfl
theorem reads_one (w : World) (t : TypeId) (u : Value) : Reads (w.alloc (.cells #[u] t)) (w.heap.size + 1) 1 (some ⟨w.heap.size, 0, none⟩) 1 [u] :=
  ⟨rfl, fun _ => ⟨_, rfl, Nat.lt_succ_self _, fun j x hx => by
    match j, hx with
    | 0, hx => simp at hx; subst hx; simp [Addr.add]⟩⟩
theorem dig_cell (z : Nat) (Z : Int) (h : Z = z) : [Value.int .u8 (48 + Z % 10)] = byteCells [UInt8.ofNat (48 + z % 10)] := by
  subst h
  simp only [byteCells, List.map_cons, List.map_nil, dig_val]
  have : ((48 + z % 10 : Nat) : Int) = 48 + (z : Int) % 10 := by omega
  rw [this]
/-- a row of bytes of one's own, in blocks from 'base' on -/
abbrev Rw (w : World) (base : Nat) (v : Value) (xs : List UInt8) : Prop := w.ownsRow base 5 1 v xs.length (byteCells xs)
theorem Rw.nil (w : World) (base : Nat) : Rw w base (.slice none 0 0) [] := World.ownsRow_nil w base _ _
set_option maxRecDepth 20000 in
set_option maxHeartbeats 3200000 in
theorem digits_any (base : Nat) (k : Nat) : ∀ (v : Value) (xs : List UInt8) (z : Nat) (Z K : Int) (w : World), Z = z → K = k → k ≤ 3 → base ≤ w.heap.size → Rw w base v xs → xs.length ≤ 100 → z ≤ 1000000 →
    Calls Try.prog 84 #[v, .int .i64 Z, .int .i64 K] w fun e w' => ∃ v', e = .returned v' ∧ Rw w' base v' (xs ++ digs z k) ∧ Below base w w' := by
  induction k with
  | zero =>
    intro v xs z Z K w hZ hK _ hb hown _ _
    have hK' : K = 0 := hK
    subst hK'
    clear hK
    go_enter Try.func84, Try.ntmps84
    go_wp2
    go_ret
    exact ⟨v, rfl, by simpa [digs] using hown, Below.refl _ _⟩
  | succ k ih =>
    intro v xs z Z K w hZ hK hk hb hown hx hz
    obtain ⟨i0, hi0, hz0, hz1, hz2⟩ := info_parts byte_info
    have HK := Lib.hid hK
    have HZ := Lib.hid hZ
    have b1 : 0 ≤ Z ∧ Z ≤ 1000000 := by omega
    have b2 : 1 ≤ K ∧ K ≤ 3 := by omega
    have b3 : (K == 0) = false := by rw [beq_eq_false_iff_ne]; omega
    have b4 : 0 ≤ Z / 10 ∧ Z / 10 ≤ 100000 := by omega
    have b5 : 0 ≤ Z % 10 ∧ Z % 10 ≤ 9 := by omega
    clear hK hZ
    go_enter Try.func84, Try.ntmps84
    have hl : (xs ++ digs (z / 10) k).length ≤ 103 := by rw [List.length_append, digs_len]; omega
    go_wp2_with (first | (go_at_call 84; refine (ih v xs (z / 10) _ _ _ (by have := HZ.out; omega) (by have := HK.out; omega) (by omega) hb hown hx (by omega)).mono ?_; rintro e w1 ⟨v1, rfl, ho1, hb1⟩; have hs1 := hb1.size) | (at_builtin; refine wpList_append_any _ rfl (.tmp 15) (.tmp 20) 91 rfl base 5 i0 _ 1 1 Try.underlying91 hi0 hz0 hz1 hz2 rfl (by decide) _ _ _ rfl (ho1.alloc _) _ _ 1 1 [.int .u8 _] rfl (reads_one _ _ _) (int_one _ _) (by unfold maxLen; omega) (by omega) (by simp; omega) ?_; intro v2 w2 hown2 hg2 _))
    have hb2 : Below base w w2 := (hb1.alloc (by omega) _).grown hg2 (by simp; omega) (fun g hg => own_ge ho1 g hg)
    rw [dig_cell z Z HZ.out, ← byteCells_app] at hown2
    go_ret
    refine ⟨v2, rfl, ?_, hb2⟩
    unfold Rw
    unfold digs
    rw [← List.append_assoc, List.length_append]
    exact hown2
theorem digits_at {base : Nat} {v : Value} {xs : List UInt8} {Z K : Int} {w : World} (hown : Rw w base v xs) (hb : base ≤ w.heap.size) (hK : 0 ≤ K ∧ K ≤ 3) (hZ : 0 ≤ Z ∧ Z ≤ 1000000) (hx : xs.length ≤ 100) :
    Calls Try.prog 84 #[v, .int .i64 Z, .int .i64 K] w fun e w' => ∃ v', e = .returned v' ∧ Rw w' base v' (xs ++ digs Z.toNat K.toNat) ∧ Below base w w' :=
  digits_any base K.toNat v xs Z.toNat Z K w (by omega) (by omega) (by omega) hb hown hx (by omega)
set_option maxRecDepth 20000 in
set_option maxHeartbeats 3200000 in
theorem angle_any (base : Nat) (v : Value) (xs : List UInt8) (N K : Int) (wide : Nat) (sec : Bool) (w : World) (hK : K = wide) (hw : wide ≤ 3) (hb : base ≤ w.heap.size) (hown : Rw w base v xs) (hx : xs.length ≤ 50) (hN : -648000 ≤ N ∧ N ≤ 648000) :
    Calls Try.prog 63 #[v, .int .i64 N, .int .i64 K, .bool sec] w fun e w' => ∃ v', e = .returned v' ∧ Rw w' base v' (xs ++ angT N wide sec) ∧ Below base w w' := by
  obtain ⟨i0, hi0, hz0, hz1, hz2⟩ := info_parts byte_info
  obtain ⟨a, ha⟩ : ∃ a, a = N.natAbs := ⟨_, rfl⟩
  obtain ⟨s, hs⟩ : ∃ s, s = sgB N := ⟨_, rfl⟩
  have HT := Lib.hid (show angT N wide sec = s :: (digs (a / 3600) wide ++ (digs (a % 3600 / 60) 2 ++ if sec = true then digs (a % 60) 2 else [])) by rw [ha, hs]; rfl)
  have hn : (∃ z : Int, N = z ∧ (0 ≤ z ∧ z ≤ 648000) ∧ z = a ∧ s = 43 ∧ ¬ N < 0) ∨ (∃ z : Int, N = -z ∧ (0 < z ∧ z ≤ 648000) ∧ z = a ∧ s = 45 ∧ N < 0) := by
    by_cases h0 : N < 0
    · exact Or.inr ⟨-N, by omega, by omega, by omega, by rw [hs]; exact if_pos h0, h0⟩
    · exact Or.inl ⟨N, rfl, by omega, by omega, by rw [hs]; exact if_neg h0, h0⟩
  clear ha hs
  have HK := Lib.hid hK
  have hK' : 0 ≤ K ∧ K ≤ 3 := by omega
  clear hK hN
  rcases hn with ⟨z, hz, z0, za, hs, h0⟩ | ⟨z, hz, z0, za, hs, h0⟩
  all_goals
    rw [hz] at HT h0 ⊢
    have HA := Lib.hid za
    have HS := Lib.hid hs
    clear hz za hs
    have q2 : 0 ≤ z / 3600 ∧ z / 3600 ≤ 1000000 := by omega
    have q3 : 0 ≤ z % 3600 ∧ z % 3600 ≤ 3599 := by omega
    have q4 : 0 ≤ z % 3600 / 60 ∧ z % 3600 / 60 ≤ 1000000 := by omega
    have q5 : 0 ≤ z % 60 ∧ z % 60 ≤ 1000000 := by omega
    cases sec
    all_goals
      go_enter Try.func63, Try.ntmps63
      go_wp2_with (first
        | (at_builtin; refine wpList_append_any _ rfl (.tmp 14) (.tmp 16) 91 rfl base 5 i0 _ 1 1 Try.underlying91 hi0 hz0 hz1 hz2 rfl (by decide) _ _ _ rfl (hown.alloc _) _ _ 1 1 [.int .u8 _] rfl (reads_one _ _ _) (int_one _ _) (by unfold maxLen; omega) (by omega) (by simp; omega) ?_; intro v1 w1 hown1 hg1 _; have hrow : Rw w1 base v1 (xs ++ [s]) := (by unfold Rw; rw [HS.out, List.length_append, byteCells_app]; exact hown1); have hbw : Below base w w1 := ((Below.refl base w).alloc hb _).grown hg1 (by simp; omega) (fun g hg => own_ge hown g hg); have hsz := hbw.size; clear hown1 hg1)
        | (go_at_call 84; refine (digits_at hrow (Nat.le_trans hb hsz) (by first | exact hK' | decide) (by assumption) (by simp only [List.length_append, List.length_cons, List.length_nil, digs_len]; omega)).mono ?_; rintro e w2 ⟨v2, rfl, ho2, hb2⟩; replace hbw := hbw.trans hb2; replace hsz := hbw.size; replace hrow := ho2; clear hb2 ho2))
      go_ret
      refine ⟨_, rfl, ?_, hbw⟩
      rw [HT.out]
      have ha := HA.out; have hk := HK.out
      rw [show (z / 3600).toNat = a / 3600 by omega, show (z % 3600 / 60).toNat = a % 3600 / 60 by omega, show K.toNat = wide by omega] at hrow
      first
        | (rw [show (z % 60).toNat = a % 60 by omega] at hrow; simpa [List.append_assoc] using hrow)
        | simpa [List.append_assoc] using hrow
theorem conv_row {w : World} {base : Nat} {v : Value} {l : List UInt8} (h : Rw w base v l) :
    (convert 91 9 v).run Try.prog w = .ok (.string ⟨l.toArray⟩) w := by
  rcases h.2 with ⟨rfl, h0⟩ | ⟨g, cap, cur, rfl, _, h3, _, _, _, h4⟩
  · have : l = [] := List.eq_nil_of_length_eq_zero h0
    subst this
    exact Lib.run_convert_nil_bytes w _ _ _ 0 Try.underlying91 Try.underlying5 Try.underlying9
  · exact run_convert_bytes_back w _ _ _ _ cap l Try.underlying91 Try.underlying5 Try.underlying9 (Lib.bytes_of_row h3 (by simpa using h4))
end Go.Proofs.Ytoiccljmdplfgaa.Pt
