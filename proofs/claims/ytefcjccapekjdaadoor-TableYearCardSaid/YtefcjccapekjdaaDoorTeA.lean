/-
  SPANS LOOKED UP: look.above, look.At, walked.
-/
import Derived.Test.YtefcjccapekjdaaDoorFtL
import Derived.Test.YtefcjccapekjdaaDoorLd
import Derived.BigQuiet
namespace Go.Proofs.YtefcjccapekjdaaDoor.Ft
open Go.ChangeShapes Go.WideShapes Go.ChangeAt Go.RowKit
open Go.Proofs.YtefcjccapekjdaaDoor
open Go.Proofs.YtefcjccapekjdaaDoor.Wd
open Go.Proofs.YtefcjccapekjdaaDoor.Rec
open Go.Proofs.YtefcjccapekjdaaDoor.Yr
open Go.Proofs.YtefcjccapekjdaaDoor.Tb
open Go.Proofs.YtefcjccapekjdaaDoor.Clk (yrV yrE)
open Go.Proofs.YtefcjccapekjdaaDoor.Civ (Tab Inv)
set_option linter.unusedVariables false
abbrev clo (g h : Nat) : Value := .func (.func 137) #[] #[.pointer (some ⟨g, 0, none⟩), .pointer (some ⟨h, 0, none⟩)]
set_option maxRecDepth 20000 in
set_option maxHeartbeats 1600000 in
theorem clo_any (A : Option Addr) (n c k : Nat) (l : List Sp) (t : Int) (g h B : Nat) (w : World) (hs : Spans w B A n l) (hB : B ≤ w.heap.size) (hk : k < n) (hm : n ≤ 1000)
    (x : Blk w g 59 #[.slice A n c]) (y : Blk w h 2 #[.int .i64 t]) :
    Calls Tryd.prog 137 #[.int .i64 k, .pointer (some ⟨g, 0, none⟩), .pointer (some ⟨h, 0, none⟩)] w fun e w' => e = .returned (.bool (decide (t < (at_ l k).f))) ∧ Below w.heap.size w w' := by
  obtain ⟨ad, rfl, r1⟩ := hs.row hk
  obtain ⟨q10, q11, q12, q13, q14⟩ := SpAt.of r1
  have c0 : w.cell? ⟨g, 0, none⟩ = some (.slice (some ad) n c) := x.cell 0
  have c1 : w.cell? ⟨h, 0, none⟩ = some (.int .i64 t) := y.cell 0
  have i4 : (k : Int) < (n : Int) := by omega
  generalize (at_ l k).f = f at *
  have hb0 := Below.refl w.heap.size w
  go_enter Tryd.func137, Tryd.ntmps137
  go_wp2_with fail
  go_quiet (fail)
  go_wp2_with fail
  go_ret
  exact ⟨rfl, bdN hb0 _⟩
set_option maxRecDepth 20000 in
set_option maxHeartbeats 3200000 in
theorem search_any (A : Option Addr) (n c : Nat) (l : List Sp) (t : Int) (g h : Nat) (w : World) (hs : Spans w w.heap.size A n l) (hm : n ≤ 1000)
    (x : Blk w g 59 #[.slice A n c]) (y : Blk w h 2 #[.int .i64 t]) (hmo : Hid (∀ i j, i ≤ j → j < n → (at_ l i).f ≤ (at_ l j).f)) :
    Calls Tryd.prog 136 #[.int .i64 n, clo g h] w fun e w' => (∃ k : Nat, e = .returned (.int .i64 k) ∧ k ≤ n ∧ (∀ j, j < k → (at_ l j).f ≤ t) ∧ (∀ j, k ≤ j → j < n → t < (at_ l j).f)) ∧ Below w.heap.size w w' := by
  go_enter Tryd.func136, Tryd.ntmps136
  go_wp2_with fail
  go_loopw [5, 6] (fun i j wr => ∃ a b : Nat, i = .int .i64 a ∧ j = .int .i64 b ∧ a ≤ b ∧ b ≤ n ∧ (∀ j, j < a → (at_ l j).f ≤ t) ∧ (∀ j, b ≤ j → j < n → t < (at_ l j).f) ∧ Below w.heap.size w wr) (fun i j _ => (intOf j - intOf i).toNat)
  case atStart => exact ⟨0, n, rfl, rfl, Nat.zero_le _, Nat.le_refl _, fun j hj => absurd hj (Nat.not_lt_zero _), fun j hj hj2 => by omega, Below.refl _ _⟩
  case round =>
    obtain ⟨a, b, rfl, rfl, hab, hbn, hlo, hhi, hb⟩ := hrel
    by_cases hlt : a < b
    · have hlt' : (a : Int) < (b : Int) := by omega
      obtain ⟨m, hmm⟩ : ∃ m : Nat, (a + b) / 2 = m := ⟨_, rfl⟩
      have hmI : ((a : Int) + (b : Int)) / 2 = (m : Int) := by omega
      have ham : a ≤ m ∧ m < b := by omega
      have hc := clo_any A n c m l t g h w.heap.size wr (hs.below hb) hb.size (by omega) hm (x.below hb x.lt) (y.below hb y.lt)
      have HLO := Lib.hid hlo; have HHI := Lib.hid hhi
      clear hlo hhi
      have hmono : Hid (∀ i j, i ≤ j → j < n → (at_ l i).f ≤ (at_ l j).f) := hmo
      by_cases hf : t < (at_ l m).f
      · rw [decide_eq_true hf] at hc
        go_wp2_with fail
        refine hc.mono ?_; rintro e w2 ⟨rfl, hb2⟩
        have B2 := hb.trans (hb2.mono hb.size)
        clear hc
        go_wp2_with fail
        go_roundw
        case rel => exact ⟨a, m, rfl, rfl, ham.1, by omega, HLO.out, fun j h1 h2 => by have := hmono.out m j h1 h2; omega, B2⟩
        case measure => simp [intOf]; omega
      · rw [decide_eq_false hf] at hc
        go_wp2_with fail
        refine hc.mono ?_; rintro e w2 ⟨rfl, hb2⟩
        have B2 := hb.trans (hb2.mono hb.size)
        clear hc
        go_wp2_with fail
        go_roundw
        case rel => exact ⟨m + 1, b, by go_num, rfl, by omega, hbn, fun j h1 => by have := hmono.out j m (by omega) (by omega); omega, HHI.out, B2⟩
        case measure => simp [intOf]; omega
    · obtain rfl : a = b := by omega
      have hlt' : ¬ (a : Int) < (a : Int) := by omega
      have HLO := Lib.hid hlo; have HHI := Lib.hid hhi
      clear hlo hhi
      go_wp2_with fail
      go_ret
      exact ⟨⟨a, rfl, hbn, HLO.out, HHI.out⟩, hb⟩
set_option maxRecDepth 20000 in
set_option maxHeartbeats 1600000 in
theorem above_any (A : Option Addr) (n c : Nat) (l : List Sp) (t : Int) (w : World) (hs : Spans w w.heap.size A n l) (hm : n ≤ 1000) (hmo : Hid (∀ i j, i ≤ j → j < n → (at_ l i).f ≤ (at_ l j).f)) :
    Calls Tryd.prog 106 #[.slice A n c, .int .i64 t] w fun e w' => (∃ k : Nat, e = .returned (.int .i64 k) ∧ k ≤ n ∧ (∀ j, j < k → (at_ l j).f ≤ t) ∧ (∀ j, k ≤ j → j < n → t < (at_ l j).f)) ∧ Below w.heap.size w w' := by
  have b0 : Below w.heap.size w ((w.alloc (.cells #[.slice A n c] 59)).alloc (.cells #[.int .i64 t] 2)) := ((Below.refl _ _).alloc (Nat.le_refl _) _).alloc (by simp) _
  have x0 := (Blk.new w 59 #[.slice A n c]).alloc (.cells #[.int .i64 t] 2)
  have y0 := blk_at (w.alloc (.cells #[.slice A n c] 59)) 2 #[.int .i64 t] (sz1 w _ rfl)
  have hsr := search_any A n c l t w.heap.size (w.heap.size + 1) _ ((hs.below b0).more b0.size) hm x0 y0 hmo
  have c0 := x0.cell 0
  simp at c0
  go_enter Tryd.func106, Tryd.ntmps106
  go_wp2_with fail
  refine hsr.mono ?_; rintro e w2 ⟨⟨k, rfl, h1, h2, h3⟩, hb2⟩
  have H2 := Lib.hid h2; have H3 := Lib.hid h3
  clear h2 h3 hsr
  go_wp2_with fail
  go_ret
  exact ⟨⟨k, rfl, h1, H2.out, H3.out⟩, b0.trans (hb2.mono b0.size)⟩
theorem mono_of {l : List Sp} {n : Nat} (hl : l.length = n) (hk : lkB l = true) : ∀ i j, i ≤ j → j < n → (at_ l i).f ≤ (at_ l j).f := by
  obtain ⟨h0, h⟩ := lk_iff.1 hk
  intro i j hij hj
  obtain ⟨d, rfl⟩ : ∃ d, j = i + d := ⟨j - i, by omega⟩
  clear hij
  induction d with
  | zero => exact Int.le_refl _
  | succ d ih =>
    have a := ih (by omega)
    have b := h (i + d) (by omega)
    unfold adj at b
    rw [Bool.and_eq_true, decide_eq_true_iff] at b
    have := b.1
    rw [show i + (d + 1) = i + d + 1 by omega]
    omega
def aggT : TypeDesc → Bool
  | .struct _ => true
  | .array _ _ => true
  | _ => false
theorem run_row {P : Program} (w : World) (g : Nat) (t ty : TypeId) (cs : Array Value) (d : TypeDesc) (hg : w.heap[g]? = some (.cells cs t (0, 0)))
    (hu : P.underlying ty = some d) (hd : aggT d = true) (hi : (P.info? ty).map (·.size) = some cs.size) :
    (loadVar ty ⟨g, 0, none⟩).run P w = .ok (.agg cs) w := run_loadVar_row w g t ty cs (0, 0) d hg hu (by cases d <;> first | rfl | (unfold aggT at hd; exact hd)) hi
/-- what a function answers whose first result is a struct in a block -/
theorem res_ct {fn : Func} {p q : Tmp} {T : TypeId} (h : fn.results = #[.cell p T, .tmp q]) (tmps : Array Value) (w : World) (g : Nat) (t : TypeId) (cs : Array Value) (v : Value) (d : TypeDesc)
    (hp : tmps.getD p undef = .pointer (some ⟨g, 0, none⟩)) (hq : tmps.getD q undef = v) (hg : Blk w g t cs)
    (hu : Tryd.prog.underlying T = some d) (hd : aggT d = true) (hi : (Tryd.prog.info? T).map (·.size) = some cs.size) :
    (results fn tmps).run Tryd.prog w = .ok (.tuple #[.agg cs, v]) w := by
  have hp' : tmps[p]?.getD undef = .pointer (some ⟨g, 0, none⟩) := by simpa using hp
  have hq' : tmps[q]?.getD undef = v := by simpa using hq
  simp [results, h, hp', hq', asAddr, run_row w g t T cs d hg hu hd hi]
set_option maxRecDepth 20000 in
set_option maxHeartbeats 3200000 in
theorem lookat_any (A : Option Addr) (n c : Nat) (l : List Sp) (t : Int) (w : World) (hs : Spans w w.heap.size A n l) (hm : n ≤ 1000) (hk : lkB l = true) (h0 : (at_ l 0).f ≤ t) :
    Calls Tryd.prog 50 #[.slice A n c, .int .i64 t] w fun e w' => (∃ k : Nat, e = .returned (.tuple #[.agg (at_ l k).A, .int .i64 0]) ∧ k < n ∧ (∀ j, j ≤ k → (at_ l j).f ≤ t) ∧ (∀ j, k < j → j < n → t < (at_ l j).f)) ∧ Below w.heap.size w w' := by
  have b0 : Below w.heap.size w (w.alloc (.cells #[.int .i64 0, .int .i64 0, .bool false] 67)) := (Below.refl _ _).alloc (Nat.le_refl _) _
  have x0 := Blk.new w 67 #[.int .i64 0, .int .i64 0, .bool false]
  have hck := fun w' (hb : Below w.heap.size w w') => check_any A n c l w' ((hs.below hb).more hb.size) (by unfold maxLen; omega)
  have hln := hs.1
  have hpos := (lk_iff.1 hk).1
  have hE : lkE l = 0 := by unfold lkE; rw [hk]; rfl
  rw [hE] at hck
  have hab := fun w' (hb : Below w.heap.size w w') => above_any A n c l t w' ((hs.below hb).more hb.size) hm (Lib.hid (mono_of hln hk))
  clear hE
  have H0 := Lib.hid h0; clear h0
  go_enter Tryd.func50, Tryd.ntmps50
  go_wp2_with fail
  refine (hck _ b0).mono ?_; rintro e w2 ⟨rfl, hb2⟩
  have b2 := b0.trans (hb2.mono b0.size)
  have x2 := x0.below hb2 x0.lt
  go_wp2_with fail
  refine (hab _ b2).mono ?_; rintro e w3 ⟨⟨k, rfl, h1, h2, h3⟩, hb3⟩
  have b3 := b2.trans (hb3.mono b2.size)
  have x3 := x2.below hb3 x2.lt
  have hk1 : 1 ≤ k := by
    rcases Nat.eq_zero_or_pos k with q | q
    · subst q; have := h3 0 (Nat.le_refl _) (by omega); have := H0.out; omega
    · exact q
  obtain ⟨m, rfl⟩ : ∃ m, k = m + 1 := ⟨k - 1, by omega⟩
  have H2 := Lib.hid h2; have H3 := Lib.hid h3
  obtain ⟨ad, rfl, r1⟩ := (hs.below b3).row (k := m) (by omega)
  clear h2 h3 hck hab x0 x2 b0 b2 hb2 hb3 hs
  have hk0 : (((m + 1 : Nat) : Int) == 0) = false := by simp; omega
  have i4 : (m : Int) < (n : Int) := by omega
  have i5 : IntKind.i64.wrap (m : Int) = (m : Int) := by simp [IntKind.wrap, IntKind.bits, IntKind.signed]; omega
  obtain ⟨s, es⟩ : ∃ s, at_ l m = s := ⟨_, rfl⟩
  rw [es] at r1
  have ES := Lib.hid es; clear es
  go_wp2_with (first | refine wpList_at_g rfl 67 _ rfl w.heap.size _ s.A rfl _ r1 Tryd.underlying67 rfl (by kernel_rfl) ?_ | refine wpList_store_g rfl 67 _ _ rfl rfl _ 0 s.A s.A rfl rfl _ _ x3 (by show 0 + 3 ≤ 3; decide) (by kernel_rfl) (by kernel_rfl) (by kernel_rfl) ?_)
  exact bodyPost_ret (res_ct rfl _ _ _ _ s.A _ _ rfl rfl (Blk.row x3 _) Tryd.underlying67 rfl (by kernel_rfl)) rfl ⟨⟨m, by rw [ES.out]; rfl, by omega, fun j hj => H2.out j (by omega), fun j hj hj2 => H3.out j (by omega) hj2⟩, below_row b3 (Nat.le_refl _) _⟩
end Go.Proofs.YtefcjccapekjdaaDoor.Ft
