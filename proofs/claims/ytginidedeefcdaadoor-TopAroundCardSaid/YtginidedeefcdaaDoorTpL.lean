/-
  TopLast, WALKED: the last one of a day of the week in a month.
-/
import Derived.Test.YtginidedeefcdaaDoorWk
namespace Go.Proofs.YtginidedeefcdaaDoor.Wk
open Go.ChangeShapes Go.WideShapes Go.ChangeAt Go.RowKit
open Go.Proofs.YtginidedeefcdaaDoor
open Go.Proofs.YtginidedeefcdaaDoor.Wd
open Go.Proofs.YtginidedeefcdaaDoor.Dy
open Go.Proofs.YtginidedeefcdaaDoor.Civ (Tab ret_bool)
set_option linter.unusedVariables false
theorem num_long (s : ByteArray) (w : World) (h : 2 < s.size) :
    Calls Tryd.prog 92 #[.string s] w fun e w' => e = .returned (.int .i64 (-1)) ∧ w' = w := by
  have h1 : ¬ (s.size : Int) < 1 := by omega
  have h2 : (2 : Int) < (s.size : Int) := by omega
  go_enter Tryd.func92, Tryd.ntmps92
  go_wp2
  go_ret
  exact ⟨rfl, rfl⟩
theorem results_d1 {fn : Func} {p : Tmp} (h : fn.results = #[.cell p 56]) (tmps : Array Value) (w : World) (g : Nat) (t : TypeId) (cs : Array Value)
    (hp : tmps.getD p undef = .pointer (some ⟨g, 0, none⟩)) (hg : w.heap[g]? = some (.cells cs t (0, 0))) (hs : cs.size = 3) :
    (results fn tmps).run Tryd.prog w = .ok (.agg cs) w := by
  have hp' : tmps[p]?.getD undef = .pointer (some ⟨g, 0, none⟩) := by simpa using hp
  have hi : (Tryd.prog.info? 56).map (·.size) = some cs.size := by rw [hs]; kernel_rfl
  simp [results, h, hp', asAddr, run_loadVar_row w g t 56 cs (0, 0) _ hg Tryd.underlying56 rfl hi]
theorem results_d2 {fn : Func} {p q : Tmp} (h : fn.results = #[.cell p 56, .tmp q]) (tmps : Array Value) (w : World) (g : Nat) (t : TypeId) (cs : Array Value) (v : Value)
    (hp : tmps.getD p undef = .pointer (some ⟨g, 0, none⟩)) (hq : tmps.getD q undef = v) (hg : w.heap[g]? = some (.cells cs t (0, 0))) (hs : cs.size = 3) :
    (results fn tmps).run Tryd.prog w = .ok (.tuple #[.agg cs, v]) w := by
  have hp' : tmps[p]?.getD undef = .pointer (some ⟨g, 0, none⟩) := by simpa using hp
  have hq' : tmps[q]?.getD undef = v := by simpa using hq
  have hi : (Tryd.prog.info? 56).map (·.size) = some cs.size := by rw [hs]; kernel_rfl
  simp [results, h, hp', hq', asAddr, run_loadVar_row w g t 56 cs (0, 0) _ hg Tryd.underlying56 rfl hi]
abbrev dz : Array Value := #[.int .u8 0, .int .i64 0, .int .i64 0]
abbrev d1 : Array Value := #[.int .u8 1, .int .i64 0, .int .i64 1]
abbrev lastMon : ByteArray := ⟨#[108, 97, 115, 116, 77, 111, 110]⟩
set_option maxRecDepth 20000 in
set_option maxHeartbeats 1600000 in
theorem told_last (w : World) :
    Calls Tryd.prog 75 #[.string lastMon] w fun e w' => e = .returned (.agg d1) ∧ Below w.heap.size w w' := by
  have hb0 := d_box w dz
  have z0 : Blk (w.alloc (.cells dz 56)) w.heap.size 56 dz := Blk.new _ _ _
  have hS := fun w' => same_any ⟨#[108, 97, 115, 116]⟩ ⟨#[108, 97, 115, 116]⟩ w' (by decide) (by decide)
  rw [show sameB ⟨#[108, 97, 115, 116]⟩ ⟨#[108, 97, 115, 116]⟩ = true by decide +kernel] at hS
  have hM := fun w' => wkday_any ⟨#[77, 111, 110]⟩ w' (by decide)
  rw [show pickV ⟨#[77, 111, 110]⟩ dayNs = 1 by decide +kernel] at hM
  go_enter Tryd.func75, Tryd.ntmps75
  go_wp2_with (first
    | (go_at_call 92; refine (num_long _ _ (by decide)).mono ?_; rintro e w1 ⟨rfl, rfl⟩)
    | (go_at_call 91; refine (hS _).mono ?_; rintro e w2 ⟨rfl, hb2⟩; have hB2 := hb0.trans (hb2.mono hb0.size); have z2 := z0.below hb2 z0.lt)
    | (go_at_call 39; refine (hM _).mono ?_; rintro e w3 ⟨rfl, hb3⟩; have hB3 := hB2.trans (hb3.mono hB2.size); have z3 := z2.below hb3 z2.lt)
    | refine wpList_store_g rfl 56 _ _ rfl rfl _ 0 d1 d1 rfl rfl _ _ z3 (by show 0 + 3 ≤ 3; decide) (by kernel_rfl) (by kernel_rfl) (by kernel_rfl) ?_)
  exact bodyPost_ret (results_d1 rfl _ _ _ _ _ rfl (Blk.row z3 _) rfl) rfl ⟨rfl, below_row hB3 (Nat.le_refl _) _⟩
set_option maxRecDepth 20000 in
set_option maxHeartbeats 1600000 in
theorem parse_last (w : World) :
    Calls Tryd.prog 40 #[.string lastMon] w fun e w' => e = .returned (.tuple #[.agg d1, .int .i64 0]) ∧ Below w.heap.size w w' := by
  have hb0 := d_box w dz
  have z0 : Blk (w.alloc (.cells dz 56)) w.heap.size 56 dz := Blk.new _ _ _
  have hC := fun w' => dchk_any 1 0 1 w' (by decide)
  rw [show dE 1 0 1 = 0 by decide] at hC
  go_enter Tryd.func40, Tryd.ntmps40
  go_wp2_with (first
    | (go_at_call 75; refine (told_last _).mono ?_; rintro e w1 ⟨rfl, hb1⟩; have hB1 := hb0.trans (hb1.mono hb0.size); have z1 := z0.below hb1 z0.lt; have hB2 := hB1.alloc hB1.size (.cells d1 56); have z2 := z1.alloc (.cells d1 56); have y2 := Blk.new w1 56 d1)
    | refine wpList_store_new rfl 56 _ _ rfl rfl w1.heap.size d1 rfl rfl _ dz w1 rfl rfl rfl (by kernel_rfl) (by kernel_rfl) ?_
    | refine wpList_row_g rfl 56 _ rfl _ rfl _ _ _ _ y2 Tryd.underlying56 rfl (by kernel_rfl) ?_
    | refine wpList_row_g rfl 56 _ rfl _ rfl _ _ _ _ y3 Tryd.underlying56 rfl (by kernel_rfl) ?_
    | (go_at_call 66; refine (hC _).mono ?_; rintro e w3 ⟨rfl, hb3⟩; have hB3 := hB2.trans (hb3.mono hB2.size); have z3 := z2.below hb3 z2.lt; have y3 := y2.below hb3 y2.lt)
    | refine wpList_store_g rfl 56 _ _ rfl rfl _ 0 d1 d1 rfl rfl _ _ z3 (by show 0 + 3 ≤ 3; decide) (by kernel_rfl) (by kernel_rfl) (by kernel_rfl) ?_)
  exact bodyPost_ret (results_d2 rfl _ _ _ _ _ _ rfl rfl (Blk.row z3 _) rfl) rfl ⟨rfl, below_row hB3 (Nat.le_refl _) _⟩
set_option maxRecDepth 20000 in
set_option maxHeartbeats 1600000 in
theorem begins3_any (w : World) :
    Calls Tryd.prog 26 #[] w fun e w' => e = .returned (.bool true) ∧ Below w.heap.size w w' := by
  go_enter Tryd.func26, Tryd.ntmps26
  go_wp2_with (first
    | (go_at_call 38; refine (text_mon _).mono ?_; rintro e w1 ⟨rfl, hb1⟩)
    | (go_at_call 40; refine (parse_last _).mono ?_; rintro e w2 ⟨rfl, hb2⟩; have hB2 := hb1.trans (hb2.mono hb1.size); have y2 := Blk.new w2 56 d1)
    | refine wpList_store_new rfl 56 _ _ rfl rfl w2.heap.size d1 rfl rfl _ dz w2 rfl rfl rfl (by kernel_rfl) (by kernel_rfl) ?_
    | refine wpList_row_g rfl 56 _ rfl _ rfl _ _ _ _ y2 Tryd.underlying56 rfl (by kernel_rfl) ?_)
  go_ret
  exact ⟨rfl, hB2.alloc hB2.size _⟩
theorem in_val {k n dw y m : Int} (h : k ≤ 3 ∧ dLo k ≤ n ∧ n ≤ dHi k ∧ 0 ≤ dw ∧ dw ≤ dDs k) (hy : Cal.okYM y m = true) (hn : n ≤ Cal.mlen y m) (hr : -719162 ≤ inN k n dw y m ∧ inN k n dw y m ≤ 2932896) :
    inE k n dw y m = 0 ∧ inV k n dw y m = inN k n dw y m := by
  have e : inE k n dw y m = 0 := by
    unfold inE
    rw [dE_yes h, (Civ.len_of hy).1, if_neg (by decide), if_neg (by decide), if_neg (by omega), if_pos ((Cal.okN_iff _).2 hr)]
  exact ⟨e, inV_yes e⟩
theorem num_lin (y m d : Int) : Cal.num y m d = Cal.num y m 1 + (d - 1) := by unfold Cal.num; omega
theorem last_facts {y m dw : Int} (hy : Cal.okYM y m = true) (h0 : 0 ≤ dw) (h6 : dw ≤ 6) :
    ∃ a : Int, -719162 ≤ a ∧ a ≤ 2932896 ∧ (inE 1 0 dw y m = 0 ∧ inV 1 0 dw y m = a) ∧ (inE 2 (Cal.mlen y m - 6) dw y m = 0 ∧ inV 2 (Cal.mlen y m - 6) dw y m = a) ∧ (inE 3 (Cal.mlen y m) dw y m = 0 ∧ inV 3 (Cal.mlen y m) dw y m = a) ∧ (inE 2 (Cal.mlen y m - 13) dw y m = 0 ∧ inV 2 (Cal.mlen y m - 13) dw y m = a - 7) := by
  have hml := Cal.mlen_bd y m
  obtain ⟨y1, y2, m1, m2⟩ := (Cal.okYM_iff y m).1 hy
  have r1 := Cal.num_range ((Cal.okD_iff y m 1).2 ⟨y1, y2, m1, m2, by omega, by omega⟩)
  have r2 := Cal.num_range ((Cal.okD_iff y m (Cal.mlen y m)).2 ⟨y1, y2, m1, m2, by omega, by omega⟩)
  rw [num_lin y m (Cal.mlen y m)] at r2
  have n1 : inN 1 0 dw y m = Cal.num y m 1 + (Cal.mlen y m - 1) - (Cal.wday (Cal.num y m 1 + (Cal.mlen y m - 1)) - dw) % 7 := by rw [← num_lin]; rfl
  have n2 : inN 2 (Cal.mlen y m - 6) dw y m = Cal.num y m 1 + (Cal.mlen y m - 6 - 1) + (dw - Cal.wday (Cal.num y m 1 + (Cal.mlen y m - 6 - 1))) % 7 := by rw [← num_lin]; rfl
  have n3 : inN 3 (Cal.mlen y m) dw y m = Cal.num y m 1 + (Cal.mlen y m - 1) - (Cal.wday (Cal.num y m 1 + (Cal.mlen y m - 1)) - dw) % 7 := by rw [← num_lin]; rfl
  have n4 : inN 2 (Cal.mlen y m - 13) dw y m = Cal.num y m 1 + (Cal.mlen y m - 13 - 1) + (dw - Cal.wday (Cal.num y m 1 + (Cal.mlen y m - 13 - 1))) % 7 := by rw [← num_lin]; rfl
  have l1 : dLo 1 = 0 := by decide
  have l2 : dLo 2 = 1 := by decide
  have l3 : dLo 3 = 1 := by decide
  have u1 : dHi 1 = 0 := by decide
  have u2 : dHi 2 = 31 := by decide
  have u3 : dHi 3 = 31 := by decide
  have s1 : dDs 1 = 6 := by decide
  have s2 : dDs 2 = 6 := by decide
  have s3 : dDs 3 = 6 := by decide
  have v1 := @in_val 1 0 dw y m (by omega) hy (by omega)
  have v2 := @in_val 2 (Cal.mlen y m - 6) dw y m (by omega) hy (by omega)
  have v3 := @in_val 3 (Cal.mlen y m) dw y m (by omega) hy (by omega)
  have v4 := @in_val 2 (Cal.mlen y m - 13) dw y m (by omega) hy (by omega)
  rw [n1] at v1; rw [n2] at v2; rw [n3] at v3; rw [n4] at v4
  unfold Cal.wday at v1 v2 v3 v4
  generalize Cal.num y m 1 = B at *
  generalize Cal.mlen y m = L at *
  obtain ⟨a1, a2⟩ := v1 (by omega)
  obtain ⟨b1, b2⟩ := v2 (by omega)
  obtain ⟨c1, c2⟩ := v3 (by omega)
  obtain ⟨d1, d2⟩ := v4 (by omega)
  exact ⟨B + (L - 1) - ((B + (L - 1) + 4) % 7 - dw) % 7, by omega, by omega, ⟨a1, a2⟩, ⟨b1, by omega⟩, ⟨c1, c2⟩, ⟨d1, by omega⟩⟩
end Go.Proofs.YtginidedeefcdaaDoor.Wk
