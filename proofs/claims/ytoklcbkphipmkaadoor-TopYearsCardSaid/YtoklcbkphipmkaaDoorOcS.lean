/-
  WHAT IS SAVED IN AN ERA: edge.Saved, walked; begins8.
-/
import Derived.Test.YtoklcbkphipmkaaDoorOcR
import Derived.Test.YtoklcbkphipmkaaDoorOcP
namespace Go.Proofs.YtoklcbkphipmkaaDoor.Oc
open Go.ChangeShapes Go.WideShapes Go.ChangeAt Go.RowKit
open Go.Proofs.YtoklcbkphipmkaaDoor
open Go.Proofs.YtoklcbkphipmkaaDoor.Wd
open Go.Proofs.YtoklcbkphipmkaaDoor.Sr
open Go.Proofs.YtoklcbkphipmkaaDoor.Sl
open Go.Proofs.YtoklcbkphipmkaaDoor.Civ (Tab)
open Go.Proofs.YtoklcbkphipmkaaDoor.Va (bcl RuOk)
open Go.Proofs.YtoklcbkphipmkaaDoor.Clk (yrV yrE)
set_option linter.unusedVariables false
set_option linter.unusedSimpArgs false
theorem ocz_c : ocZ = #[.int .i64 0, .int .u8 0, .int .i64 0, .int .i64 0, .string ⟨#[]⟩] := rfl
set_option maxRecDepth 100000 in
set_option maxHeartbeats 6400000 in
/-- Last, where a rule is not right -/
theorem Last_no (A : Option Addr) (n c : Nat) (rs : List Ru) (t : Int) (w : World) (hS : Sls Ru.C 11 w w.heap.size A n rs) (hb : ∀ r ∈ rs, r.Bd) (hn : n ≤ 1000) (hT : Tab w) (hok : ¬ Ok rs) :
    Calls Tryd.prog 14 #[.slice A n c, .int .i64 t] w fun e w' => e = .returned (.tuple #[.agg ocZ, .bool false]) ∧ Below w.heap.size w w' := by
  have b0 := bal (bal (Below.refl _ w) (.cells #[.int .i64 t] 2)) (.cells ocZ 49)
  have r0 := blk_at (w.alloc (.cells #[.int .i64 t] 2)) 49 ocZ (sz1 w _ rfl)
  have hS0 := (hS.below b0).more b0.size
  have T0 := hT.below (Nat.lt_of_lt_of_le hT.1 (Nat.le_refl _)) b0
  go_enter Tryd.func14, Tryd.ntmps14
  go_upto_region 1 with fail
  generalize (w.alloc (.cells #[.int .i64 t] 2)).alloc (.cells ocZ 49) = W at *
  go_wp2_with fail
  refine (of_any A n c rs W hS0 hb hn T0).mono ?_; rintro e w1 ⟨b1, q⟩
  rcases q with ⟨q, _⟩ | ⟨_, rfl⟩
  · exact absurd q hok
  · have r1 := r0.below b1 r0.lt; have B1 := bcl b0 b1
    clear r0 b0 b1 hS0 T0
    go_wp2_with (refine wpList_store_g rfl 49 _ _ rfl rfl (w.heap.size + 1) 0 ocZ ocZ rfl rfl _ _ r1 (by show 0 + 5 ≤ 5; decide) (by kernel_rfl) (by kernel_rfl) rfl ?_)
    have hfin := below_row B1 (Nat.le_succ w.heap.size) ocZ
    exact bodyPost_ret (res_ct (p := 4) (q := 5) rfl _ _ (w.heap.size + 1) _ ocZ (.bool false) _ rfl rfl (Blk.row r1 _) Tryd.underlying49 rfl (by kernel_rfl)) rfl ⟨rfl, hfin⟩
/-- Last's answer, by its cells -/
theorem last_cells {w w' : World} {rs : List Ru} {t : Int} {e : Ending} (h : LsP w rs t e w') : Below w.heap.size w w' ∧ ∃ (b : Option Pe) (T K S s : Int) (L : ByteArray) (i : Bool), LastP rs (topV t) (Ql rs t) b ∧ S = svV rs b ∧ e = .returned (.tuple #[.agg #[.int .i64 T, .int .u8 K, .int .i64 S, .int .i64 s, .string L], .bool i]) := by
  obtain ⟨h1, b, h2, h3, h4⟩ := h
  refine ⟨h1, b, ?_⟩
  cases b with
  | none => exact ⟨0, 0, 0, 0, ⟨#[]⟩, false, h2, rfl, h3 rfl⟩
  | some x =>
    obtain ⟨b', _, h5⟩ := h4 x rfl
    exact ⟨_, _, _, _, _, _, h2, rfl, h5⟩
set_option maxRecDepth 100000 in
set_option maxHeartbeats 6400000 in
theorem saved_ok (h : Hd) (S : So) (e : Er) (t : Int) (rs : List Ru) (w : World) (hrs : nmK S.rs e.ru S.rs.length = rs) (hS : SoR w w.heap.size h S) (hn : h.rn ≤ 12) (hk : e.kd = 2) (hT : Tab w) (hok : Ok rs) (hlo : -9223372036854775808 ≤ t) (hhi : t ≤ 9223372036854775807) :
    Calls Tryd.prog 9 #[h.V, .agg e.C, .int .i64 t] w fun x w' => Below w.heap.size w w' ∧ ∃ b, LastP rs (topV t) (Ql rs t) b ∧ x = .returned (.int .i64 (svV rs b)) := by
  have x0 := (Blk.new w 26 h.C).alloc (.cells e.C 37)
  have y0 := blk_at (w.alloc (.cells h.C 26)) 37 e.C (sz1 w _ rfl)
  have b0 := bal (bal (Below.refl _ w) (.cells h.C 26)) (.cells e.C 37)
  have hrb := hS.rb
  have hlen := hS.r.len
  have HS := Lib.hid hS; clear hS
  go_enter Tryd.func9, Tryd.ntmps9
  go_upto_region 1 with fail
  generalize (w.alloc (.cells h.C 26)).alloc (.cells e.C 37) = W at *
  have d1 : W.cell? ⟨w.heap.size + 1, 1, none⟩ = some (.int .u8 e.kd) := y0.cell 1
  have d3 : W.cell? ⟨w.heap.size + 1, 3, none⟩ = some (.string e.ru) := y0.cell 3
  rw [hk] at d1
  have hru := rules_any h S e.ru W ((HS.out.below b0).more b0.size) (by omega)
  have hl := nmK_len S.rs e.ru S.rs.length
  have HM := Lib.hid (fun r (q : r ∈ nmK S.rs e.ru S.rs.length) => hrb r (nmK_mem q))
  rw [hrs] at hru hl HM
  clear hrb hrs
  go_wp2_with (refine wpList_row_g rfl 26 _ rfl _ rfl _ _ _ _ x0 Tryd.underlying26 rfl (by kernel_rfl) ?_)
  refine hru.mono ?_; rintro e1 w1 ⟨b1, A1, c1, rfl, hS1⟩
  have B1 := bcl b0 b1
  have T1 := hT.below (Nat.lt_of_lt_of_le hT.1 (Nat.le_refl _)) B1
  have hla := Last_any A1 rs.length c1 rs t w1 hS1 HM.out (by omega) T1 hok hlo hhi (fun q => by have := yr_bd q; omega)
  clear x0 y0 b0 b1 hru d1 d3 hS1
  go_wp2_with fail
  refine hla.mono ?_; rintro e2 w2 hq
  obtain ⟨b2, b, Tv, Kv, Sv, sv, Lv, iv, hL, hSv, rfl⟩ := last_cells hq
  have B2 := bcl B1 b2
  have HL := Lib.hid hL; have HSV := Lib.hid hSv
  clear hq hL hSv hla T1 B1 b2
  have y3 := Blk.new w2 49 #[.int .i64 Tv, .int .u8 Kv, .int .i64 Sv, .int .i64 sv, .string Lv]
  have B3 := bal B2 (.cells #[.int .i64 Tv, .int .u8 Kv, .int .i64 Sv, .int .i64 sv, .string Lv] 49)
  have f2 : (w2.alloc (.cells #[.int .i64 Tv, .int .u8 Kv, .int .i64 Sv, .int .i64 sv, .string Lv] 49)).cell? ⟨w2.heap.size, 2, none⟩ = some (.int .i64 Sv) := y3.cell 2
  go_wp2_with (refine wpList_store_new rfl 49 _ _ rfl rfl w2.heap.size #[.int .i64 Tv, .int .u8 Kv, .int .i64 Sv, .int .i64 sv, .string Lv] rfl rfl _ ocZ w2 rfl rfl rfl (by kernel_rfl) (by simp [Value.oneCell']) ?_)
  go_ret
  exact ⟨B3, b, HL.out, by rw [← HSV.out]; rfl⟩
set_option maxRecDepth 100000 in
set_option maxHeartbeats 6400000 in
theorem saved_no (h : Hd) (S : So) (e : Er) (t : Int) (rs : List Ru) (w : World) (hrs : nmK S.rs e.ru S.rs.length = rs) (hS : SoR w w.heap.size h S) (hn : h.rn ≤ 12) (hk : e.kd = 2) (hT : Tab w) (hok : ¬ Ok rs) :
    Calls Tryd.prog 9 #[h.V, .agg e.C, .int .i64 t] w fun x w' => x = .returned (.int .i64 0) ∧ Below w.heap.size w w' := by
  have x0 := (Blk.new w 26 h.C).alloc (.cells e.C 37)
  have y0 := blk_at (w.alloc (.cells h.C 26)) 37 e.C (sz1 w _ rfl)
  have b0 := bal (bal (Below.refl _ w) (.cells h.C 26)) (.cells e.C 37)
  have hrb := hS.rb
  have hlen := hS.r.len
  have HS := Lib.hid hS; clear hS
  go_enter Tryd.func9, Tryd.ntmps9
  go_upto_region 1 with fail
  generalize (w.alloc (.cells h.C 26)).alloc (.cells e.C 37) = W at *
  have d1 : W.cell? ⟨w.heap.size + 1, 1, none⟩ = some (.int .u8 e.kd) := y0.cell 1
  have d3 : W.cell? ⟨w.heap.size + 1, 3, none⟩ = some (.string e.ru) := y0.cell 3
  rw [hk] at d1
  have hru := rules_any h S e.ru W ((HS.out.below b0).more b0.size) (by omega)
  have hl := nmK_len S.rs e.ru S.rs.length
  have HM := Lib.hid (fun r (q : r ∈ nmK S.rs e.ru S.rs.length) => hrb r (nmK_mem q))
  rw [hrs] at hru hl HM
  clear hrb hrs
  go_wp2_with (refine wpList_row_g rfl 26 _ rfl _ rfl _ _ _ _ x0 Tryd.underlying26 rfl (by kernel_rfl) ?_)
  refine hru.mono ?_; rintro e1 w1 ⟨b1, A1, c1, rfl, hS1⟩
  have B1 := bcl b0 b1
  have T1 := hT.below (Nat.lt_of_lt_of_le hT.1 (Nat.le_refl _)) B1
  have hla := Last_no A1 rs.length c1 rs t w1 hS1 HM.out (by omega) T1 hok
  clear x0 y0 b0 b1 hru d1 d3 hS1
  go_wp2_with fail
  refine hla.mono ?_; rintro e2 w2 ⟨rfl, b2⟩
  have B2 := bcl B1 b2
  have y3 := Blk.new w2 49 ocZ
  have B3 := bal B2 (.cells ocZ 49)
  have f2 : (w2.alloc (.cells ocZ 49)).cell? ⟨w2.heap.size, 2, none⟩ = some (.int .i64 0) := y3.cell 2
  clear hla B1 b2 T1
  go_wp2_with (refine wpList_store_new rfl 49 _ _ rfl rfl w2.heap.size ocZ rfl rfl _ ocZ w2 rfl rfl rfl (by kernel_rfl) (by kernel_rfl) ?_)
  go_ret
  exact ⟨rfl, B3⟩
theorem index_none (f : Value) (w : World) : Calls Tryd.prog 34 #[.slice none 0 0, f] w fun e w' => e = .returned (.int .i64 (-1)) ∧ Below w.heap.size w w' := by
  go_enter Tryd.func34, Tryd.ntmps34
  go_upto_region 2 with fail
  go_loopw [8] (fun i wr => i = .int .i64 0 ∧ Below w.heap.size w wr) (fun i _ => 0)
  case atStart => exact ⟨rfl, Below.refl _ _⟩
  case round =>
    obtain ⟨rfl, b⟩ := hrel
    go_wp2_with fail
    go_ret
    exact ⟨rfl, b⟩
theorem holds_none (w : World) : Calls Tryd.prog 15 #[.slice none 0 0, .int .i64 0] w fun e w' => e = .returned (.int .i64 0) ∧ Below w.heap.size w w' := by
  have b0 := bal (Below.refl _ w) (.cells #[.int .i64 0] 2)
  have hi := fun f w => index_none f w
  go_enter Tryd.func15, Tryd.ntmps15
  go_wp2_with fail
  refine (hi _ _).mono ?_; rintro e w1 ⟨rfl, b1⟩
  go_wp2_with fail
  go_ret
  exact ⟨rfl, bcl b0 b1⟩
/-- the rule of begins8 -/
abbrev r8 : Ru := ⟨⟨#[69]⟩, 2000, 2000, 1, 0, 1, 0, 0, 0, 60, ⟨#[]⟩⟩
theorem r8_ok : Ok [r8] := fun r h => by
  rw [List.mem_singleton] at h; subst h
  exact ⟨by kernel_rfl, by decide, by decide, by kernel_rfl, by kernel_rfl, by decide, by kernel_rfl⟩
theorem r8_bd : ∀ r ∈ [r8], r.Bd := fun r h => by
  rw [List.mem_singleton] at h; subst h
  exact ⟨by show 1 ≤ maxLen; unfold maxLen; decide, by show 0 ≤ maxLen; exact Nat.zero_le _, by decide, by decide, by decide, by decide, by decide, by decide, by decide, by decide, by decide⟩
theorem r8_one (y : Int) : one r8 y ↔ y = 2000 := by
  constructor
  · rintro ⟨h1, h2, _⟩
    have h1 : (2000 : Int) ≤ y := h1
    have h2 : y ≤ (2000 : Int) := h2
    omega
  · rintro rfl
    exact ⟨Int.le_refl _, Int.le_refl _, by kernel_rfl⟩
theorem r8_t : rT [r8] (0, 2000) = 946684800 := by kernel_rfl
theorem r8_y : yrE 946684801 = 0 ∧ yrV 946684801 = 2000 := ⟨by kernel_rfl, by kernel_rfl⟩
theorem r8_last {w w' : World} {e : Ending} (h : LsP w [r8] 946684801 e w') : e = .returned (.tuple #[.agg #[.int .i64 946684800, .int .u8 0, .int .i64 60, .int .i64 0, .string ⟨#[]⟩], .bool true]) := by
  obtain ⟨_, b, h2, h3, h4⟩ := h
  have ho : Occ [r8] (0, 2000) := occ_one.2 ⟨rfl, (r8_one 2000).2 rfl⟩
  have htop : topV 946684801 = 2001 := by rw [topV_0 r8_y.1, r8_y.2]; rfl
  rw [htop] at h2
  cases b with
  | none => exact absurd (ql.2 (by rw [r8_t]; decide)) (h2 _ ho (by decide))
  | some x =>
    have hx := occ_one.1 h2.1
    have hy := (r8_one _).1 hx.2
    obtain ⟨p, y⟩ := x
    have hp : p = 0 := hx.1
    have hy : y = 2000 := hy
    subst hp hy
    obtain ⟨b', h5, h6⟩ := h4 _ rfl
    rw [h6]
    have hb : b' = none := by
      cases b' with
      | none => rfl
      | some z =>
        have hz := occ_one.1 h5.1
        have hzy := (r8_one _).1 hz.2
        obtain ⟨p, y⟩ := z
        have hp : p = 0 := hz.1
        have hy : y = 2000 := hzy
        subst hp hy
        exact absurd (qt.1 h5.2.2.1) lt_irr
    subst hb
    show Ending.returned (.tuple #[.agg #[.int .i64 (rT [r8] (0, 2000)), _, _, _, _], _]) = _
    rw [r8_t]; rfl
theorem eq_oc (a b c d : Int) (w : World) : (binOp .eql 49 (.agg #[.int .i64 a, .int .u8 b, .int .i64 c, .int .i64 d, .string ⟨#[]⟩]) (.agg #[.int .i64 a, .int .u8 b, .int .i64 c, .int .i64 d, .string ⟨#[]⟩])).run Tryd.prog w = .ok (.bool true) w := by
  rw [run_eql_struct, run_equalIn_agg w 9999 _ #[.int .i64 a, .int .u8 b, .int .i64 c, .int .i64 d, .string ⟨#[]⟩] #[.int .i64 a, .int .u8 b, .int .i64 c, .int .i64 d, .string ⟨#[]⟩] (by kernel_rfl) (by kernel_rfl)]
  go_simp
set_option maxRecDepth 100000 in
set_option maxHeartbeats 6400000 in
theorem begins8_any (w : World) (hT : Tab w) : Calls Tryd.prog 5 #[] w fun e w' => e = .returned (.bool true) ∧ Below w.heap.size w w' := by
  have hc := eq_oc 946684800 0 60 0
  have b0 := bal (Below.refl _ w) (.cells r8.C 42)
  have s0 : Sls Ru.C 11 (w.alloc (.cells r8.C 42)) (w.alloc (.cells r8.C 42)).heap.size (some ⟨w.heap.size, 0, none⟩) 1 [r8] := Sls.of_blk (L := [r8]) (fun _ => rfl) (Blk.new w _ r8.C) (by rw [flat_one])
  go_enter Tryd.func5, Tryd.ntmps5
  go_upto_region 2 with fail
  have T0 := hT.below (Nat.lt_of_lt_of_le hT.1 (Nat.le_refl _)) b0
  have hla := Last_any (some ⟨w.heap.size, 0, none⟩) 1 1 [r8] 946684801 _ s0 r8_bd (by decide) T0 r8_ok (by decide) (by decide) (fun q => by rw [r8_y.2]; decide)
  generalize w.alloc (.cells r8.C 42) = W at *
  clear s0 T0
  go_wp2_with fail
  refine hla.mono ?_; rintro e w1 hq
  have b1 := bcl b0 hq.1
  obtain rfl := r8_last hq
  clear hla hq b0
  have y2 := Blk.new w1 49 #[.int .i64 946684800, .int .u8 0, .int .i64 60, .int .i64 0, .string ⟨#[]⟩]
  have b2 := bal b1 (.cells #[.int .i64 946684800, .int .u8 0, .int .i64 60, .int .i64 0, .string ⟨#[]⟩] 49)
  have hho := fun w => holds_none w
  go_wp2_with (first | (refine wpList_store_new rfl 49 _ _ rfl rfl w1.heap.size #[.int .i64 946684800, .int .u8 0, .int .i64 60, .int .i64 0, .string ⟨#[]⟩] rfl rfl _ ocZ w1 rfl rfl rfl (by kernel_rfl) (by kernel_rfl) ?_) | (refine wpList_row_g rfl 49 _ rfl _ rfl _ _ _ _ y2 Tryd.underlying49 rfl (by kernel_rfl) ?_))
  refine (hho _).mono ?_; rintro e w3 ⟨rfl, b3⟩
  go_wp2_with fail
  go_ret
  exact ⟨rfl, bcl b2 b3⟩
end Go.Proofs.YtoklcbkphipmkaaDoor.Oc
