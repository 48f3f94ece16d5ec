/-
  YEARS, walked: the spans of any record.
-/
import Derived.Test.YtgdgkgeoigljcaaDoorSpM
import Derived.Test.YtgdgkgeoigljcaaDoorTbE
namespace Go.Proofs.YtgdgkgeoigljcaaDoor.Tb
open Go.ChangeShapes Go.WideShapes Go.ChangeAt Go.RowKit
open Go.Proofs.YtgdgkgeoigljcaaDoor
open Go.Proofs.YtgdgkgeoigljcaaDoor.Wd
open Go.Proofs.YtgdgkgeoigljcaaDoor.Rec
open Go.Proofs.YtgdgkgeoigljcaaDoor.Yr
open Go.Proofs.YtgdgkgeoigljcaaDoor.Civ (Tab Inv ret_int bcell ret_two)
set_option linter.unusedVariables false
theorem begin_any (y : Int) (w : World) (h1 : 1 ≤ y) (h2 : y ≤ 10000) :
    Calls Tryd.prog 45 #[.int .i64 y] w fun e w' => e = .returned (.tuple #[.int .i64 (begY y), .int .i64 0]) ∧ w' = w := by
  have hc := Civ.fir_any y w
  obtain ⟨e1, e2⟩ := Civ.fir_on h1 h2
  rw [e1, e2] at hc
  have hn : -719163 ≤ Cal.first y ∧ Cal.first y ≤ 3000000 := by unfold Cal.first; omega
  unfold begY
  generalize Cal.first y = n at *
  clear h1 h2 e1 e2
  go_enter Tryd.func45, Tryd.ntmps45
  go_wp2_with fail
  refine hc.mono ?_; rintro e w1 ⟨rfl, rfl⟩
  go_wp2_with fail
  go_ret2
  exact ⟨rfl, rfl⟩
theorem span_info : (Tryd.prog.info? 84).map (fun i => (i.zero, i.size, i.bytes)) = some (some (.agg #[.int .i64 0, .int .i64 0, .bool false]), 3, 24) := by kernel_rfl
theorem reads_sp (w : World) (t : TypeId) (s : Sp) : Reads (w.alloc (.cells s.A t)) (w.heap.size + 1) 3 (some ⟨w.heap.size, 0, none⟩) 1 s.A.toList :=
  ⟨rfl, fun _ => ⟨_, rfl, Nat.lt_succ_self _, fun j x hx => by
    match j, hx with
    | 0, hx => simp at hx; subst hx; simp [Addr.add]
    | 1, hx => simp at hx; subst hx; simp [Addr.add]
    | 2, hx => simp at hx; subst hx; simp [Addr.add]⟩⟩
theorem sp_one (s : Sp) : ∀ u ∈ s.A.toList, u.oneCell' = true := by
  intro u hu; simp at hu; rcases hu with rfl | rfl | rfl <;> rfl
theorem own_lt3 {w : World} {base : Nat} {e : TypeId} {size n : Nat} {v : Value} {xs : List Value} (h : w.ownsRow base e size v n xs) : ∀ g, v.ownBlock = some g → base ≤ g ∧ g < w.heap.size := by
  intro g hg
  rcases h.2 with ⟨rfl, _⟩ | ⟨g', cap, cur, rfl, h2, h3, _⟩
  · simp [Value.ownBlock] at hg
  · simp [Value.ownBlock] at hg; subst hg; exact ⟨h2, (Array.getElem?_eq_some_iff.1 h3).1⟩
-- WALK
theorem reads_spn (w : World) (t : TypeId) (s : Sp) {n : Nat} (h : w.heap.size = n) : Reads (w.alloc (.cells s.A t)) (n + 1) 3 (some ⟨n, 0, none⟩) 1 s.A.toList := by subst h; exact reads_sp w t s
theorem own_blk3 {w : World} {base g n : Nat} {e t : TypeId} {v : Value} {xs : List Value} {c : Array Value} (h : w.ownsRow base e 3 v n xs) (hb : Blk w g t c) (hne : e ≠ t) : v.ownBlock ≠ some g := by
  intro e'
  rcases h.2 with ⟨rfl, _⟩ | ⟨g', cap, cur, rfl, h2, h3, _⟩
  · simp [Value.ownBlock] at e'
  · simp [Value.ownBlock] at e'; subst e'
    have := h3.symm.trans hb
    injection this with q; injection q with _ q2; exact hne q2
theorem own_form3 {w : World} {base size n : Nat} {e : TypeId} {v : Value} {xs : List Value} (h : w.ownsRow base e size v n xs) (hn : 0 < n) : ∃ g c, v = .slice (some ⟨g, 0, none⟩) n c ∧ base ≤ g ∧ n ≤ c := by
  rcases h.2 with ⟨_, h0⟩ | ⟨g, cap, cur, hv, hb, _, hc, _⟩
  · omega
  · exact ⟨g, cap, hv, hb, hc⟩
theorem own_bel3 {w : World} {base : Nat} {e : TypeId} {size : Nat} {v : Value} {n : Nat} {xs : List Value} (h : w.ownsRow base e size v n xs) : ∀ w', Below w.heap.size w w' → w'.ownsRow base e size v n xs := by
  intro w' hb
  refine ⟨h.1, ?_⟩
  rcases h.2 with h' | ⟨g, cap, cur, h1, h2, h3, h4⟩
  · exact .inl h'
  · exact .inr ⟨g, cap, cur, h1, h2, by rw [hb.block g (Array.getElem?_eq_some_iff.1 h3).1]; exact h3, h4⟩
theorem run_max2 {P : Program} (w : World) (ts : Array TypeId) (t : TypeId) (a b : Int) :
    (Builtin.max_ ts t #[.int .i64 a, .int .i64 b]).run P w = .ok (.int .i64 (max a b)) w := by
  simp [Builtin.max_, Builtin.max2]
  rw [Int.max_def]
  split <;> split <;> first | rfl | (congr 2; omega) | omega
theorem run_min2 {P : Program} (w : World) (ts : Array TypeId) (t : TypeId) (a b : Int) :
    (Builtin.min_ ts t #[.int .i64 a, .int .i64 b]).run P w = .ok (.int .i64 (min a b)) w := by
  simp [Builtin.min_, Builtin.min2]
  rw [Int.min_def]
  split <;> split <;> first | rfl | (congr 2; omega) | omega
theorem own_row {w : World} {base : Nat} {e : TypeId} {size : Nat} {v : Value} {n : Nat} {xs : List Value} (h : w.ownsRow base e size v n xs) (g : Nat) (ds : Array Value) (hne : v.ownBlock ≠ some g) : (w.setRow g ds).ownsRow base e size v n xs := by
  refine ⟨h.1, ?_⟩
  rcases h.2 with h' | ⟨b, cap, cur, h1, h2, h3, h4⟩
  · exact .inl h'
  · subst h1
    exact .inr ⟨b, cap, cur, rfl, h2, (setRow_other w g b ds (fun e => hne (by rw [← e]; rfl))).trans h3, h4⟩
theorem inv_of {w W : World} (h : Tab w) (hb : Below w.heap.size w W) : Civ.Inv w W := ⟨h.below h.1 hb, hb⟩
def spK (r : Rc) (Y : Int) (k : Nat) : List Sp × Int × Bool := if k = 0 then sp0 r Y else if k = 1 then sp1 r Y else sp2 r Y
theorem spK_len (r : Rc) (Y : Int) (k : Nat) : 1 ≤ (spK r Y k).1.length ∧ (spK r Y k).1.length ≤ 3 := by
  have a := spStep_len r Y (sp0 r Y) (min (r.tr Y) (r.ts Y))
  have b := spStep_len r Y (sp1 r Y) (max (r.tr Y) (r.ts Y))
  have c : (sp0 r Y).1.length = 1 := rfl
  unfold spK
  split
  · omega
  · split
    · unfold sp1; omega
    · unfold sp2; unfold sp1 at b ⊢; omega
theorem neq_sta (o o' : Int) (k k' : Bool) (w : World) : (binOp .neq 81 (stateV o k) (stateV o' k')).run Tryd.prog w = .ok (.bool (!eqT o k o' k')) w := by
  rw [run_neq_struct, eqIn_sta 9998]; rfl
theorem step_skip {r : Rc} {Y t : Int} {s : List Sp × Int × Bool} (h : t ≤ begY Y ∨ begY (Y + 1) ≤ t) : spStep r Y s t = s := if_pos h
theorem step_same {r : Rc} {Y t : Int} {s : List Sp × Int × Bool} (h : ¬ (t ≤ begY Y ∨ begY (Y + 1) ≤ t)) (h2 : eqT (r.off Y t) (r.sum Y t) s.2.1 s.2.2 = true) : spStep r Y s t = s := by
  unfold spStep; rw [if_neg h]; exact if_pos h2
theorem step_new {r : Rc} {Y t : Int} {s : List Sp × Int × Bool} (h : ¬ (t ≤ begY Y ∨ begY (Y + 1) ≤ t)) (h2 : eqT (r.off Y t) (r.sum Y t) s.2.1 s.2.2 = false) : spStep r Y s t = (s.1 ++ [r.sp Y t], r.off Y t, r.sum Y t) := by
  unfold spStep; rw [if_neg h]; exact if_neg (by show ¬ eqT _ _ _ _ = true; rw [h2]; decide)
set_option maxRecDepth 100000 in
set_option maxHeartbeats 8000000 in
theorem spans_yes (r : Rc) (Y : Int) (w : World) (hT : Tab w) (B : r.Bd) (hk : r.ok = true) (h1 : 1601 ≤ Y) (h2 : Y ≤ 9999) :
    Calls Tryd.prog 13 #[r.V, .int .i64 Y] w fun e w' => ∃ g n c, e = .returned (.tuple #[.slice (some ⟨g, 0, none⟩) n c, .int .i64 0]) ∧ n = (spL r Y).length ∧ n ≤ c ∧ Reads w' w'.heap.size 3 (some ⟨g, 0, none⟩) n (flatS (spL r Y)) ∧ w.heap.size ≤ g ∧ Below w.heap.size w w' := by
  have i0 := Civ.Inv.start hT
  have hto : ∀ w, Tab w → Calls Tryd.prog 44 #[r.V, .int .i64 Y] w fun e w' => e = .returned (.tuple #[twoV (r.tr Y) (r.ts Y), .int .i64 0]) ∧ Below w.heap.size w w' := fun w hT => by
    have := turns_any r.b r.c r.d r.p r.q Y w hT B
    rwa [Rc.tr0 hk h1 h2] at this
  have hst : ∀ t w, Calls Tryd.prog 46 #[r.V, twoV (r.tr Y) (r.ts Y), .int .i64 t] w fun e w' => e = .returned (stateV (r.off Y t) (r.sum Y t)) ∧ Below w.heap.size w w' := fun t w => state_any r.b r.c r.d r.p r.q (r.tr Y) (r.ts Y) t w B
  have hb1 := fun w => begin_any Y w (by omega) (by omega)
  have hb2 := fun w => begin_any (Y + 1) w (by omega) (by omega)
  have hFT := begY_lt (Y := Y) (by omega)
  have HL := Lib.hid (fun k => spK_len r Y k)
  have HA0 := Lib.hid (fun (h : (min (r.tr Y) (r.ts Y)) ≤ begY Y ∨ begY (Y + 1) ≤ (min (r.tr Y) (r.ts Y))) => (show spK r Y 1 = spK r Y 0 from step_skip h))
  have HB0 := Lib.hid (fun (h : ¬ ((min (r.tr Y) (r.ts Y)) ≤ begY Y ∨ begY (Y + 1) ≤ (min (r.tr Y) (r.ts Y)))) (h2 : eqT (r.off Y (min (r.tr Y) (r.ts Y))) (r.sum Y (min (r.tr Y) (r.ts Y))) (spK r Y 0).2.1 (spK r Y 0).2.2 = true) => (show spK r Y 1 = spK r Y 0 from step_same h h2))
  have HC0 := Lib.hid (fun (h : ¬ ((min (r.tr Y) (r.ts Y)) ≤ begY Y ∨ begY (Y + 1) ≤ (min (r.tr Y) (r.ts Y)))) (h2 : eqT (r.off Y (min (r.tr Y) (r.ts Y))) (r.sum Y (min (r.tr Y) (r.ts Y))) (spK r Y 0).2.1 (spK r Y 0).2.2 = false) => (show spK r Y 1 = ((spK r Y 0).1 ++ [r.sp Y (min (r.tr Y) (r.ts Y))], r.off Y (min (r.tr Y) (r.ts Y)), r.sum Y (min (r.tr Y) (r.ts Y))) from step_new h h2))
  have hq0 := fun w => hst (min (r.tr Y) (r.ts Y)) w
  have HA1 := Lib.hid (fun (h : (max (r.tr Y) (r.ts Y)) ≤ begY Y ∨ begY (Y + 1) ≤ (max (r.tr Y) (r.ts Y))) => (show spK r Y 2 = spK r Y 1 from step_skip h))
  have HB1 := Lib.hid (fun (h : ¬ ((max (r.tr Y) (r.ts Y)) ≤ begY Y ∨ begY (Y + 1) ≤ (max (r.tr Y) (r.ts Y)))) (h2 : eqT (r.off Y (max (r.tr Y) (r.ts Y))) (r.sum Y (max (r.tr Y) (r.ts Y))) (spK r Y 1).2.1 (spK r Y 1).2.2 = true) => (show spK r Y 2 = spK r Y 1 from step_same h h2))
  have HC1 := Lib.hid (fun (h : ¬ ((max (r.tr Y) (r.ts Y)) ≤ begY Y ∨ begY (Y + 1) ≤ (max (r.tr Y) (r.ts Y)))) (h2 : eqT (r.off Y (max (r.tr Y) (r.ts Y))) (r.sum Y (max (r.tr Y) (r.ts Y))) (spK r Y 1).2.1 (spK r Y 1).2.2 = false) => (show spK r Y 2 = ((spK r Y 1).1 ++ [r.sp Y (max (r.tr Y) (r.ts Y))], r.off Y (max (r.tr Y) (r.ts Y)), r.sum Y (max (r.tr Y) (r.ts Y))) from step_new h h2))
  have hq1 := fun w => hst (max (r.tr Y) (r.ts Y)) w
  have hqF := fun w => hst (begY Y) w
  have HZ := Lib.hid (show spK r Y 0 = ([r.sp Y (begY Y)], r.off Y (begY Y), r.sum Y (begY Y)) from rfl)
  have HE := Lib.hid (show spL r Y = (spK r Y 2).1 from rfl)
  clear hst
  unfold Rc.sp at HZ HC0 HC1
  generalize spL r Y = OUT at *
  generalize hs : spK r Y = S at *
  clear hs
  generalize r.off Y (begY Y) = o0 at *
  generalize r.sum Y (begY Y) = d0 at *
  obtain ⟨o1, ho1⟩ : ∃ o, r.off Y (min (r.tr Y) (r.ts Y)) = o := ⟨_, rfl⟩
  obtain ⟨o2, ho2⟩ : ∃ o, r.off Y (max (r.tr Y) (r.ts Y)) = o := ⟨_, rfl⟩
  obtain ⟨d1, hd1⟩ : ∃ o, r.sum Y (min (r.tr Y) (r.ts Y)) = o := ⟨_, rfl⟩
  obtain ⟨d2, hd2⟩ : ∃ o, r.sum Y (max (r.tr Y) (r.ts Y)) = o := ⟨_, rfl⟩
  rw [ho1, hd1] at HB0 HC0 hq0
  rw [ho2, hd2] at HB1 HC1 hq1
  clear ho1 ho2 hd1 hd2
  generalize r.tr Y = ta at *
  generalize r.ts Y = tb at *
  generalize begY Y = F at *
  generalize begY (Y + 1) = G at *
  obtain ⟨i0i, hi0, hz0, hz1, hz2⟩ := info_parts span_info
  go_enter Tryd.func13, Tryd.ntmps13
  go_wp2_with (first | refine wpList_row_g rfl 26 _ rfl _ rfl _ _ _ _ (Wd.Blk.new w 26 (rcA r.b r.c r.d r.p r.q)) Tryd.underlying26 rfl (by kernel_rfl) ?_)
  have r_1 := (Wd.Blk.new w 26 (rcA r.b r.c r.d r.p r.q))
  have inv_1 := (i0.alloc (.cells (rcA r.b r.c r.d r.p r.q) 26))
  refine (hto _ inv_1.1).mono ?_; rintro e w_1 ⟨rfl, hb_1⟩
  have rc_1 := r_1.below hb_1 r_1.lt
  have invc_1 := inv_1.call hb_1
  clear r_1 inv_1 hb_1
  have r_2 := (rc_1.alloc (.cells #[.int .i64 ta, .int .i64 tb] 75))
  have t_2 := (Wd.Blk.new w_1 75 #[.int .i64 ta, .int .i64 tb])
  have inv_2 := (invc_1.alloc (.cells #[.int .i64 ta, .int .i64 tb] 75))
  have t_0 := t_2.cell 0; have t_1 := t_2.cell 1; simp at t_0 t_1
  go_wp2_with fail
  refine (hb1 _).mono ?_; rintro e wq ⟨rfl, rfl⟩
  go_wp2_with fail
  refine (hb2 _).mono ?_; rintro e wq ⟨rfl, rfl⟩
  go_wp2_with (first | refine wpList_row_g rfl 26 _ rfl _ rfl _ _ _ _ r_2 Tryd.underlying26 rfl (by kernel_rfl) ?_ | refine wpList_row_g rfl 75 _ rfl _ rfl _ _ _ _ t_2 Tryd.underlying75 rfl (by kernel_rfl) ?_)
  clear t_0 t_1
  have r_3 := r_2
  have t_3 := t_2
  have inv_3 := inv_2
  refine (hqF _).mono ?_; rintro e w_3 ⟨rfl, hb_3⟩
  have rc_3 := r_3.below hb_3 r_3.lt
  have tc_3 := t_3.below hb_3 t_3.lt
  have invc_3 := inv_3.call hb_3
  clear r_3 t_3 inv_3 hb_3
  have HGS : w.heap.size ≤ w_3.heap.size := invc_3.2.size
  have r_4 := (rc_3.alloc (.cells (stA0 o0 d0) 81))
  have t_4 := (tc_3.alloc (.cells (stA0 o0 d0) 81))
  have s_4 := (Wd.Blk.new w_3 81 (stA0 o0 d0))
  have inv_4 := (invc_3.alloc (.cells (stA0 o0 d0) 81))
  have own0 := World.ownsRow_lit (base := w.heap.size) (e := 84) (size := 3) ((w_3.alloc (.cells (stA0 o0 d0) 81))) #[.int .i64 F, .int .i64 o0, .bool d0] 1 inv_4.2.size (by unfold maxLen; omega) rfl
  rw [sz1 w_3 _ rfl] at own0
  have r_5 := (r_4.alloc (.cells #[.int .i64 F, .int .i64 o0, .bool d0] 84))
  have t_5 := (t_4.alloc (.cells #[.int .i64 F, .int .i64 o0, .bool d0] 84))
  have s_5 := (s_4.alloc (.cells #[.int .i64 F, .int .i64 o0, .bool d0] 84))
  have inv_5 := (inv_4.alloc (.cells #[.int .i64 F, .int .i64 o0, .bool d0] 84))
  have t_0 := t_5.cell 0; have t_1 := t_5.cell 1; simp at t_0 t_1
  have hmx := fun (w : World) ts t => run_max2 (P := Tryd.prog) w ts t ta tb; have hmn := fun (w : World) ts t => run_min2 (P := Tryd.prog) w ts t ta tb
  go_wp2_with fail
  clear hmx hmn t_0 t_1 hb1 hb2 hto hqF
  go_loopw [11, 63] (fun v i wr => ∃ k : Nat, i = .int .i64 k ∧ k ≤ 2 ∧ wr.ownsRow w.heap.size 84 3 v (S k).1.length (flatS (S k).1) ∧ Blk wr w_3.heap.size 81 (stA0 (S k).2.1 (S k).2.2) ∧ Blk wr (w.heap.size) 26 (rcA r.b r.c r.d r.p r.q) ∧ Blk wr w_1.heap.size 75 #[.int .i64 ta, .int .i64 tb] ∧ Civ.Inv w wr) (fun _ i _ => 2 - (intOf i).toNat)
  case atStart => exact ⟨0, rfl, by decide, by rw [HZ.out]; exact own0, by rw [HZ.out]; exact s_5, r_5, t_5, inv_5⟩
  case round =>
    clear own0 s_5 r_5 t_5 inv_5
    obtain ⟨k, rfl, hk, hown, hs, hr, ht, hi⟩ := hrel
    have hk3 : k = 0 ∨ k = 1 ∨ k = 2 := by omega
    rcases hk3 with rfl | rfl | rfl
    · have hl := HL.out 0
      have HA := HA0; have HB := HB0; have HC := HC0; clear HA0 HB0 HC0 HA1 HB1 HC1
      have hq := hq0; clear hq0 hq1
      obtain ⟨⟨L, o, d⟩, hS⟩ : ∃ x, S 0 = x := ⟨_, rfl⟩
      rw [hS] at HA; rw [hS] at HB; rw [hS] at HC; rw [hS] at hown; rw [hS] at hs; rw [hS] at hl
      have HS := Lib.hid hS; clear hS HL HZ
      obtain ⟨t, htt⟩ : ∃ t, (min ta tb) = t := ⟨_, rfl⟩
      rw [htt] at HA HB HC hq
      have hpt : ∀ w, (Instr.index 75 (.agg #[.int .i64 (min ta tb), .int .i64 (max ta tb)]) (.int .i64 0)).run Tryd.prog w = .ok (.int .i64 t) w := fun _ => by subst htt; kernel_rfl
      clear htt
      simp only at hown hs hl
      by_cases c1 : t ≤ F
      · have HA' := Lib.hid (HA.out (Or.inl c1))
        go_wp2_with fail
        go_roundw
        case rel => exact ⟨1, by go_num, by decide, by rw [HA'.out]; exact hown, by rw [HA'.out]; exact hs, hr, ht, hi⟩
        case measure => simp [intOf]
      · have c1' : F < t := by omega
        by_cases c2 : G ≤ t
        · have HA' := Lib.hid (HA.out (Or.inr c2))
          go_wp2_with fail
          go_roundw
          case rel => exact ⟨1, by go_num, by decide, by rw [HA'.out]; exact hown, by rw [HA'.out]; exact hs, hr, ht, hi⟩
          case measure => simp [intOf]
        · have hn : ¬ (t ≤ F ∨ G ≤ t) := by omega
          cases he : eqT o1 d1 o d with
          | true =>
            have hne := fun w => neq_sta o1 o d1 d w
            rw [he] at hne
            have H' := Lib.hid (HB.out hn he); clear HA HB HC he hn
            have hown' := own_bel3 hown
            go_wp2_with (first | refine wpList_row_g rfl 26 _ rfl _ rfl _ _ _ _ hr Tryd.underlying26 rfl (by kernel_rfl) ?_ | refine wpList_row_g rfl 75 _ rfl _ rfl _ _ _ _ ht Tryd.underlying75 rfl (by kernel_rfl) ?_)
            have s_21 := hs
            have r_21 := hr
            have t_21 := ht
            have inv_21 := hi
            refine (hq _).mono ?_; rintro e w_x ⟨rfl, hb_x⟩
            have sx := s_21.below hb_x s_21.lt
            have rx := r_21.below hb_x r_21.lt
            have tx := t_21.below hb_x t_21.lt
            have ix := inv_21.call hb_x; have ox := hown' _ hb_x
            have s_22 := (sx.alloc (.cells (stA0 o1 d1) 81))
            have r_22 := (rx.alloc (.cells (stA0 o1 d1) 81))
            have t_22 := (tx.alloc (.cells (stA0 o1 d1) 81))
            have z_22 := (Wd.Blk.new w_x 81 (stA0 o1 d1))
            have inv_22 := (ix.alloc (.cells (stA0 o1 d1) 81))
            have oy := ox.alloc (.cells (stA0 o1 d1) 81)
            have _t := trivial
            go_wp2_with (first | refine wpList_row_g rfl 81 _ rfl _ rfl _ _ _ _ s_22 Tryd.underlying81 rfl (by kernel_rfl) ?_ | refine wpList_row_g rfl 81 _ rfl _ rfl _ _ _ _ z_22 Tryd.underlying81 rfl (by kernel_rfl) ?_)
            go_roundw
            case rel => exact ⟨1, by go_num, by decide, by rw [H'.out]; exact oy, by rw [H'.out]; exact s_22, r_22, t_22, inv_22⟩
            case measure => simp [intOf]
          | false =>
            have hne := fun w => neq_sta o1 o d1 d w
            rw [he] at hne
            have H' := Lib.hid (HC.out hn he); clear HA HB HC he hn
            have hown' := own_bel3 hown
            go_wp2_with (first | refine wpList_row_g rfl 26 _ rfl _ rfl _ _ _ _ hr Tryd.underlying26 rfl (by kernel_rfl) ?_ | refine wpList_row_g rfl 75 _ rfl _ rfl _ _ _ _ ht Tryd.underlying75 rfl (by kernel_rfl) ?_)
            have s_21 := hs
            have r_21 := hr
            have t_21 := ht
            have inv_21 := hi
            refine (hq _).mono ?_; rintro e w_x ⟨rfl, hb_x⟩
            have sx := s_21.below hb_x s_21.lt
            have rx := r_21.below hb_x r_21.lt
            have tx := t_21.below hb_x t_21.lt
            have ix := inv_21.call hb_x; have ox := hown' _ hb_x
            have s_22 := (sx.alloc (.cells (stA0 o1 d1) 81))
            have r_22 := (rx.alloc (.cells (stA0 o1 d1) 81))
            have t_22 := (tx.alloc (.cells (stA0 o1 d1) 81))
            have z_22 := (Wd.Blk.new w_x 81 (stA0 o1 d1))
            have inv_22 := (ix.alloc (.cells (stA0 o1 d1) 81))
            have oy := ox.alloc (.cells (stA0 o1 d1) 81)
            have _t := trivial
            go_upto_region 19 with (first | refine wpList_row_g rfl 81 _ rfl _ rfl _ _ _ _ s_22 Tryd.underlying81 rfl (by kernel_rfl) ?_ | refine wpList_row_g rfl 81 _ rfl _ rfl _ _ _ _ z_22 Tryd.underlying81 rfl (by kernel_rfl) ?_ | (at_builtin; refine wpList_append_any _ rfl (.tmp 81) (.tmp 88) 36 rfl w.heap.size 84 i0i _ 3 24 Tryd.underlying36 hi0 hz0 hz1 hz2 rfl (by decide) _ L.length _ rfl (oy.alloc _) _ _ 1 1 (Sp.A ⟨t, o1, d1⟩).toList rfl (reads_spn _ _ ⟨t, o1, d1⟩ (sz1 _ _ rfl)) (sp_one ⟨t, o1, d1⟩) (by unfold maxLen; omega) (by omega) (by have := inv_22.2.size; simp at this ⊢; omega) ?_; intro v1 w1 hown1 hg1 _))
            have bB := Below.grown ((inv_22.alloc (.cells (Sp.A ⟨t, o1, d1⟩) 84)).2) hg1 (inv_22.alloc (.cells (Sp.A ⟨t, o1, d1⟩) 84)).2.size (fun g hg => (own_lt3 oy g hg).1)
            have s2 := (s_22.alloc (.cells (Sp.A ⟨t, o1, d1⟩) 84)).grown hg1 (fun e => own_blk3 (oy.alloc (.cells (Sp.A ⟨t, o1, d1⟩) 84)) (s_22.alloc (.cells (Sp.A ⟨t, o1, d1⟩) 84)) (by decide) e.symm)
            have r2 := (r_22.alloc (.cells (Sp.A ⟨t, o1, d1⟩) 84)).grown hg1 (fun e => own_blk3 (oy.alloc (.cells (Sp.A ⟨t, o1, d1⟩) 84)) (r_22.alloc (.cells (Sp.A ⟨t, o1, d1⟩) 84)) (by decide) e.symm)
            have t2 := (t_22.alloc (.cells (Sp.A ⟨t, o1, d1⟩) 84)).grown hg1 (fun e => own_blk3 (oy.alloc (.cells (Sp.A ⟨t, o1, d1⟩) 84)) (t_22.alloc (.cells (Sp.A ⟨t, o1, d1⟩) 84)) (by decide) e.symm)
            have z2 := (z_22.alloc (.cells (Sp.A ⟨t, o1, d1⟩) 84)).grown hg1 (fun e => own_blk3 (oy.alloc (.cells (Sp.A ⟨t, o1, d1⟩) 84)) (z_22.alloc (.cells (Sp.A ⟨t, o1, d1⟩) 84)) (by decide) e.symm)
            have ns := own_blk3 hown1 s2 (by decide)
            have gsl : w.heap.size ≤ w_3.heap.size := HGS
            clear hg1 oy ox s_22 r_22 t_22 z_22 inv_22
            go_wp2_with (first | refine wpList_row_g rfl 81 _ rfl _ rfl _ _ _ _ z2 Tryd.underlying81 rfl (by kernel_rfl) ?_ | refine wpList_store_g rfl 81 _ _ rfl rfl w_3.heap.size 0 (stA0 o1 d1) (stA0 o1 d1) rfl rfl _ _ s2 (by show 0 + 3 ≤ 3; decide) (by kernel_rfl) (by kernel_rfl) (by kernel_rfl) ?_)
            go_roundw
            case rel => exact ⟨1, by go_num, by decide, by rw [H'.out]; simp only [List.length_append, flatS_app]; exact own_row hown1 _ _ ns, by rw [H'.out]; exact Blk.row s2 _, Blk.rowFar r2 (r2.ne_ s2 (by decide)) _, Blk.rowFar t2 (t2.ne_ s2 (by decide)) _, inv_of hT (below_row bB gsl _)⟩
            case measure => simp [intOf]
    · have hl := HL.out 1
      have HA := HA1; have HB := HB1; have HC := HC1; clear HA0 HB0 HC0 HA1 HB1 HC1
      have hq := hq1; clear hq0 hq1
      obtain ⟨⟨L, o, d⟩, hS⟩ : ∃ x, S 1 = x := ⟨_, rfl⟩
      rw [hS] at HA; rw [hS] at HB; rw [hS] at HC; rw [hS] at hown; rw [hS] at hs; rw [hS] at hl
      have HS := Lib.hid hS; clear hS HL HZ
      obtain ⟨t, htt⟩ : ∃ t, (max ta tb) = t := ⟨_, rfl⟩
      rw [htt] at HA HB HC hq
      have hpt : ∀ w, (Instr.index 75 (.agg #[.int .i64 (min ta tb), .int .i64 (max ta tb)]) (.int .i64 1)).run Tryd.prog w = .ok (.int .i64 t) w := fun _ => by subst htt; kernel_rfl
      clear htt
      simp only at hown hs hl
      by_cases c1 : t ≤ F
      · have HA' := Lib.hid (HA.out (Or.inl c1))
        go_wp2_with fail
        go_roundw
        case rel => exact ⟨2, by go_num, by decide, by rw [HA'.out]; exact hown, by rw [HA'.out]; exact hs, hr, ht, hi⟩
        case measure => simp [intOf]
      · have c1' : F < t := by omega
        by_cases c2 : G ≤ t
        · have HA' := Lib.hid (HA.out (Or.inr c2))
          go_wp2_with fail
          go_roundw
          case rel => exact ⟨2, by go_num, by decide, by rw [HA'.out]; exact hown, by rw [HA'.out]; exact hs, hr, ht, hi⟩
          case measure => simp [intOf]
        · have hn : ¬ (t ≤ F ∨ G ≤ t) := by omega
          cases he : eqT o2 d2 o d with
          | true =>
            have hne := fun w => neq_sta o2 o d2 d w
            rw [he] at hne
            have H' := Lib.hid (HB.out hn he); clear HA HB HC he hn
            have hown' := own_bel3 hown
            go_wp2_with (first | refine wpList_row_g rfl 26 _ rfl _ rfl _ _ _ _ hr Tryd.underlying26 rfl (by kernel_rfl) ?_ | refine wpList_row_g rfl 75 _ rfl _ rfl _ _ _ _ ht Tryd.underlying75 rfl (by kernel_rfl) ?_)
            have s_21 := hs
            have r_21 := hr
            have t_21 := ht
            have inv_21 := hi
            refine (hq _).mono ?_; rintro e w_x ⟨rfl, hb_x⟩
            have sx := s_21.below hb_x s_21.lt
            have rx := r_21.below hb_x r_21.lt
            have tx := t_21.below hb_x t_21.lt
            have ix := inv_21.call hb_x; have ox := hown' _ hb_x
            have s_22 := (sx.alloc (.cells (stA0 o2 d2) 81))
            have r_22 := (rx.alloc (.cells (stA0 o2 d2) 81))
            have t_22 := (tx.alloc (.cells (stA0 o2 d2) 81))
            have z_22 := (Wd.Blk.new w_x 81 (stA0 o2 d2))
            have inv_22 := (ix.alloc (.cells (stA0 o2 d2) 81))
            have oy := ox.alloc (.cells (stA0 o2 d2) 81)
            have _t := trivial
            go_wp2_with (first | refine wpList_row_g rfl 81 _ rfl _ rfl _ _ _ _ s_22 Tryd.underlying81 rfl (by kernel_rfl) ?_ | refine wpList_row_g rfl 81 _ rfl _ rfl _ _ _ _ z_22 Tryd.underlying81 rfl (by kernel_rfl) ?_)
            go_roundw
            case rel => exact ⟨2, by go_num, by decide, by rw [H'.out]; exact oy, by rw [H'.out]; exact s_22, r_22, t_22, inv_22⟩
            case measure => simp [intOf]
          | false =>
            have hne := fun w => neq_sta o2 o d2 d w
            rw [he] at hne
            have H' := Lib.hid (HC.out hn he); clear HA HB HC he hn
            have hown' := own_bel3 hown
            go_wp2_with (first | refine wpList_row_g rfl 26 _ rfl _ rfl _ _ _ _ hr Tryd.underlying26 rfl (by kernel_rfl) ?_ | refine wpList_row_g rfl 75 _ rfl _ rfl _ _ _ _ ht Tryd.underlying75 rfl (by kernel_rfl) ?_)
            have s_21 := hs
            have r_21 := hr
            have t_21 := ht
            have inv_21 := hi
            refine (hq _).mono ?_; rintro e w_x ⟨rfl, hb_x⟩
            have sx := s_21.below hb_x s_21.lt
            have rx := r_21.below hb_x r_21.lt
            have tx := t_21.below hb_x t_21.lt
            have ix := inv_21.call hb_x; have ox := hown' _ hb_x
            have s_22 := (sx.alloc (.cells (stA0 o2 d2) 81))
            have r_22 := (rx.alloc (.cells (stA0 o2 d2) 81))
            have t_22 := (tx.alloc (.cells (stA0 o2 d2) 81))
            have z_22 := (Wd.Blk.new w_x 81 (stA0 o2 d2))
            have inv_22 := (ix.alloc (.cells (stA0 o2 d2) 81))
            have oy := ox.alloc (.cells (stA0 o2 d2) 81)
            have _t := trivial
            go_upto_region 19 with (first | refine wpList_row_g rfl 81 _ rfl _ rfl _ _ _ _ s_22 Tryd.underlying81 rfl (by kernel_rfl) ?_ | refine wpList_row_g rfl 81 _ rfl _ rfl _ _ _ _ z_22 Tryd.underlying81 rfl (by kernel_rfl) ?_ | (at_builtin; refine wpList_append_any _ rfl (.tmp 81) (.tmp 88) 36 rfl w.heap.size 84 i0i _ 3 24 Tryd.underlying36 hi0 hz0 hz1 hz2 rfl (by decide) _ L.length _ rfl (oy.alloc _) _ _ 1 1 (Sp.A ⟨t, o2, d2⟩).toList rfl (reads_spn _ _ ⟨t, o2, d2⟩ (sz1 _ _ rfl)) (sp_one ⟨t, o2, d2⟩) (by unfold maxLen; omega) (by omega) (by have := inv_22.2.size; simp at this ⊢; omega) ?_; intro v1 w1 hown1 hg1 _))
            have bB := Below.grown ((inv_22.alloc (.cells (Sp.A ⟨t, o2, d2⟩) 84)).2) hg1 (inv_22.alloc (.cells (Sp.A ⟨t, o2, d2⟩) 84)).2.size (fun g hg => (own_lt3 oy g hg).1)
            have s2 := (s_22.alloc (.cells (Sp.A ⟨t, o2, d2⟩) 84)).grown hg1 (fun e => own_blk3 (oy.alloc (.cells (Sp.A ⟨t, o2, d2⟩) 84)) (s_22.alloc (.cells (Sp.A ⟨t, o2, d2⟩) 84)) (by decide) e.symm)
            have r2 := (r_22.alloc (.cells (Sp.A ⟨t, o2, d2⟩) 84)).grown hg1 (fun e => own_blk3 (oy.alloc (.cells (Sp.A ⟨t, o2, d2⟩) 84)) (r_22.alloc (.cells (Sp.A ⟨t, o2, d2⟩) 84)) (by decide) e.symm)
            have t2 := (t_22.alloc (.cells (Sp.A ⟨t, o2, d2⟩) 84)).grown hg1 (fun e => own_blk3 (oy.alloc (.cells (Sp.A ⟨t, o2, d2⟩) 84)) (t_22.alloc (.cells (Sp.A ⟨t, o2, d2⟩) 84)) (by decide) e.symm)
            have z2 := (z_22.alloc (.cells (Sp.A ⟨t, o2, d2⟩) 84)).grown hg1 (fun e => own_blk3 (oy.alloc (.cells (Sp.A ⟨t, o2, d2⟩) 84)) (z_22.alloc (.cells (Sp.A ⟨t, o2, d2⟩) 84)) (by decide) e.symm)
            have ns := own_blk3 hown1 s2 (by decide)
            have gsl : w.heap.size ≤ w_3.heap.size := HGS
            clear hg1 oy ox s_22 r_22 t_22 z_22 inv_22
            go_wp2_with (first | refine wpList_row_g rfl 81 _ rfl _ rfl _ _ _ _ z2 Tryd.underlying81 rfl (by kernel_rfl) ?_ | refine wpList_store_g rfl 81 _ _ rfl rfl w_3.heap.size 0 (stA0 o2 d2) (stA0 o2 d2) rfl rfl _ _ s2 (by show 0 + 3 ≤ 3; decide) (by kernel_rfl) (by kernel_rfl) (by kernel_rfl) ?_)
            go_roundw
            case rel => exact ⟨2, by go_num, by decide, by rw [H'.out]; simp only [List.length_append, flatS_app]; exact own_row hown1 _ _ ns, by rw [H'.out]; exact Blk.row s2 _, Blk.rowFar r2 (r2.ne_ s2 (by decide)) _, Blk.rowFar t2 (t2.ne_ s2 (by decide)) _, inv_of hT (below_row bB gsl _)⟩
            case measure => simp [intOf]
    · have hl := HL.out 2
      have hE := HE.out
      rw [← hE] at hl hown
      clear HA0 HB0 HC0 HA1 HB1 HC1 HZ HL hq0 hq1
      obtain ⟨g, c, rfl, hg, hnc⟩ := own_form3 hown (by omega)
      have hrd := Reads.of_own hown
      have HE2 := Lib.hid hE; clear hE hown HE
      go_wp2_with fail
      go_ret2
      exact ⟨g, _, c, rfl, rfl, hnc, hrd, hg, hi.2⟩
end Go.Proofs.YtgdgkgeoigljcaaDoor.Tb
