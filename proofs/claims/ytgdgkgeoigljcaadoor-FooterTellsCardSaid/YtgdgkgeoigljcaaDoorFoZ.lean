/-
  The document's Parse of a footer: walked.
-/
import Derived.Test.YtgdgkgeoigljcaaDoorFoX
namespace Go.Proofs.YtgdgkgeoigljcaaDoor.Fo
open Go.ChangeShapes Go.WideShapes Go.ChangeAt Go.RowKit Go.Shelf
open Go.Proofs.YtgdgkgeoigljcaaDoor
open Go.Proofs.YtgdgkgeoigljcaaDoor.Wd
open Go.Proofs.YtgdgkgeoigljcaaDoor.Rec
open Go.Proofs.YtgdgkgeoigljcaaDoor.Tb (Rc)
open Go.Proofs.YtgdgkgeoigljcaaDoor.Civ (Tab)
set_option linter.unusedVariables false
set_option linter.unusedSimpArgs false
theorem parVQ_no {s : List UInt8} {p : Pr} (h : parQ s = p) (hn : ¬ p.okQ s) : parVQ s = .tuple #[.agg #[.int .i32 0, .int .i32 0, .int .i32 0, .int .u16 0, .int .u16 0, .int .u16 0, .int .u16 0, .int .u16 0, .int .u16 0, .int .u16 0, .int .u16 0, .int .u16 0, .int .u16 0, .int .u16 0, .int .u16 0, .int .u16 0, .int .u16 0, .int .u16 0, .int .u16 0], .string ⟨#[]⟩, .string ⟨#[]⟩, .int .i64 4] := by unfold parVQ; rw [h, if_neg hn]; rfl
theorem parVQ_yes {s : List UInt8} {p : Pr} (h : parQ s = p) (hn : p.okQ s) : parVQ s = .tuple #[.agg p.r.A, .string (B p.n), .string (B p.d), .int .i64 0] := by unfold parVQ; rw [h, if_pos hn]
theorem dst_no {r : List UInt8} {b : UInt8} {y : Rs} (hw : y.s = b :: r) (hb : b ≠ 44) : ¬ (y.s = [] ∨ (mayR 44 y).1 = true) := by
  rintro (e | e)
  · rw [hw] at e; cases e
  · unfold mayR at e; rw [hw] at e; simp [hb] at e
theorem nameq_le (x : Rs) : (nameQ x).1.length ≤ x.s.length := by
  unfold nameQ
  split
  · split
    · exact Nat.zero_le _
    · rename_i b r e
      have := cut_len 62 r
      split
      · rw [e]; exact Nat.le_succ_of_le this.1
      · exact Nat.zero_le _
  · exact List.length_take_le' _ _
theorem nameq_len (x : Rs) : (nameQ x).2.s.length ≤ x.s.length := by
  unfold nameQ
  split
  · split
    · exact Nat.zero_le _
    · rename_i b r e
      have := cut_len 62 r
      split
      · rw [e]; exact Nat.le_succ_of_le this.2
      · rw [e]; exact Nat.le_refl _
  · show (x.s.drop _).length ≤ _; rw [List.length_drop]; omega
theorem unitq_len (u : Int) (a : Int × Rs) : (unitQ u a).2.s.length ≤ a.2.s.length := Nat.le_trans (numr_len 4 _) (may_len 58 _)
theorem absq_len (x : Rs) : (absQ x).2.s.length ≤ x.s.length := by
  have h := numr_len 4 x
  have h1 := unitq_len 60 (((numR 4 x).1 : Int) * 3600, (numR 4 x).2)
  have h2 := unitq_len 1 (unitQ 60 (((numR 4 x).1 : Int) * 3600, (numR 4 x).2))
  unfold absQ; dsimp only
  split
  · split
    · exact Nat.le_trans h2 (Nat.le_trans h1 h)
    · exact Nat.le_trans h1 h
  · exact h
theorem timq_len (x : Rs) : (timQ x).2.s.length ≤ x.s.length := Nat.le_trans (absq_len _) (may_len 45 x)
theorem stq_len (x : Rs) : (stQ x).2.s.length ≤ x.s.length := by
  have h1 := may_len 77 x; have h2 := numr_len 4 (mayR 77 x).2
  have h3 := may_len 46 (numR 4 (mayR 77 x).2).2; have h4 := numr_len 4 (mayR 46 (numR 4 (mayR 77 x).2).2).2
  have h5 := may_len 46 (numR 4 (mayR 46 (numR 4 (mayR 77 x).2).2).2).2; have h6 := numr_len 4 (mayR 46 (numR 4 (mayR 46 (numR 4 (mayR 77 x).2).2).2).2).2
  unfold stQ; dsimp only
  have h7 := may_len 47 (numR 4 (mayR 46 (numR 4 (mayR 46 (numR 4 (mayR 77 x).2).2).2).2).2).2
  have h8 := timq_len (mayR 47 (numR 4 (mayR 46 (numR 4 (mayR 46 (numR 4 (mayR 77 x).2).2).2).2).2).2).2
  split
  · show (timQ _).2.s.length ≤ _; omega
  · show (numR 4 _).2.s.length ≤ _; omega
set_option maxRecDepth 40000 in
set_option maxHeartbeats 12800000 in
theorem rpar_any (s0 : ByteArray) (w : World) (hT : Tab w) (hs : s0.size ≤ 1000) :
    Calls Tryd.prog 9 #[.string s0] w fun e w' => e = .returned (parVQ (L s0)) ∧ Below w.heap.size w w' := by
  obtain ⟨X, hX⟩ : ∃ X : Rs, X = ⟨L s0, false⟩ := ⟨_, rfl⟩
  have lX : X.s.length ≤ 1000 := by rw [hX]; show (L s0).length ≤ 1000; rw [L_len]; exact hs
  have y0 := (Blk.new w 26 #[.int .i32 0, .int .i32 0, .int .i32 0, .int .u16 0, .int .u16 0, .int .u16 0, .int .u16 0, .int .u16 0, .int .u16 0, .int .u16 0, .int .u16 0, .int .u16 0, .int .u16 0, .int .u16 0, .int .u16 0, .int .u16 0, .int .u16 0, .int .u16 0, .int .u16 0]).alloc (.cells #[.string s0, .bool false] 62)
  have hb0 : Below w.heap.size w ((w.alloc (.cells #[.int .i32 0, .int .i32 0, .int .i32 0, .int .u16 0, .int .u16 0, .int .u16 0, .int .u16 0, .int .u16 0, .int .u16 0, .int .u16 0, .int .u16 0, .int .u16 0, .int .u16 0, .int .u16 0, .int .u16 0, .int .u16 0, .int .u16 0, .int .u16 0, .int .u16 0] 26)).alloc (.cells #[.string s0, .bool false] 62)) := ((Below.refl _ w).alloc (Nat.le_refl _) _).alloc (by rw [sz1 _ _ rfl]; exact Nat.le_succ _) _
  obtain ⟨g1, hg1⟩ : ∃ g1, g1 = w.heap.size + 1 := ⟨_, rfl⟩
  have x0 : Blk ((w.alloc (.cells #[.int .i32 0, .int .i32 0, .int .i32 0, .int .u16 0, .int .u16 0, .int .u16 0, .int .u16 0, .int .u16 0, .int .u16 0, .int .u16 0, .int .u16 0, .int .u16 0, .int .u16 0, .int .u16 0, .int .u16 0, .int .u16 0, .int .u16 0, .int .u16 0, .int .u16 0] 26)).alloc (.cells #[.string s0, .bool false] 62)) g1 62 #[.string (B X.s), .bool X.bad] := by have := blk_at' (w.alloc (.cells #[.int .i32 0, .int .i32 0, .int .i32 0, .int .u16 0, .int .u16 0, .int .u16 0, .int .u16 0, .int .u16 0, .int .u16 0, .int .u16 0, .int .u16 0, .int .u16 0, .int .u16 0, .int .u16 0, .int .u16 0, .int .u16 0, .int .u16 0, .int .u16 0, .int .u16 0] 26)) 62 #[.string s0, .bool false] (sz1 w (.cells #[.int .i32 0, .int .i32 0, .int .i32 0, .int .u16 0, .int .u16 0, .int .u16 0, .int .u16 0, .int .u16 0, .int .u16 0, .int .u16 0, .int .u16 0, .int .u16 0, .int .u16 0, .int .u16 0, .int .u16 0, .int .u16 0, .int .u16 0, .int .u16 0, .int .u16 0] 26) rfl); rw [hg1, hX]; show Blk _ _ _ #[.string (B (L s0)), .bool false]; rw [B_L]; exact this
  go_enter Tryd.func9, Tryd.ntmps9
  go_upto_region 2 with fail
  generalize (w.alloc (.cells #[.int .i32 0, .int .i32 0, .int .i32 0, .int .u16 0, .int .u16 0, .int .u16 0, .int .u16 0, .int .u16 0, .int .u16 0, .int .u16 0, .int .u16 0, .int .u16 0, .int .u16 0, .int .u16 0, .int .u16 0, .int .u16 0, .int .u16 0, .int .u16 0, .int .u16 0] 26)).alloc (.cells #[.string s0, .bool false] 62) = W at *
  rw [← hg1]
  have hz : w.heap.size < g1 := by omega
  have HX := Lib.hid hX
  clear hg1 hX
  obtain ⟨n1, y1, H1⟩ : ∃ n y, nameQ X = (n, y) := ⟨_, _, rfl⟩
  have c1 := rnme_any X W (Nat.le_trans lX (by decide)); have l1 := nameq_len X; have k1 := nameq_le X; rw [H1] at c1 l1 k1; replace l1 : y1.s.length ≤ 1000 := Nat.le_trans l1 lX; replace k1 : n1.length ≤ 1000 := Nat.le_trans k1 lX
  have HE1 := Lib.hid H1; clear H1
  go_wp2_with (refine wpList_row_g rfl 62 _ rfl _ rfl _ _ _ _ x0 Tryd.underlying62 rfl (by kernel_rfl) ?_)
  refine (c1).mono ?_; rintro e W1 ⟨rfl, hb⟩
  replace y0 := y0.below hb y0.lt
  replace x0 := x0.below hb x0.lt
  replace hb0 := hb0.trans (hb.mono hb0.size); clear hb
  clear c1
  go_upto_region 3 with (refine wpList_store_seg rfl 62 _ _ rfl rfl g1 0 #[.string (B y1.s), .bool y1.bad] #[.string (B y1.s), .bool y1.bad] rfl rfl _ _ x0 (Nat.le_refl 2) (by kernel_rfl) (by kernel_rfl) (by kernel_rfl) ?_)
  replace y0 := Blk.rowFar (g' := g1) y0 (by omega) #[.string (B y1.s), .bool y1.bad]
  replace x0 := Blk.row (g := g1) x0 #[.string (B y1.s), .bool y1.bad]
  replace hb0 := below_row hb0 (show w.heap.size ≤ g1 by omega) #[.string (B y1.s), .bool y1.bad]
  generalize World.setRow _ g1 #[.string (B y1.s), .bool y1.bad] = W2 at *
  obtain ⟨o1, y2, H2⟩ : ∃ n y, timQ y1 = (n, y) := ⟨_, _, rfl⟩
  have c1 := rtim_any y1 W2 (Nat.le_trans l1 (by decide)); have l2 := timq_len y1; have b1 := timq_bd y1; rw [H2] at c1 l2 b1; replace l2 : y2.s.length ≤ 1000 := Nat.le_trans l2 l1; replace b1 : -100000000 ≤ o1 ∧ o1 ≤ 100000000 := b1
  have HE2 := Lib.hid H2; clear H2
  go_wp2_with (refine wpList_row_g rfl 62 _ rfl _ rfl _ _ _ _ x0 Tryd.underlying62 rfl (by kernel_rfl) ?_)
  refine (c1).mono ?_; rintro e W3 ⟨rfl, hb⟩
  replace y0 := y0.below hb y0.lt
  replace x0 := x0.below hb x0.lt
  replace hb0 := hb0.trans (hb.mono hb0.size); clear hb
  clear c1
  go_upto_region 4 with (refine wpList_store_seg rfl 62 _ _ rfl rfl g1 0 #[.string (B y2.s), .bool y2.bad] #[.string (B y2.s), .bool y2.bad] rfl rfl _ _ x0 (Nat.le_refl 2) (by kernel_rfl) (by kernel_rfl) (by kernel_rfl) ?_)
  replace y0 := Blk.rowFar (g' := g1) y0 (by omega) #[.string (B y2.s), .bool y2.bad]
  replace x0 := Blk.row (g := g1) x0 #[.string (B y2.s), .bool y2.bad]
  replace hb0 := below_row hb0 (show w.heap.size ≤ g1 by omega) #[.string (B y2.s), .bool y2.bad]
  generalize World.setRow _ g1 #[.string (B y2.s), .bool y2.bad] = W4 at *
  have wo : IntKind.i64.wrap (-o1) = -o1 := by simp [IntKind.wrap, IntKind.bits, IntKind.signed]; omega
  have c0 : W4.cell? ⟨g1, 0, none⟩ = some (.string (B y2.s)) := x0.cell 0
  cases hx : y2.s.isEmpty with
  | true =>
    have hne := List.isEmpty_iff.1 hx
    have HNE := Lib.hid hne
    have ce : W4.cell? ⟨g1, 0, none⟩ = some (.string ⟨#[]⟩) := by have := x0.cell 0; rw [show (#[.string (B y2.s), .bool y2.bad] : Array Value)[0]? = some (.string (B y2.s)) from rfl, hne] at this; exact this
    clear c0 hx hne
    have hTw := hT.below hT.1 hb0
    have c1 := Rf.rplain_any (-o1) W4 hTw (by omega)
    rw [plV_R] at c1
    obtain ⟨r, hR⟩ : ∃ r, plR (-o1) = r := ⟨_, rfl⟩
    obtain ⟨en, hN⟩ : ∃ r, plE (-o1) = r := ⟨_, rfl⟩
    have hBr := plR_bd (-o1)
    rw [hR] at c1 hBr; rw [hN] at c1; have HR := Lib.hid hR; have HN := Lib.hid hN; clear hR hN hTw
    go_wp2_with fail
    refine (c1).mono ?_; rintro e W5 ⟨rfl, hb⟩
    replace y0 := y0.below hb y0.lt
    replace x0 := x0.below hb x0.lt
    replace hb0 := hb0.trans (hb.mono hb0.size); clear hb
    clear c1 ce
    have g2lt : g1 < W5.heap.size := x0.lt
    go_upto_region 7 with (first | (refine wpList_store_new rfl 26 _ _ rfl rfl W5.heap.size r.A rfl rfl _ #[.int .i32 0, .int .i32 0, .int .i32 0, .int .u16 0, .int .u16 0, .int .u16 0, .int .u16 0, .int .u16 0, .int .u16 0, .int .u16 0, .int .u16 0, .int .u16 0, .int .u16 0, .int .u16 0, .int .u16 0, .int .u16 0, .int .u16 0, .int .u16 0, .int .u16 0] W5 rfl rfl rfl (by kernel_rfl) (by kernel_rfl) ?_))
    have rr := Blk.new W5 26 r.A
    replace y0 := y0.alloc (.cells r.A 26)
    replace x0 := x0.alloc (.cells r.A 26)
    have g2n : g1 < W5.heap.size := g2lt
    replace hb0 := hb0.alloc hb0.size (.cells r.A 26)
    generalize W5.alloc (.cells r.A 26) = W6 at *
    generalize W5.heap.size = g2 at *
    obtain ⟨p, hpd⟩ : ∃ p : Pr, p = ⟨r, en, n1, [], y2⟩ := ⟨_, rfl⟩
    have hp : parQ (L s0) = p := by rw [hpd]; unfold parQ; rw [show (⟨L s0, false⟩ : Rs) = X from HX.out.symm]; dsimp only; rw [HE1.out]; dsimp only; rw [HE2.out]; dsimp only; rw [if_pos HNE.out, (mkpl _).1, (mkpl _).2, HR.out, HN.out]
    obtain ⟨rfl, rfl, rfl, rfl⟩ : r = p.r ∧ en = p.e ∧ n1 = p.n ∧ y2 = p.x := by rw [hpd]; exact ⟨rfl, rfl, rfl, rfl⟩
    have hd0 : p.d = [] := by rw [hpd]
    have hBp := hBr; have lp1 := k1; have lp2 : p.d.length ≤ 1000 := by rw [hd0]; decide
    have HD0 := Lib.hid hd0; clear hpd hd0 HR HN HNE HE1 HE2 HX hBr k1 l1 l2 lX b1 wo
    have hTw := hT.below hT.1 hb0
    obtain ⟨pr, pe, pn, pd, px⟩ := p
    obtain rfl : pd = [] := HD0.out
    clear HD0
    dsimp only at *
    by_cases hE : foE pr pn ([] : List UInt8) = 0
    · skip
      have hq := rtext_ok pr (B pn) (B ([] : List UInt8)) W6 hTw hBp (by rw [B_len]; omega) (by rw [B_len]; omega) hE
      rw [show L (B pn) = pn from rfl, show L (B ([] : List UInt8)) = ([] : List UInt8) from rfl, show B ([] : List UInt8) = ⟨#[]⟩ from rfl] at hq
      obtain ⟨TT, hTT⟩ : ∃ T, B (foT pr pn ([] : List UInt8)) = T := ⟨_, rfl⟩
      rw [hTT] at hq
      have c1 := Blk.cell x0 1
      cases hbd : px.bad with
      | true =>
        have HV := Lib.hid (parVQ_no hp (fun q => by have := q.1; rw [hbd] at this; cases this)).symm
        clear hp
        clear hTT hE
        rcases Bool.eq_false_or_eq_true (pe != 0) with he | he
        all_goals skip
        · skip
          clear hTw hBp lp1 lp2
          go_wp2_with (refine wpList_row_g rfl 26 _ rfl _ rfl _ _ _ _ rr Tryd.underlying26 rfl (by kernel_rfl) ?_)
          refine (hq).mono ?_; rintro e W7 ⟨rfl, hb⟩
          replace y0 := y0.below hb y0.lt
          replace x0 := x0.below hb x0.lt
          replace rr := rr.below hb rr.lt
          replace hb0 := hb0.trans (hb.mono hb0.size); clear hb
          clear hq
          have cb : W7.cell? ⟨g1, 1, none⟩ = some (.bool px.bad) := x0.cell 1
          rw [hbd] at cb; clear hbd
          go_wp2_with (first | (refine wpList_store_seg rfl 26 _ _ rfl rfl w.heap.size 0 #[.int .i32 0, .int .i32 0, .int .i32 0, .int .u16 0, .int .u16 0, .int .u16 0, .int .u16 0, .int .u16 0, .int .u16 0, .int .u16 0, .int .u16 0, .int .u16 0, .int .u16 0, .int .u16 0, .int .u16 0, .int .u16 0, .int .u16 0, .int .u16 0, .int .u16 0] #[.int .i32 0, .int .i32 0, .int .i32 0, .int .u16 0, .int .u16 0, .int .u16 0, .int .u16 0, .int .u16 0, .int .u16 0, .int .u16 0, .int .u16 0, .int .u16 0, .int .u16 0, .int .u16 0, .int .u16 0, .int .u16 0, .int .u16 0, .int .u16 0, .int .u16 0] rfl rfl _ _ y0 (Nat.le_refl 19) (by kernel_rfl) (by kernel_rfl) (by kernel_rfl) ?_))
          all_goals try simp only [Exit.inBlock, Exit.then]
          all_goals refine bodyPost_ret (results_p4 (p := 2) (a := 3) (b := 4) (c := 5) rfl _ _ _ _ _ (.string ⟨#[]⟩) (.string ⟨#[]⟩) (.int .i64 4) rfl rfl rfl rfl (Blk.row y0 #[.int .i32 0, .int .i32 0, .int .i32 0, .int .u16 0, .int .u16 0, .int .u16 0, .int .u16 0, .int .u16 0, .int .u16 0, .int .u16 0, .int .u16 0, .int .u16 0, .int .u16 0, .int .u16 0, .int .u16 0, .int .u16 0, .int .u16 0, .int .u16 0, .int .u16 0]) rfl) rfl ⟨congrArg Ending.returned HV.out, below_row hb0 (Nat.le_refl _) _⟩
        · skip
          clear hTw hBp lp1 lp2
          go_wp2_with (refine wpList_row_g rfl 26 _ rfl _ rfl _ _ _ _ rr Tryd.underlying26 rfl (by kernel_rfl) ?_)
          refine (hq).mono ?_; rintro e W7 ⟨rfl, hb⟩
          replace y0 := y0.below hb y0.lt
          replace x0 := x0.below hb x0.lt
          replace rr := rr.below hb rr.lt
          replace hb0 := hb0.trans (hb.mono hb0.size); clear hb
          clear hq
          have cb : W7.cell? ⟨g1, 1, none⟩ = some (.bool px.bad) := x0.cell 1
          rw [hbd] at cb; clear hbd
          go_wp2_with (first | (refine wpList_store_seg rfl 26 _ _ rfl rfl w.heap.size 0 #[.int .i32 0, .int .i32 0, .int .i32 0, .int .u16 0, .int .u16 0, .int .u16 0, .int .u16 0, .int .u16 0, .int .u16 0, .int .u16 0, .int .u16 0, .int .u16 0, .int .u16 0, .int .u16 0, .int .u16 0, .int .u16 0, .int .u16 0, .int .u16 0, .int .u16 0] #[.int .i32 0, .int .i32 0, .int .i32 0, .int .u16 0, .int .u16 0, .int .u16 0, .int .u16 0, .int .u16 0, .int .u16 0, .int .u16 0, .int .u16 0, .int .u16 0, .int .u16 0, .int .u16 0, .int .u16 0, .int .u16 0, .int .u16 0, .int .u16 0, .int .u16 0] rfl rfl _ _ y0 (Nat.le_refl 19) (by kernel_rfl) (by kernel_rfl) (by kernel_rfl) ?_))
          all_goals try simp only [Exit.inBlock, Exit.then]
          all_goals refine bodyPost_ret (results_p4 (p := 2) (a := 3) (b := 4) (c := 5) rfl _ _ _ _ _ (.string ⟨#[]⟩) (.string ⟨#[]⟩) (.int .i64 4) rfl rfl rfl rfl (Blk.row y0 #[.int .i32 0, .int .i32 0, .int .i32 0, .int .u16 0, .int .u16 0, .int .u16 0, .int .u16 0, .int .u16 0, .int .u16 0, .int .u16 0, .int .u16 0, .int .u16 0, .int .u16 0, .int .u16 0, .int .u16 0, .int .u16 0, .int .u16 0, .int .u16 0, .int .u16 0]) rfl) rfl ⟨congrArg Ending.returned HV.out, below_row hb0 (Nat.le_refl _) _⟩
      | false =>
        by_cases he0 : pe = 0
        · have he : (pe != 0) = false := by rw [he0]; rfl
          by_cases hc : foT pr pn ([] : List UInt8) = L s0
          · have HV := Lib.hid (parVQ_yes hp ⟨hbd, he0, hE, hc⟩).symm
            have hTs : TT = s0 := by rw [← hTT, hc, B_L]
            subst hTs
            clear hp hc hTT hE he0
            clear hTw hBp lp1 lp2
            go_wp2_with (refine wpList_row_g rfl 26 _ rfl _ rfl _ _ _ _ rr Tryd.underlying26 rfl (by kernel_rfl) ?_)
            refine (hq).mono ?_; rintro e W7 ⟨rfl, hb⟩
            replace y0 := y0.below hb y0.lt
            replace x0 := x0.below hb x0.lt
            replace rr := rr.below hb rr.lt
            replace hb0 := hb0.trans (hb.mono hb0.size); clear hb
            clear hq
            have cb : W7.cell? ⟨g1, 1, none⟩ = some (.bool px.bad) := x0.cell 1
            rw [hbd] at cb; clear hbd
            go_wp2_with (first | (refine wpList_store_seg rfl 26 _ _ rfl rfl w.heap.size 0 pr.A pr.A rfl rfl _ _ y0 (Nat.le_refl 19) (by kernel_rfl) (by kernel_rfl) (by kernel_rfl) ?_) | (refine wpList_row_g rfl 26 _ rfl _ rfl _ _ _ _ rr Tryd.underlying26 rfl (by kernel_rfl) ?_))
            all_goals try simp only [Exit.inBlock, Exit.then]
            all_goals refine bodyPost_ret (results_p4 (p := 2) (a := 3) (b := 4) (c := 5) rfl _ _ _ _ _ (.string (B pn)) (.string ⟨#[]⟩) (.int .i64 0) rfl rfl rfl rfl (Blk.row y0 pr.A) rfl) rfl ⟨congrArg Ending.returned HV.out, below_row hb0 (Nat.le_refl _) _⟩
          · have HV := Lib.hid (parVQ_no hp (fun q => hc q.2.2.2)).symm
            have hts := str_ne (show TT ≠ s0 from fun e => hc (by have := congrArg L (hTT.trans e); exact this))
            clear hp hc hTT hE he0
            clear hTw hBp lp1 lp2
            go_wp2_with (refine wpList_row_g rfl 26 _ rfl _ rfl _ _ _ _ rr Tryd.underlying26 rfl (by kernel_rfl) ?_)
            refine (hq).mono ?_; rintro e W7 ⟨rfl, hb⟩
            replace y0 := y0.below hb y0.lt
            replace x0 := x0.below hb x0.lt
            replace rr := rr.below hb rr.lt
            replace hb0 := hb0.trans (hb.mono hb0.size); clear hb
            clear hq
            have cb : W7.cell? ⟨g1, 1, none⟩ = some (.bool px.bad) := x0.cell 1
            rw [hbd] at cb; clear hbd
            go_wp2_with (first | (refine wpList_store_seg rfl 26 _ _ rfl rfl w.heap.size 0 #[.int .i32 0, .int .i32 0, .int .i32 0, .int .u16 0, .int .u16 0, .int .u16 0, .int .u16 0, .int .u16 0, .int .u16 0, .int .u16 0, .int .u16 0, .int .u16 0, .int .u16 0, .int .u16 0, .int .u16 0, .int .u16 0, .int .u16 0, .int .u16 0, .int .u16 0] #[.int .i32 0, .int .i32 0, .int .i32 0, .int .u16 0, .int .u16 0, .int .u16 0, .int .u16 0, .int .u16 0, .int .u16 0, .int .u16 0, .int .u16 0, .int .u16 0, .int .u16 0, .int .u16 0, .int .u16 0, .int .u16 0, .int .u16 0, .int .u16 0, .int .u16 0] rfl rfl _ _ y0 (Nat.le_refl 19) (by kernel_rfl) (by kernel_rfl) (by kernel_rfl) ?_))
            all_goals try simp only [Exit.inBlock, Exit.then]
            all_goals refine bodyPost_ret (results_p4 (p := 2) (a := 3) (b := 4) (c := 5) rfl _ _ _ _ _ (.string ⟨#[]⟩) (.string ⟨#[]⟩) (.int .i64 4) rfl rfl rfl rfl (Blk.row y0 #[.int .i32 0, .int .i32 0, .int .i32 0, .int .u16 0, .int .u16 0, .int .u16 0, .int .u16 0, .int .u16 0, .int .u16 0, .int .u16 0, .int .u16 0, .int .u16 0, .int .u16 0, .int .u16 0, .int .u16 0, .int .u16 0, .int .u16 0, .int .u16 0, .int .u16 0]) rfl) rfl ⟨congrArg Ending.returned HV.out, below_row hb0 (Nat.le_refl _) _⟩
        · have he : (pe != 0) = true := by rw [bne_iff_ne]; exact he0
          have HV := Lib.hid (parVQ_no hp (fun q => he0 q.2.1)).symm
          clear hp he0
          clear hTT hE
          clear hTw hBp lp1 lp2
          go_wp2_with (refine wpList_row_g rfl 26 _ rfl _ rfl _ _ _ _ rr Tryd.underlying26 rfl (by kernel_rfl) ?_)
          refine (hq).mono ?_; rintro e W7 ⟨rfl, hb⟩
          replace y0 := y0.below hb y0.lt
          replace x0 := x0.below hb x0.lt
          replace rr := rr.below hb rr.lt
          replace hb0 := hb0.trans (hb.mono hb0.size); clear hb
          clear hq
          have cb : W7.cell? ⟨g1, 1, none⟩ = some (.bool px.bad) := x0.cell 1
          rw [hbd] at cb; clear hbd
          go_wp2_with (first | (refine wpList_store_seg rfl 26 _ _ rfl rfl w.heap.size 0 #[.int .i32 0, .int .i32 0, .int .i32 0, .int .u16 0, .int .u16 0, .int .u16 0, .int .u16 0, .int .u16 0, .int .u16 0, .int .u16 0, .int .u16 0, .int .u16 0, .int .u16 0, .int .u16 0, .int .u16 0, .int .u16 0, .int .u16 0, .int .u16 0, .int .u16 0] #[.int .i32 0, .int .i32 0, .int .i32 0, .int .u16 0, .int .u16 0, .int .u16 0, .int .u16 0, .int .u16 0, .int .u16 0, .int .u16 0, .int .u16 0, .int .u16 0, .int .u16 0, .int .u16 0, .int .u16 0, .int .u16 0, .int .u16 0, .int .u16 0, .int .u16 0] rfl rfl _ _ y0 (Nat.le_refl 19) (by kernel_rfl) (by kernel_rfl) (by kernel_rfl) ?_))
          all_goals try simp only [Exit.inBlock, Exit.then]
          all_goals refine bodyPost_ret (results_p4 (p := 2) (a := 3) (b := 4) (c := 5) rfl _ _ _ _ _ (.string ⟨#[]⟩) (.string ⟨#[]⟩) (.int .i64 4) rfl rfl rfl rfl (Blk.row y0 #[.int .i32 0, .int .i32 0, .int .i32 0, .int .u16 0, .int .u16 0, .int .u16 0, .int .u16 0, .int .u16 0, .int .u16 0, .int .u16 0, .int .u16 0, .int .u16 0, .int .u16 0, .int .u16 0, .int .u16 0, .int .u16 0, .int .u16 0, .int .u16 0, .int .u16 0]) rfl) rfl ⟨congrArg Ending.returned HV.out, below_row hb0 (Nat.le_refl _) _⟩
    · skip
      have hq := rtext_no pr (B pn) (B ([] : List UInt8)) W6 hTw hBp (by rw [B_len]; omega) (by rw [B_len]; omega) hE
      rw [show L (B pn) = pn from rfl, show L (B ([] : List UInt8)) = ([] : List UInt8) from rfl, show B ([] : List UInt8) = ⟨#[]⟩ from rfl] at hq
      have c1 := Blk.cell x0 1
      cases hbd : px.bad with
      | true =>
        have HV := Lib.hid (parVQ_no hp (fun q => by have := q.1; rw [hbd] at this; cases this)).symm
        clear hp
        rcases Bool.eq_false_or_eq_true (pe != 0) with he | he
        all_goals skip
        · skip
          clear hTw hBp lp1 lp2
          have hEb : (foE pr pn ([] : List UInt8) != 0) = true := by rw [bne_iff_ne]; exact hE
          generalize foE pr pn ([] : List UInt8) = E at *
          clear hE
          go_wp2_with (refine wpList_row_g rfl 26 _ rfl _ rfl _ _ _ _ rr Tryd.underlying26 rfl (by kernel_rfl) ?_)
          refine (hq).mono ?_; rintro e W7 ⟨rfl, hb⟩
          replace y0 := y0.below hb y0.lt
          replace x0 := x0.below hb x0.lt
          replace rr := rr.below hb rr.lt
          replace hb0 := hb0.trans (hb.mono hb0.size); clear hb
          clear hq
          have cb : W7.cell? ⟨g1, 1, none⟩ = some (.bool px.bad) := x0.cell 1
          rw [hbd] at cb; clear hbd
          go_wp2_with (first | (refine wpList_store_seg rfl 26 _ _ rfl rfl w.heap.size 0 #[.int .i32 0, .int .i32 0, .int .i32 0, .int .u16 0, .int .u16 0, .int .u16 0, .int .u16 0, .int .u16 0, .int .u16 0, .int .u16 0, .int .u16 0, .int .u16 0, .int .u16 0, .int .u16 0, .int .u16 0, .int .u16 0, .int .u16 0, .int .u16 0, .int .u16 0] #[.int .i32 0, .int .i32 0, .int .i32 0, .int .u16 0, .int .u16 0, .int .u16 0, .int .u16 0, .int .u16 0, .int .u16 0, .int .u16 0, .int .u16 0, .int .u16 0, .int .u16 0, .int .u16 0, .int .u16 0, .int .u16 0, .int .u16 0, .int .u16 0, .int .u16 0] rfl rfl _ _ y0 (Nat.le_refl 19) (by kernel_rfl) (by kernel_rfl) (by kernel_rfl) ?_))
          all_goals try simp only [Exit.inBlock, Exit.then]
          all_goals refine bodyPost_ret (results_p4 (p := 2) (a := 3) (b := 4) (c := 5) rfl _ _ _ _ _ (.string ⟨#[]⟩) (.string ⟨#[]⟩) (.int .i64 4) rfl rfl rfl rfl (Blk.row y0 #[.int .i32 0, .int .i32 0, .int .i32 0, .int .u16 0, .int .u16 0, .int .u16 0, .int .u16 0, .int .u16 0, .int .u16 0, .int .u16 0, .int .u16 0, .int .u16 0, .int .u16 0, .int .u16 0, .int .u16 0, .int .u16 0, .int .u16 0, .int .u16 0, .int .u16 0]) rfl) rfl ⟨congrArg Ending.returned HV.out, below_row hb0 (Nat.le_refl _) _⟩
        · skip
          clear hTw hBp lp1 lp2
          have hEb : (foE pr pn ([] : List UInt8) != 0) = true := by rw [bne_iff_ne]; exact hE
          generalize foE pr pn ([] : List UInt8) = E at *
          clear hE
          go_wp2_with (refine wpList_row_g rfl 26 _ rfl _ rfl _ _ _ _ rr Tryd.underlying26 rfl (by kernel_rfl) ?_)
          refine (hq).mono ?_; rintro e W7 ⟨rfl, hb⟩
          replace y0 := y0.below hb y0.lt
          replace x0 := x0.below hb x0.lt
          replace rr := rr.below hb rr.lt
          replace hb0 := hb0.trans (hb.mono hb0.size); clear hb
          clear hq
          have cb : W7.cell? ⟨g1, 1, none⟩ = some (.bool px.bad) := x0.cell 1
          rw [hbd] at cb; clear hbd
          go_wp2_with (first | (refine wpList_store_seg rfl 26 _ _ rfl rfl w.heap.size 0 #[.int .i32 0, .int .i32 0, .int .i32 0, .int .u16 0, .int .u16 0, .int .u16 0, .int .u16 0, .int .u16 0, .int .u16 0, .int .u16 0, .int .u16 0, .int .u16 0, .int .u16 0, .int .u16 0, .int .u16 0, .int .u16 0, .int .u16 0, .int .u16 0, .int .u16 0] #[.int .i32 0, .int .i32 0, .int .i32 0, .int .u16 0, .int .u16 0, .int .u16 0, .int .u16 0, .int .u16 0, .int .u16 0, .int .u16 0, .int .u16 0, .int .u16 0, .int .u16 0, .int .u16 0, .int .u16 0, .int .u16 0, .int .u16 0, .int .u16 0, .int .u16 0] rfl rfl _ _ y0 (Nat.le_refl 19) (by kernel_rfl) (by kernel_rfl) (by kernel_rfl) ?_))
          all_goals try simp only [Exit.inBlock, Exit.then]
          all_goals refine bodyPost_ret (results_p4 (p := 2) (a := 3) (b := 4) (c := 5) rfl _ _ _ _ _ (.string ⟨#[]⟩) (.string ⟨#[]⟩) (.int .i64 4) rfl rfl rfl rfl (Blk.row y0 #[.int .i32 0, .int .i32 0, .int .i32 0, .int .u16 0, .int .u16 0, .int .u16 0, .int .u16 0, .int .u16 0, .int .u16 0, .int .u16 0, .int .u16 0, .int .u16 0, .int .u16 0, .int .u16 0, .int .u16 0, .int .u16 0, .int .u16 0, .int .u16 0, .int .u16 0]) rfl) rfl ⟨congrArg Ending.returned HV.out, below_row hb0 (Nat.le_refl _) _⟩
      | false =>
        by_cases he0 : pe = 0
        · have he : (pe != 0) = false := by rw [he0]; rfl
          have HV := Lib.hid (parVQ_no hp (fun q => hE q.2.2.1)).symm
          clear hp he0
          clear hTw hBp lp1 lp2
          have hEb : (foE pr pn ([] : List UInt8) != 0) = true := by rw [bne_iff_ne]; exact hE
          generalize foE pr pn ([] : List UInt8) = E at *
          clear hE
          go_wp2_with (refine wpList_row_g rfl 26 _ rfl _ rfl _ _ _ _ rr Tryd.underlying26 rfl (by kernel_rfl) ?_)
          refine (hq).mono ?_; rintro e W7 ⟨rfl, hb⟩
          replace y0 := y0.below hb y0.lt
          replace x0 := x0.below hb x0.lt
          replace rr := rr.below hb rr.lt
          replace hb0 := hb0.trans (hb.mono hb0.size); clear hb
          clear hq
          have cb : W7.cell? ⟨g1, 1, none⟩ = some (.bool px.bad) := x0.cell 1
          rw [hbd] at cb; clear hbd
          go_wp2_with (first | (refine wpList_store_seg rfl 26 _ _ rfl rfl w.heap.size 0 #[.int .i32 0, .int .i32 0, .int .i32 0, .int .u16 0, .int .u16 0, .int .u16 0, .int .u16 0, .int .u16 0, .int .u16 0, .int .u16 0, .int .u16 0, .int .u16 0, .int .u16 0, .int .u16 0, .int .u16 0, .int .u16 0, .int .u16 0, .int .u16 0, .int .u16 0] #[.int .i32 0, .int .i32 0, .int .i32 0, .int .u16 0, .int .u16 0, .int .u16 0, .int .u16 0, .int .u16 0, .int .u16 0, .int .u16 0, .int .u16 0, .int .u16 0, .int .u16 0, .int .u16 0, .int .u16 0, .int .u16 0, .int .u16 0, .int .u16 0, .int .u16 0] rfl rfl _ _ y0 (Nat.le_refl 19) (by kernel_rfl) (by kernel_rfl) (by kernel_rfl) ?_))
          all_goals try simp only [Exit.inBlock, Exit.then]
          all_goals refine bodyPost_ret (results_p4 (p := 2) (a := 3) (b := 4) (c := 5) rfl _ _ _ _ _ (.string ⟨#[]⟩) (.string ⟨#[]⟩) (.int .i64 4) rfl rfl rfl rfl (Blk.row y0 #[.int .i32 0, .int .i32 0, .int .i32 0, .int .u16 0, .int .u16 0, .int .u16 0, .int .u16 0, .int .u16 0, .int .u16 0, .int .u16 0, .int .u16 0, .int .u16 0, .int .u16 0, .int .u16 0, .int .u16 0, .int .u16 0, .int .u16 0, .int .u16 0, .int .u16 0]) rfl) rfl ⟨congrArg Ending.returned HV.out, below_row hb0 (Nat.le_refl _) _⟩
        · have he : (pe != 0) = true := by rw [bne_iff_ne]; exact he0
          have HV := Lib.hid (parVQ_no hp (fun q => he0 q.2.1)).symm
          clear hp he0
          clear hTw hBp lp1 lp2
          have hEb : (foE pr pn ([] : List UInt8) != 0) = true := by rw [bne_iff_ne]; exact hE
          generalize foE pr pn ([] : List UInt8) = E at *
          clear hE
          go_wp2_with (refine wpList_row_g rfl 26 _ rfl _ rfl _ _ _ _ rr Tryd.underlying26 rfl (by kernel_rfl) ?_)
          refine (hq).mono ?_; rintro e W7 ⟨rfl, hb⟩
          replace y0 := y0.below hb y0.lt
          replace x0 := x0.below hb x0.lt
          replace rr := rr.below hb rr.lt
          replace hb0 := hb0.trans (hb.mono hb0.size); clear hb
          clear hq
          have cb : W7.cell? ⟨g1, 1, none⟩ = some (.bool px.bad) := x0.cell 1
          rw [hbd] at cb; clear hbd
          go_wp2_with (first | (refine wpList_store_seg rfl 26 _ _ rfl rfl w.heap.size 0 #[.int .i32 0, .int .i32 0, .int .i32 0, .int .u16 0, .int .u16 0, .int .u16 0, .int .u16 0, .int .u16 0, .int .u16 0, .int .u16 0, .int .u16 0, .int .u16 0, .int .u16 0, .int .u16 0, .int .u16 0, .int .u16 0, .int .u16 0, .int .u16 0, .int .u16 0] #[.int .i32 0, .int .i32 0, .int .i32 0, .int .u16 0, .int .u16 0, .int .u16 0, .int .u16 0, .int .u16 0, .int .u16 0, .int .u16 0, .int .u16 0, .int .u16 0, .int .u16 0, .int .u16 0, .int .u16 0, .int .u16 0, .int .u16 0, .int .u16 0, .int .u16 0] rfl rfl _ _ y0 (Nat.le_refl 19) (by kernel_rfl) (by kernel_rfl) (by kernel_rfl) ?_))
          all_goals try simp only [Exit.inBlock, Exit.then]
          all_goals refine bodyPost_ret (results_p4 (p := 2) (a := 3) (b := 4) (c := 5) rfl _ _ _ _ _ (.string ⟨#[]⟩) (.string ⟨#[]⟩) (.int .i64 4) rfl rfl rfl rfl (Blk.row y0 #[.int .i32 0, .int .i32 0, .int .i32 0, .int .u16 0, .int .u16 0, .int .u16 0, .int .u16 0, .int .u16 0, .int .u16 0, .int .u16 0, .int .u16 0, .int .u16 0, .int .u16 0, .int .u16 0, .int .u16 0, .int .u16 0, .int .u16 0, .int .u16 0, .int .u16 0]) rfl) rfl ⟨congrArg Ending.returned HV.out, below_row hb0 (Nat.le_refl _) _⟩
  | false =>
    have hne : y2.s ≠ [] := fun e => by rw [e] at hx; cases hx
    have HNE := Lib.hid hne
    have he1 : ((B y2.s).toList == []) = false := by rw [Lib.toList_data, beq_eq_false_iff_ne]; exact hne
    have he2 : (B y2.s).toList.isEmpty = false := by
      cases q : (B y2.s).toList with
      | nil => rw [q] at he1; cases he1
      | cons _ _ => rfl
    obtain ⟨n2, y3, H3⟩ : ∃ n y, nameQ y2 = (n, y) := ⟨_, _, rfl⟩
    have c1 := fun W => rnme_any y2 W (Nat.le_trans l2 (by decide)); have l3 := nameq_len y2; have k2 := nameq_le y2; rw [H3] at c1 l3 k2; replace l3 : y3.s.length ≤ 1000 := Nat.le_trans l3 l2; replace k2 : n2.length ≤ 1000 := Nat.le_trans k2 l2
    have HE3 := Lib.hid H3; clear H3
    go_wp2_with (refine wpList_row_g rfl 62 _ rfl _ rfl _ _ _ _ x0 Tryd.underlying62 rfl (by kernel_rfl) ?_)
    refine (c1 _).mono ?_; rintro e W5 ⟨rfl, hb⟩
    replace y0 := y0.below hb y0.lt
    replace x0 := x0.below hb x0.lt
    replace hb0 := hb0.trans (hb.mono hb0.size); clear hb
    clear c1 c0 he1 he2 hx hne
    go_upto_region 12 with (refine wpList_store_seg rfl 62 _ _ rfl rfl g1 0 #[.string (B y3.s), .bool y3.bad] #[.string (B y3.s), .bool y3.bad] rfl rfl _ _ x0 (Nat.le_refl 2) (by kernel_rfl) (by kernel_rfl) (by kernel_rfl) ?_)
    replace y0 := Blk.rowFar (g' := g1) y0 (by omega) #[.string (B y3.s), .bool y3.bad]
    replace x0 := Blk.row (g := g1) x0 #[.string (B y3.s), .bool y3.bad]
    replace hb0 := below_row hb0 (show w.heap.size ≤ g1 by omega) #[.string (B y3.s), .bool y3.bad]
    generalize World.setRow _ g1 #[.string (B y3.s), .bool y3.bad] = W6 at *
    have wq : IntKind.i64.wrap (-o1 + 3600) = -o1 + 3600 := by simp [IntKind.wrap, IntKind.bits, IntKind.signed]; omega
    have hways : y3.s = [] ∨ (∃ r, y3.s = 44 :: r) ∨ (∃ b r, y3.s = b :: r ∧ b ≠ 44) := by
      cases e : y3.s with
      | nil => exact .inl rfl
      | cons b r => by_cases h : b = 44
                    · subst h; exact .inr (.inl ⟨r, rfl⟩)
                    · exact .inr (.inr ⟨b, r, rfl, h⟩)
    rcases hways with hw | ⟨r9, hw⟩ | ⟨b9, r9, hw, hb9⟩
    · skip
      have HD0 := Lib.hid (show dstQ (-o1) y3 = (-o1 + 3600, y3) by unfold dstQ; rw [if_pos (.inl hw)])
      have ce : W6.cell? ⟨g1, 0, none⟩ = some (.string ⟨#[]⟩) := by have := x0.cell 0; rw [show (#[.string (B y3.s), .bool y3.bad] : Array Value)[0]? = some (.string (B y3.s)) from rfl, hw] at this; exact this
      clear hw
      obtain ⟨bd, hbd⟩ : ∃ bd, bd = -o1 + 3600 := ⟨_, rfl⟩
      have bb : -200000000 ≤ bd ∧ bd ≤ 200000000 := by omega
      go_upto_region 16 with fail
      rw [← hbd] at HD0 ⊢
      try rw [← hbd] at wq
      try rw [← hbd] at wr2
      clear hbd ce
      try clear wq
      try clear wr2
      obtain ⟨m1, y5, H5⟩ : ∃ n y, mayR 44 y3 = (n, y) := ⟨_, _, rfl⟩
      have c1 := rsgn_any 44 y3 W6 (Nat.le_trans l3 (by decide)); have l5 := may_len 44 y3; rw [H5] at c1 l5; replace l5 : y5.s.length ≤ 1000 := Nat.le_trans l5 l3
      have HE5 := Lib.hid H5; clear H5
      go_wp2_with (refine wpList_row_g rfl 62 _ rfl _ rfl _ _ _ _ x0 Tryd.underlying62 rfl (by kernel_rfl) ?_)
      refine (c1).mono ?_; rintro e W7 ⟨rfl, hb⟩
      replace y0 := y0.below hb y0.lt
      replace x0 := x0.below hb x0.lt
      replace hb0 := hb0.trans (hb.mono hb0.size); clear hb
      clear c1
      go_upto_region 17 with (refine wpList_store_seg rfl 62 _ _ rfl rfl g1 0 #[.string (B y5.s), .bool y5.bad] #[.string (B y5.s), .bool y5.bad] rfl rfl _ _ x0 (Nat.le_refl 2) (by kernel_rfl) (by kernel_rfl) (by kernel_rfl) ?_)
      replace y0 := Blk.rowFar (g' := g1) y0 (by omega) #[.string (B y5.s), .bool y5.bad]
      replace x0 := Blk.row (g := g1) x0 #[.string (B y5.s), .bool y5.bad]
      replace hb0 := below_row hb0 (show w.heap.size ≤ g1 by omega) #[.string (B y5.s), .bool y5.bad]
      generalize World.setRow _ g1 #[.string (B y5.s), .bool y5.bad] = W8 at *
      obtain ⟨su, y6, HS1⟩ : ∃ n y, stQ y5 = (n, y) := ⟨_, _, rfl⟩
      have c1 := rstm_any y5 W8 (Nat.le_trans l5 (by decide)); have ly6 := stq_len y5; have bsu := stq_bd y5; rw [HS1] at c1 ly6 bsu; replace ly6 : y6.s.length ≤ 1000 := Nat.le_trans ly6 l5; replace bsu : su.Bd := bsu
      have HS1h := Lib.hid HS1; clear HS1
      go_wp2_with (refine wpList_row_g rfl 62 _ rfl _ rfl _ _ _ _ x0 Tryd.underlying62 rfl (by kernel_rfl) ?_)
      refine (c1).mono ?_; rintro e W9 ⟨rfl, hb⟩
      replace y0 := y0.below hb y0.lt
      replace x0 := x0.below hb x0.lt
      replace hb0 := hb0.trans (hb.mono hb0.size); clear hb
      clear c1
      have g2lt : g1 < W9.heap.size := by have := x0.lt; exact this
      have y0a := y0.alloc (.cells #[.int .u16 0, .int .u16 0, .int .u16 0, .int .u16 0, .int .u16 0, .int .u16 0, .int .u16 0, .int .u16 0] 24)
      have x0a := x0.alloc (.cells #[.int .u16 0, .int .u16 0, .int .u16 0, .int .u16 0, .int .u16 0, .int .u16 0, .int .u16 0, .int .u16 0] 24)
      have sn := Blk.new W9 24 #[.int .u16 0, .int .u16 0, .int .u16 0, .int .u16 0, .int .u16 0, .int .u16 0, .int .u16 0, .int .u16 0]
      have gne : W9.heap.size ≠ g1 := by have := x0.lt; omega
      have sn2 := Blk.rowFar (g' := g1) sn gne #[.string (B y6.s), .bool y6.bad]
      go_upto_region 18 with (first | (refine wpList_store_seg rfl 62 _ _ rfl rfl g1 0 #[.string (B y6.s), .bool y6.bad] #[.string (B y6.s), .bool y6.bad] rfl rfl _ _ x0a (Nat.le_refl 2) (by kernel_rfl) (by kernel_rfl) (by kernel_rfl) ?_) | (refine wpList_store_seg rfl 24 _ _ rfl rfl W9.heap.size 0 (sA su) (sA su) rfl rfl _ _ sn2 (Nat.le_refl 8) (by kernel_rfl) (by kernel_rfl) (by kernel_rfl) ?_))
      replace y0 := Blk.rowFar (g' := W9.heap.size) (Blk.rowFar (g' := g1) y0a (by omega) #[.string (B y6.s), .bool y6.bad]) (by have := y0.lt; omega) (sA su)
      replace x0 := Blk.rowFar (g' := W9.heap.size) (Blk.row (g := g1) x0a #[.string (B y6.s), .bool y6.bad]) (Ne.symm gne) (sA su)
      have q1 := Blk.row (g := W9.heap.size) sn2 (sA su)
      replace hb0 := below_row (below_row (hb0.alloc hb0.size (.cells #[.int .u16 0, .int .u16 0, .int .u16 0, .int .u16 0, .int .u16 0, .int .u16 0, .int .u16 0, .int .u16 0] 24)) (show w.heap.size ≤ g1 by omega) #[.string (B y6.s), .bool y6.bad]) (show w.heap.size ≤ W9.heap.size by omega) (sA su)
      clear sn sn2 gne y0a x0a
      generalize World.setRow _ W9.heap.size (sA su) = W10 at *
      generalize W9.heap.size = g2 at *
      obtain ⟨m2, y7, H7⟩ : ∃ n y, mayR 44 y6 = (n, y) := ⟨_, _, rfl⟩
      have c1 := rsgn_any 44 y6 W10 (Nat.le_trans ly6 (by decide)); have l7 := may_len 44 y6; rw [H7] at c1 l7; replace l7 : y7.s.length ≤ 1000 := Nat.le_trans l7 ly6
      have HE7 := Lib.hid H7; clear H7
      go_wp2_with (refine wpList_row_g rfl 62 _ rfl _ rfl _ _ _ _ x0 Tryd.underlying62 rfl (by kernel_rfl) ?_)
      refine (c1).mono ?_; rintro e W11 ⟨rfl, hb⟩
      replace y0 := y0.below hb y0.lt
      replace x0 := x0.below hb x0.lt
      replace q1 := q1.below hb q1.lt
      replace hb0 := hb0.trans (hb.mono hb0.size); clear hb
      clear c1
      go_upto_region 19 with (refine wpList_store_seg rfl 62 _ _ rfl rfl g1 0 #[.string (B y7.s), .bool y7.bad] #[.string (B y7.s), .bool y7.bad] rfl rfl _ _ x0 (Nat.le_refl 2) (by kernel_rfl) (by kernel_rfl) (by kernel_rfl) ?_)
      replace y0 := Blk.rowFar (g' := g1) y0 (by omega) #[.string (B y7.s), .bool y7.bad]
      replace q1 := Blk.rowFar (g' := g1) q1 (by omega) #[.string (B y7.s), .bool y7.bad]
      replace x0 := Blk.row (g := g1) x0 #[.string (B y7.s), .bool y7.bad]
      replace hb0 := below_row hb0 (show w.heap.size ≤ g1 by omega) #[.string (B y7.s), .bool y7.bad]
      generalize World.setRow _ g1 #[.string (B y7.s), .bool y7.bad] = W12 at *
      obtain ⟨wi, y8, HS2⟩ : ∃ n y, stQ y7 = (n, y) := ⟨_, _, rfl⟩
      have c1 := rstm_any y7 W12 (Nat.le_trans l7 (by decide)); have ly8 := stq_len y7; have bwi := stq_bd y7; rw [HS2] at c1 ly8 bwi; replace ly8 : y8.s.length ≤ 1000 := Nat.le_trans ly8 l7; replace bwi : wi.Bd := bwi
      have HS2h := Lib.hid HS2; clear HS2
      go_wp2_with (refine wpList_row_g rfl 62 _ rfl _ rfl _ _ _ _ x0 Tryd.underlying62 rfl (by kernel_rfl) ?_)
      refine (c1).mono ?_; rintro e W13 ⟨rfl, hb⟩
      replace y0 := y0.below hb y0.lt
      replace x0 := x0.below hb x0.lt
      replace q1 := q1.below hb q1.lt
      replace hb0 := hb0.trans (hb.mono hb0.size); clear hb
      clear c1
      have g3lt : g2 < W13.heap.size := by have := q1.lt; exact this
      have y0a := y0.alloc (.cells #[.int .u16 0, .int .u16 0, .int .u16 0, .int .u16 0, .int .u16 0, .int .u16 0, .int .u16 0, .int .u16 0] 24)
      have x0a := x0.alloc (.cells #[.int .u16 0, .int .u16 0, .int .u16 0, .int .u16 0, .int .u16 0, .int .u16 0, .int .u16 0, .int .u16 0] 24)
      have q1a := q1.alloc (.cells #[.int .u16 0, .int .u16 0, .int .u16 0, .int .u16 0, .int .u16 0, .int .u16 0, .int .u16 0, .int .u16 0] 24)
      have sn := Blk.new W13 24 #[.int .u16 0, .int .u16 0, .int .u16 0, .int .u16 0, .int .u16 0, .int .u16 0, .int .u16 0, .int .u16 0]
      have gne : W13.heap.size ≠ g1 := by have := x0.lt; omega
      have sn2 := Blk.rowFar (g' := g1) sn gne #[.string (B y8.s), .bool y8.bad]
      go_upto_region 20 with (first | (refine wpList_store_seg rfl 62 _ _ rfl rfl g1 0 #[.string (B y8.s), .bool y8.bad] #[.string (B y8.s), .bool y8.bad] rfl rfl _ _ x0a (Nat.le_refl 2) (by kernel_rfl) (by kernel_rfl) (by kernel_rfl) ?_) | (refine wpList_store_seg rfl 24 _ _ rfl rfl W13.heap.size 0 (sA wi) (sA wi) rfl rfl _ _ sn2 (Nat.le_refl 8) (by kernel_rfl) (by kernel_rfl) (by kernel_rfl) ?_))
      replace y0 := Blk.rowFar (g' := W13.heap.size) (Blk.rowFar (g' := g1) y0a (by omega) #[.string (B y8.s), .bool y8.bad]) (by have := y0.lt; omega) (sA wi)
      replace x0 := Blk.rowFar (g' := W13.heap.size) (Blk.row (g := g1) x0a #[.string (B y8.s), .bool y8.bad]) (Ne.symm gne) (sA wi)
      replace q1 := Blk.rowFar (g' := W13.heap.size) (Blk.rowFar (g' := g1) q1a (by omega) #[.string (B y8.s), .bool y8.bad]) (by have := q1.lt; omega) (sA wi)
      have q2 := Blk.row (g := W13.heap.size) sn2 (sA wi)
      replace hb0 := below_row (below_row (hb0.alloc hb0.size (.cells #[.int .u16 0, .int .u16 0, .int .u16 0, .int .u16 0, .int .u16 0, .int .u16 0, .int .u16 0, .int .u16 0] 24)) (show w.heap.size ≤ g1 by omega) #[.string (B y8.s), .bool y8.bad]) (show w.heap.size ≤ W13.heap.size by omega) (sA wi)
      clear sn sn2 gne y0a x0a q1a
      generalize World.setRow _ W13.heap.size (sA wi) = W14 at *
      generalize W13.heap.size = g3 at *
      have hTw := hT.below hT.1 hb0
      have c1 := Rf.rmake_any (-o1) bd wi su W14 hTw bwi bsu (by omega) (by omega)
      rw [mkV_R] at c1
      obtain ⟨r, hR⟩ : ∃ r, mkR (-o1) bd wi su = r := ⟨_, rfl⟩
      obtain ⟨en, hN⟩ : ∃ r, mkE (-o1) bd wi su = r := ⟨_, rfl⟩
      have hBr := mkR_bd (-o1) bd wi su bwi bsu
      rw [hR] at c1 hBr; rw [hN] at c1; have HR := Lib.hid hR; have HN := Lib.hid hN; clear hR hN hTw
      go_wp2_with (first | (refine wpList_row_g rfl 24 _ rfl _ rfl _ _ _ _ q2 Tryd.underlying24 rfl (by kernel_rfl) ?_) | (refine wpList_row_g rfl 24 _ rfl _ rfl _ _ _ _ q1 Tryd.underlying24 rfl (by kernel_rfl) ?_))
      refine (c1).mono ?_; rintro e W15 ⟨rfl, hb⟩
      replace y0 := y0.below hb y0.lt
      replace x0 := x0.below hb x0.lt
      replace q1 := q1.below hb q1.lt
      replace q2 := q2.below hb q2.lt
      replace hb0 := hb0.trans (hb.mono hb0.size); clear hb
      clear c1
      have g4lt : g1 < W15.heap.size := x0.lt
      clear q1 q2 g2lt g3lt
      go_upto_region 21 with (first | (refine wpList_store_new rfl 26 _ _ rfl rfl W15.heap.size r.A rfl rfl _ #[.int .i32 0, .int .i32 0, .int .i32 0, .int .u16 0, .int .u16 0, .int .u16 0, .int .u16 0, .int .u16 0, .int .u16 0, .int .u16 0, .int .u16 0, .int .u16 0, .int .u16 0, .int .u16 0, .int .u16 0, .int .u16 0, .int .u16 0, .int .u16 0, .int .u16 0] W15 rfl rfl rfl (by kernel_rfl) (by kernel_rfl) ?_))
      have rr := Blk.new W15 26 r.A
      replace y0 := y0.alloc (.cells r.A 26)
      replace x0 := x0.alloc (.cells r.A 26)
      have g4n : g1 < W15.heap.size := g4lt
      replace hb0 := hb0.alloc hb0.size (.cells r.A 26)
      generalize W15.alloc (.cells r.A 26) = W16 at *
      generalize W15.heap.size = g4 at *
      obtain ⟨p, hpd⟩ : ∃ p : Pr, p = ⟨r, en, n1, n2, y8⟩ := ⟨_, rfl⟩
      have hp : parQ (L s0) = p := by rw [hpd]; unfold parQ; rw [show (⟨L s0, false⟩ : Rs) = X from HX.out.symm]; (try dsimp only); rw [HE1.out]; (try dsimp only); rw [HE2.out]; (try dsimp only); rw [if_neg HNE.out]; (try dsimp only); rw [HE3.out]; (try dsimp only); rw [HD0.out]; (try dsimp only); rw [HE5.out]; (try dsimp only); rw [HS1h.out]; (try dsimp only); rw [HE7.out]; (try dsimp only); rw [HS2h.out]; (try dsimp only); rw [HR.out, HN.out]
      obtain ⟨rfl, rfl, rfl, rfl, rfl⟩ : r = p.r ∧ en = p.e ∧ n1 = p.n ∧ n2 = p.d ∧ y8 = p.x := by rw [hpd]; exact ⟨rfl, rfl, rfl, rfl, rfl⟩
      have hBp := hBr; have lp1 := k1; have lp2 := k2
      clear hpd HR HN HNE HE1 HE2 HE3 HE5 HE7 HD0 HS1h HS2h HX hBr k1 k2 l1 l2 l3 l5 ly6 l7 ly8 lX b1 wo bb bwi bsu
      have hTw := hT.below hT.1 hb0
      by_cases hE : foE p.r p.n p.d = 0
      · skip
        have hq := rtext_ok p.r (B p.n) (B p.d) W16 hTw hBp (by rw [B_len]; omega) (by rw [B_len]; omega) hE
        rw [show L (B p.n) = p.n from rfl, show L (B p.d) = p.d from rfl] at hq
        obtain ⟨TT, hTT⟩ : ∃ T, B (foT p.r p.n p.d) = T := ⟨_, rfl⟩
        rw [hTT] at hq
        have c1 := Blk.cell x0 1
        cases hbd : p.x.bad with
        | true =>
          have HV := Lib.hid (parVQ_no hp (fun q => by have := q.1; rw [hbd] at this; cases this)).symm
          clear hp
          clear hTT hE
          rcases Bool.eq_false_or_eq_true (p.e != 0) with he | he
          all_goals skip
          · skip
            clear hTw hBp lp1 lp2
            go_wp2_with (refine wpList_row_g rfl 26 _ rfl _ rfl _ _ _ _ rr Tryd.underlying26 rfl (by kernel_rfl) ?_)
            refine (hq).mono ?_; rintro e W17 ⟨rfl, hb⟩
            replace y0 := y0.below hb y0.lt
            replace x0 := x0.below hb x0.lt
            replace rr := rr.below hb rr.lt
            replace hb0 := hb0.trans (hb.mono hb0.size); clear hb
            clear hq
            have cb : W17.cell? ⟨g1, 1, none⟩ = some (.bool p.x.bad) := x0.cell 1
            rw [hbd] at cb; clear hbd
            go_wp2_with (first | (refine wpList_store_seg rfl 26 _ _ rfl rfl w.heap.size 0 #[.int .i32 0, .int .i32 0, .int .i32 0, .int .u16 0, .int .u16 0, .int .u16 0, .int .u16 0, .int .u16 0, .int .u16 0, .int .u16 0, .int .u16 0, .int .u16 0, .int .u16 0, .int .u16 0, .int .u16 0, .int .u16 0, .int .u16 0, .int .u16 0, .int .u16 0] #[.int .i32 0, .int .i32 0, .int .i32 0, .int .u16 0, .int .u16 0, .int .u16 0, .int .u16 0, .int .u16 0, .int .u16 0, .int .u16 0, .int .u16 0, .int .u16 0, .int .u16 0, .int .u16 0, .int .u16 0, .int .u16 0, .int .u16 0, .int .u16 0, .int .u16 0] rfl rfl _ _ y0 (Nat.le_refl 19) (by kernel_rfl) (by kernel_rfl) (by kernel_rfl) ?_))
            all_goals try simp only [Exit.inBlock, Exit.then]
            all_goals refine bodyPost_ret (results_p4 (p := 2) (a := 3) (b := 4) (c := 5) rfl _ _ _ _ _ (.string ⟨#[]⟩) (.string ⟨#[]⟩) (.int .i64 4) rfl rfl rfl rfl (Blk.row y0 #[.int .i32 0, .int .i32 0, .int .i32 0, .int .u16 0, .int .u16 0, .int .u16 0, .int .u16 0, .int .u16 0, .int .u16 0, .int .u16 0, .int .u16 0, .int .u16 0, .int .u16 0, .int .u16 0, .int .u16 0, .int .u16 0, .int .u16 0, .int .u16 0, .int .u16 0]) rfl) rfl ⟨congrArg Ending.returned HV.out, below_row hb0 (Nat.le_refl _) _⟩
          · skip
            clear hTw hBp lp1 lp2
            go_wp2_with (refine wpList_row_g rfl 26 _ rfl _ rfl _ _ _ _ rr Tryd.underlying26 rfl (by kernel_rfl) ?_)
            refine (hq).mono ?_; rintro e W17 ⟨rfl, hb⟩
            replace y0 := y0.below hb y0.lt
            replace x0 := x0.below hb x0.lt
            replace rr := rr.below hb rr.lt
            replace hb0 := hb0.trans (hb.mono hb0.size); clear hb
            clear hq
            have cb : W17.cell? ⟨g1, 1, none⟩ = some (.bool p.x.bad) := x0.cell 1
            rw [hbd] at cb; clear hbd
            go_wp2_with (first | (refine wpList_store_seg rfl 26 _ _ rfl rfl w.heap.size 0 #[.int .i32 0, .int .i32 0, .int .i32 0, .int .u16 0, .int .u16 0, .int .u16 0, .int .u16 0, .int .u16 0, .int .u16 0, .int .u16 0, .int .u16 0, .int .u16 0, .int .u16 0, .int .u16 0, .int .u16 0, .int .u16 0, .int .u16 0, .int .u16 0, .int .u16 0] #[.int .i32 0, .int .i32 0, .int .i32 0, .int .u16 0, .int .u16 0, .int .u16 0, .int .u16 0, .int .u16 0, .int .u16 0, .int .u16 0, .int .u16 0, .int .u16 0, .int .u16 0, .int .u16 0, .int .u16 0, .int .u16 0, .int .u16 0, .int .u16 0, .int .u16 0] rfl rfl _ _ y0 (Nat.le_refl 19) (by kernel_rfl) (by kernel_rfl) (by kernel_rfl) ?_))
            all_goals try simp only [Exit.inBlock, Exit.then]
            all_goals refine bodyPost_ret (results_p4 (p := 2) (a := 3) (b := 4) (c := 5) rfl _ _ _ _ _ (.string ⟨#[]⟩) (.string ⟨#[]⟩) (.int .i64 4) rfl rfl rfl rfl (Blk.row y0 #[.int .i32 0, .int .i32 0, .int .i32 0, .int .u16 0, .int .u16 0, .int .u16 0, .int .u16 0, .int .u16 0, .int .u16 0, .int .u16 0, .int .u16 0, .int .u16 0, .int .u16 0, .int .u16 0, .int .u16 0, .int .u16 0, .int .u16 0, .int .u16 0, .int .u16 0]) rfl) rfl ⟨congrArg Ending.returned HV.out, below_row hb0 (Nat.le_refl _) _⟩
        | false =>
          by_cases he0 : p.e = 0
          · have he : (p.e != 0) = false := by rw [he0]; rfl
            by_cases hc : foT p.r p.n p.d = L s0
            · have HV := Lib.hid (parVQ_yes hp ⟨hbd, he0, hE, hc⟩).symm
              have hTs : TT = s0 := by rw [← hTT, hc, B_L]
              subst hTs
              clear hp hc hTT hE he0
              clear hTw hBp lp1 lp2
              go_wp2_with (refine wpList_row_g rfl 26 _ rfl _ rfl _ _ _ _ rr Tryd.underlying26 rfl (by kernel_rfl) ?_)
              refine (hq).mono ?_; rintro e W17 ⟨rfl, hb⟩
              replace y0 := y0.below hb y0.lt
              replace x0 := x0.below hb x0.lt
              replace rr := rr.below hb rr.lt
              replace hb0 := hb0.trans (hb.mono hb0.size); clear hb
              clear hq
              have cb : W17.cell? ⟨g1, 1, none⟩ = some (.bool p.x.bad) := x0.cell 1
              rw [hbd] at cb; clear hbd
              go_wp2_with (first | (refine wpList_store_seg rfl 26 _ _ rfl rfl w.heap.size 0 p.r.A p.r.A rfl rfl _ _ y0 (Nat.le_refl 19) (by kernel_rfl) (by kernel_rfl) (by kernel_rfl) ?_) | (refine wpList_row_g rfl 26 _ rfl _ rfl _ _ _ _ rr Tryd.underlying26 rfl (by kernel_rfl) ?_))
              all_goals try simp only [Exit.inBlock, Exit.then]
              all_goals refine bodyPost_ret (results_p4 (p := 2) (a := 3) (b := 4) (c := 5) rfl _ _ _ _ _ (.string (B p.n)) (.string (B p.d)) (.int .i64 0) rfl rfl rfl rfl (Blk.row y0 p.r.A) rfl) rfl ⟨congrArg Ending.returned HV.out, below_row hb0 (Nat.le_refl _) _⟩
            · have HV := Lib.hid (parVQ_no hp (fun q => hc q.2.2.2)).symm
              have hts := str_ne (show TT ≠ s0 from fun e => hc (by have := congrArg L (hTT.trans e); exact this))
              clear hp hc hTT hE he0
              clear hTw hBp lp1 lp2
              go_wp2_with (refine wpList_row_g rfl 26 _ rfl _ rfl _ _ _ _ rr Tryd.underlying26 rfl (by kernel_rfl) ?_)
              refine (hq).mono ?_; rintro e W17 ⟨rfl, hb⟩
              replace y0 := y0.below hb y0.lt
              replace x0 := x0.below hb x0.lt
              replace rr := rr.below hb rr.lt
              replace hb0 := hb0.trans (hb.mono hb0.size); clear hb
              clear hq
              have cb : W17.cell? ⟨g1, 1, none⟩ = some (.bool p.x.bad) := x0.cell 1
              rw [hbd] at cb; clear hbd
              go_wp2_with (first | (refine wpList_store_seg rfl 26 _ _ rfl rfl w.heap.size 0 #[.int .i32 0, .int .i32 0, .int .i32 0, .int .u16 0, .int .u16 0, .int .u16 0, .int .u16 0, .int .u16 0, .int .u16 0, .int .u16 0, .int .u16 0, .int .u16 0, .int .u16 0, .int .u16 0, .int .u16 0, .int .u16 0, .int .u16 0, .int .u16 0, .int .u16 0] #[.int .i32 0, .int .i32 0, .int .i32 0, .int .u16 0, .int .u16 0, .int .u16 0, .int .u16 0, .int .u16 0, .int .u16 0, .int .u16 0, .int .u16 0, .int .u16 0, .int .u16 0, .int .u16 0, .int .u16 0, .int .u16 0, .int .u16 0, .int .u16 0, .int .u16 0] rfl rfl _ _ y0 (Nat.le_refl 19) (by kernel_rfl) (by kernel_rfl) (by kernel_rfl) ?_))
              all_goals try simp only [Exit.inBlock, Exit.then]
              all_goals refine bodyPost_ret (results_p4 (p := 2) (a := 3) (b := 4) (c := 5) rfl _ _ _ _ _ (.string ⟨#[]⟩) (.string ⟨#[]⟩) (.int .i64 4) rfl rfl rfl rfl (Blk.row y0 #[.int .i32 0, .int .i32 0, .int .i32 0, .int .u16 0, .int .u16 0, .int .u16 0, .int .u16 0, .int .u16 0, .int .u16 0, .int .u16 0, .int .u16 0, .int .u16 0, .int .u16 0, .int .u16 0, .int .u16 0, .int .u16 0, .int .u16 0, .int .u16 0, .int .u16 0]) rfl) rfl ⟨congrArg Ending.returned HV.out, below_row hb0 (Nat.le_refl _) _⟩
          · have he : (p.e != 0) = true := by rw [bne_iff_ne]; exact he0
            have HV := Lib.hid (parVQ_no hp (fun q => he0 q.2.1)).symm
            clear hp he0
            clear hTT hE
            clear hTw hBp lp1 lp2
            go_wp2_with (refine wpList_row_g rfl 26 _ rfl _ rfl _ _ _ _ rr Tryd.underlying26 rfl (by kernel_rfl) ?_)
            refine (hq).mono ?_; rintro e W17 ⟨rfl, hb⟩
            replace y0 := y0.below hb y0.lt
            replace x0 := x0.below hb x0.lt
            replace rr := rr.below hb rr.lt
            replace hb0 := hb0.trans (hb.mono hb0.size); clear hb
            clear hq
            have cb : W17.cell? ⟨g1, 1, none⟩ = some (.bool p.x.bad) := x0.cell 1
            rw [hbd] at cb; clear hbd
            go_wp2_with (first | (refine wpList_store_seg rfl 26 _ _ rfl rfl w.heap.size 0 #[.int .i32 0, .int .i32 0, .int .i32 0, .int .u16 0, .int .u16 0, .int .u16 0, .int .u16 0, .int .u16 0, .int .u16 0, .int .u16 0, .int .u16 0, .int .u16 0, .int .u16 0, .int .u16 0, .int .u16 0, .int .u16 0, .int .u16 0, .int .u16 0, .int .u16 0] #[.int .i32 0, .int .i32 0, .int .i32 0, .int .u16 0, .int .u16 0, .int .u16 0, .int .u16 0, .int .u16 0, .int .u16 0, .int .u16 0, .int .u16 0, .int .u16 0, .int .u16 0, .int .u16 0, .int .u16 0, .int .u16 0, .int .u16 0, .int .u16 0, .int .u16 0] rfl rfl _ _ y0 (Nat.le_refl 19) (by kernel_rfl) (by kernel_rfl) (by kernel_rfl) ?_))
            all_goals try simp only [Exit.inBlock, Exit.then]
            all_goals refine bodyPost_ret (results_p4 (p := 2) (a := 3) (b := 4) (c := 5) rfl _ _ _ _ _ (.string ⟨#[]⟩) (.string ⟨#[]⟩) (.int .i64 4) rfl rfl rfl rfl (Blk.row y0 #[.int .i32 0, .int .i32 0, .int .i32 0, .int .u16 0, .int .u16 0, .int .u16 0, .int .u16 0, .int .u16 0, .int .u16 0, .int .u16 0, .int .u16 0, .int .u16 0, .int .u16 0, .int .u16 0, .int .u16 0, .int .u16 0, .int .u16 0, .int .u16 0, .int .u16 0]) rfl) rfl ⟨congrArg Ending.returned HV.out, below_row hb0 (Nat.le_refl _) _⟩
      · skip
        have hq := rtext_no p.r (B p.n) (B p.d) W16 hTw hBp (by rw [B_len]; omega) (by rw [B_len]; omega) hE
        rw [show L (B p.n) = p.n from rfl, show L (B p.d) = p.d from rfl] at hq
        have c1 := Blk.cell x0 1
        cases hbd : p.x.bad with
        | true =>
          have HV := Lib.hid (parVQ_no hp (fun q => by have := q.1; rw [hbd] at this; cases this)).symm
          clear hp
          rcases Bool.eq_false_or_eq_true (p.e != 0) with he | he
          all_goals skip
          · skip
            clear hTw hBp lp1 lp2
            have hEb : (foE p.r p.n p.d != 0) = true := by rw [bne_iff_ne]; exact hE
            generalize foE p.r p.n p.d = E at *
            clear hE
            go_wp2_with (refine wpList_row_g rfl 26 _ rfl _ rfl _ _ _ _ rr Tryd.underlying26 rfl (by kernel_rfl) ?_)
            refine (hq).mono ?_; rintro e W17 ⟨rfl, hb⟩
            replace y0 := y0.below hb y0.lt
            replace x0 := x0.below hb x0.lt
            replace rr := rr.below hb rr.lt
            replace hb0 := hb0.trans (hb.mono hb0.size); clear hb
            clear hq
            have cb : W17.cell? ⟨g1, 1, none⟩ = some (.bool p.x.bad) := x0.cell 1
            rw [hbd] at cb; clear hbd
            go_wp2_with (first | (refine wpList_store_seg rfl 26 _ _ rfl rfl w.heap.size 0 #[.int .i32 0, .int .i32 0, .int .i32 0, .int .u16 0, .int .u16 0, .int .u16 0, .int .u16 0, .int .u16 0, .int .u16 0, .int .u16 0, .int .u16 0, .int .u16 0, .int .u16 0, .int .u16 0, .int .u16 0, .int .u16 0, .int .u16 0, .int .u16 0, .int .u16 0] #[.int .i32 0, .int .i32 0, .int .i32 0, .int .u16 0, .int .u16 0, .int .u16 0, .int .u16 0, .int .u16 0, .int .u16 0, .int .u16 0, .int .u16 0, .int .u16 0, .int .u16 0, .int .u16 0, .int .u16 0, .int .u16 0, .int .u16 0, .int .u16 0, .int .u16 0] rfl rfl _ _ y0 (Nat.le_refl 19) (by kernel_rfl) (by kernel_rfl) (by kernel_rfl) ?_))
            all_goals try simp only [Exit.inBlock, Exit.then]
            all_goals refine bodyPost_ret (results_p4 (p := 2) (a := 3) (b := 4) (c := 5) rfl _ _ _ _ _ (.string ⟨#[]⟩) (.string ⟨#[]⟩) (.int .i64 4) rfl rfl rfl rfl (Blk.row y0 #[.int .i32 0, .int .i32 0, .int .i32 0, .int .u16 0, .int .u16 0, .int .u16 0, .int .u16 0, .int .u16 0, .int .u16 0, .int .u16 0, .int .u16 0, .int .u16 0, .int .u16 0, .int .u16 0, .int .u16 0, .int .u16 0, .int .u16 0, .int .u16 0, .int .u16 0]) rfl) rfl ⟨congrArg Ending.returned HV.out, below_row hb0 (Nat.le_refl _) _⟩
          · skip
            clear hTw hBp lp1 lp2
            have hEb : (foE p.r p.n p.d != 0) = true := by rw [bne_iff_ne]; exact hE
            generalize foE p.r p.n p.d = E at *
            clear hE
            go_wp2_with (refine wpList_row_g rfl 26 _ rfl _ rfl _ _ _ _ rr Tryd.underlying26 rfl (by kernel_rfl) ?_)
            refine (hq).mono ?_; rintro e W17 ⟨rfl, hb⟩
            replace y0 := y0.below hb y0.lt
            replace x0 := x0.below hb x0.lt
            replace rr := rr.below hb rr.lt
            replace hb0 := hb0.trans (hb.mono hb0.size); clear hb
            clear hq
            have cb : W17.cell? ⟨g1, 1, none⟩ = some (.bool p.x.bad) := x0.cell 1
            rw [hbd] at cb; clear hbd
            go_wp2_with (first | (refine wpList_store_seg rfl 26 _ _ rfl rfl w.heap.size 0 #[.int .i32 0, .int .i32 0, .int .i32 0, .int .u16 0, .int .u16 0, .int .u16 0, .int .u16 0, .int .u16 0, .int .u16 0, .int .u16 0, .int .u16 0, .int .u16 0, .int .u16 0, .int .u16 0, .int .u16 0, .int .u16 0, .int .u16 0, .int .u16 0, .int .u16 0] #[.int .i32 0, .int .i32 0, .int .i32 0, .int .u16 0, .int .u16 0, .int .u16 0, .int .u16 0, .int .u16 0, .int .u16 0, .int .u16 0, .int .u16 0, .int .u16 0, .int .u16 0, .int .u16 0, .int .u16 0, .int .u16 0, .int .u16 0, .int .u16 0, .int .u16 0] rfl rfl _ _ y0 (Nat.le_refl 19) (by kernel_rfl) (by kernel_rfl) (by kernel_rfl) ?_))
            all_goals try simp only [Exit.inBlock, Exit.then]
            all_goals refine bodyPost_ret (results_p4 (p := 2) (a := 3) (b := 4) (c := 5) rfl _ _ _ _ _ (.string ⟨#[]⟩) (.string ⟨#[]⟩) (.int .i64 4) rfl rfl rfl rfl (Blk.row y0 #[.int .i32 0, .int .i32 0, .int .i32 0, .int .u16 0, .int .u16 0, .int .u16 0, .int .u16 0, .int .u16 0, .int .u16 0, .int .u16 0, .int .u16 0, .int .u16 0, .int .u16 0, .int .u16 0, .int .u16 0, .int .u16 0, .int .u16 0, .int .u16 0, .int .u16 0]) rfl) rfl ⟨congrArg Ending.returned HV.out, below_row hb0 (Nat.le_refl _) _⟩
        | false =>
          by_cases he0 : p.e = 0
          · have he : (p.e != 0) = false := by rw [he0]; rfl
            have HV := Lib.hid (parVQ_no hp (fun q => hE q.2.2.1)).symm
            clear hp he0
            clear hTw hBp lp1 lp2
            have hEb : (foE p.r p.n p.d != 0) = true := by rw [bne_iff_ne]; exact hE
            generalize foE p.r p.n p.d = E at *
            clear hE
            go_wp2_with (refine wpList_row_g rfl 26 _ rfl _ rfl _ _ _ _ rr Tryd.underlying26 rfl (by kernel_rfl) ?_)
            refine (hq).mono ?_; rintro e W17 ⟨rfl, hb⟩
            replace y0 := y0.below hb y0.lt
            replace x0 := x0.below hb x0.lt
            replace rr := rr.below hb rr.lt
            replace hb0 := hb0.trans (hb.mono hb0.size); clear hb
            clear hq
            have cb : W17.cell? ⟨g1, 1, none⟩ = some (.bool p.x.bad) := x0.cell 1
            rw [hbd] at cb; clear hbd
            go_wp2_with (first | (refine wpList_store_seg rfl 26 _ _ rfl rfl w.heap.size 0 #[.int .i32 0, .int .i32 0, .int .i32 0, .int .u16 0, .int .u16 0, .int .u16 0, .int .u16 0, .int .u16 0, .int .u16 0, .int .u16 0, .int .u16 0, .int .u16 0, .int .u16 0, .int .u16 0, .int .u16 0, .int .u16 0, .int .u16 0, .int .u16 0, .int .u16 0] #[.int .i32 0, .int .i32 0, .int .i32 0, .int .u16 0, .int .u16 0, .int .u16 0, .int .u16 0, .int .u16 0, .int .u16 0, .int .u16 0, .int .u16 0, .int .u16 0, .int .u16 0, .int .u16 0, .int .u16 0, .int .u16 0, .int .u16 0, .int .u16 0, .int .u16 0] rfl rfl _ _ y0 (Nat.le_refl 19) (by kernel_rfl) (by kernel_rfl) (by kernel_rfl) ?_))
            all_goals try simp only [Exit.inBlock, Exit.then]
            all_goals refine bodyPost_ret (results_p4 (p := 2) (a := 3) (b := 4) (c := 5) rfl _ _ _ _ _ (.string ⟨#[]⟩) (.string ⟨#[]⟩) (.int .i64 4) rfl rfl rfl rfl (Blk.row y0 #[.int .i32 0, .int .i32 0, .int .i32 0, .int .u16 0, .int .u16 0, .int .u16 0, .int .u16 0, .int .u16 0, .int .u16 0, .int .u16 0, .int .u16 0, .int .u16 0, .int .u16 0, .int .u16 0, .int .u16 0, .int .u16 0, .int .u16 0, .int .u16 0, .int .u16 0]) rfl) rfl ⟨congrArg Ending.returned HV.out, below_row hb0 (Nat.le_refl _) _⟩
          · have he : (p.e != 0) = true := by rw [bne_iff_ne]; exact he0
            have HV := Lib.hid (parVQ_no hp (fun q => he0 q.2.1)).symm
            clear hp he0
            clear hTw hBp lp1 lp2
            have hEb : (foE p.r p.n p.d != 0) = true := by rw [bne_iff_ne]; exact hE
            generalize foE p.r p.n p.d = E at *
            clear hE
            go_wp2_with (refine wpList_row_g rfl 26 _ rfl _ rfl _ _ _ _ rr Tryd.underlying26 rfl (by kernel_rfl) ?_)
            refine (hq).mono ?_; rintro e W17 ⟨rfl, hb⟩
            replace y0 := y0.below hb y0.lt
            replace x0 := x0.below hb x0.lt
            replace rr := rr.below hb rr.lt
            replace hb0 := hb0.trans (hb.mono hb0.size); clear hb
            clear hq
            have cb : W17.cell? ⟨g1, 1, none⟩ = some (.bool p.x.bad) := x0.cell 1
            rw [hbd] at cb; clear hbd
            go_wp2_with (first | (refine wpList_store_seg rfl 26 _ _ rfl rfl w.heap.size 0 #[.int .i32 0, .int .i32 0, .int .i32 0, .int .u16 0, .int .u16 0, .int .u16 0, .int .u16 0, .int .u16 0, .int .u16 0, .int .u16 0, .int .u16 0, .int .u16 0, .int .u16 0, .int .u16 0, .int .u16 0, .int .u16 0, .int .u16 0, .int .u16 0, .int .u16 0] #[.int .i32 0, .int .i32 0, .int .i32 0, .int .u16 0, .int .u16 0, .int .u16 0, .int .u16 0, .int .u16 0, .int .u16 0, .int .u16 0, .int .u16 0, .int .u16 0, .int .u16 0, .int .u16 0, .int .u16 0, .int .u16 0, .int .u16 0, .int .u16 0, .int .u16 0] rfl rfl _ _ y0 (Nat.le_refl 19) (by kernel_rfl) (by kernel_rfl) (by kernel_rfl) ?_))
            all_goals try simp only [Exit.inBlock, Exit.then]
            all_goals refine bodyPost_ret (results_p4 (p := 2) (a := 3) (b := 4) (c := 5) rfl _ _ _ _ _ (.string ⟨#[]⟩) (.string ⟨#[]⟩) (.int .i64 4) rfl rfl rfl rfl (Blk.row y0 #[.int .i32 0, .int .i32 0, .int .i32 0, .int .u16 0, .int .u16 0, .int .u16 0, .int .u16 0, .int .u16 0, .int .u16 0, .int .u16 0, .int .u16 0, .int .u16 0, .int .u16 0, .int .u16 0, .int .u16 0, .int .u16 0, .int .u16 0, .int .u16 0, .int .u16 0]) rfl) rfl ⟨congrArg Ending.returned HV.out, below_row hb0 (Nat.le_refl _) _⟩
    · skip
      have ce : W6.cell? ⟨g1, 0, none⟩ = some (.string (B y3.s)) := x0.cell 0
      have hsz : 0 < (B y3.s).size := by rw [B_len, hw]; simp
      have hszI : (0 : Int) < ((B y3.s).size : Int) := by omega
      have he1 : ((B y3.s).toList == []) = false := by rw [Lib.toList_data, beq_eq_false_iff_ne]; intro e; rw [show (B y3.s).data.toList = y3.s from rfl, hw] at e; cases e
      have he2 : (B y3.s).toList.isEmpty = false := by
        cases q : (B y3.s).toList with
        | nil => rw [q] at he1; cases he1
        | cons _ _ => rfl
      have he3 : y3.s.isEmpty = false := by rw [hw]; rfl
      have he4 : ¬ y3.s = [] := by rw [hw]; simp
      have hb0v : (B y3.s)[0] = 44 := by show (L (B y3.s))[0] = _; have : L (B y3.s) = 44 :: r9 := hw; simp only [this]; rfl
      have hcI : (((B y3.s)[0].toNat : Int) != 44) = false := by rw [hb0v]; rfl
      have HD0 := Lib.hid (show dstQ (-o1) y3 = (-o1 + 3600, y3) by unfold dstQ; rw [if_pos (.inr (by unfold mayR; rw [hw]; simp))])
      clear hb0v
      clear hw
      obtain ⟨bd, hbd⟩ : ∃ bd, bd = -o1 + 3600 := ⟨_, rfl⟩
      have bb : -200000000 ≤ bd ∧ bd ≤ 200000000 := by omega
      go_upto_region 16 with fail
      rw [← hbd] at HD0 ⊢
      try rw [← hbd] at wq
      try rw [← hbd] at wr2
      clear hbd ce he1 he2 he3 he4 hcI hszI hsz
      try clear wq
      try clear wr2
      obtain ⟨m1, y5, H5⟩ : ∃ n y, mayR 44 y3 = (n, y) := ⟨_, _, rfl⟩
      have c1 := rsgn_any 44 y3 W6 (Nat.le_trans l3 (by decide)); have l5 := may_len 44 y3; rw [H5] at c1 l5; replace l5 : y5.s.length ≤ 1000 := Nat.le_trans l5 l3
      have HE5 := Lib.hid H5; clear H5
      go_wp2_with (refine wpList_row_g rfl 62 _ rfl _ rfl _ _ _ _ x0 Tryd.underlying62 rfl (by kernel_rfl) ?_)
      refine (c1).mono ?_; rintro e W7 ⟨rfl, hb⟩
      replace y0 := y0.below hb y0.lt
      replace x0 := x0.below hb x0.lt
      replace hb0 := hb0.trans (hb.mono hb0.size); clear hb
      clear c1
      go_upto_region 17 with (refine wpList_store_seg rfl 62 _ _ rfl rfl g1 0 #[.string (B y5.s), .bool y5.bad] #[.string (B y5.s), .bool y5.bad] rfl rfl _ _ x0 (Nat.le_refl 2) (by kernel_rfl) (by kernel_rfl) (by kernel_rfl) ?_)
      replace y0 := Blk.rowFar (g' := g1) y0 (by omega) #[.string (B y5.s), .bool y5.bad]
      replace x0 := Blk.row (g := g1) x0 #[.string (B y5.s), .bool y5.bad]
      replace hb0 := below_row hb0 (show w.heap.size ≤ g1 by omega) #[.string (B y5.s), .bool y5.bad]
      generalize World.setRow _ g1 #[.string (B y5.s), .bool y5.bad] = W8 at *
      obtain ⟨su, y6, HS1⟩ : ∃ n y, stQ y5 = (n, y) := ⟨_, _, rfl⟩
      have c1 := rstm_any y5 W8 (Nat.le_trans l5 (by decide)); have ly6 := stq_len y5; have bsu := stq_bd y5; rw [HS1] at c1 ly6 bsu; replace ly6 : y6.s.length ≤ 1000 := Nat.le_trans ly6 l5; replace bsu : su.Bd := bsu
      have HS1h := Lib.hid HS1; clear HS1
      go_wp2_with (refine wpList_row_g rfl 62 _ rfl _ rfl _ _ _ _ x0 Tryd.underlying62 rfl (by kernel_rfl) ?_)
      refine (c1).mono ?_; rintro e W9 ⟨rfl, hb⟩
      replace y0 := y0.below hb y0.lt
      replace x0 := x0.below hb x0.lt
      replace hb0 := hb0.trans (hb.mono hb0.size); clear hb
      clear c1
      have g2lt : g1 < W9.heap.size := by have := x0.lt; exact this
      have y0a := y0.alloc (.cells #[.int .u16 0, .int .u16 0, .int .u16 0, .int .u16 0, .int .u16 0, .int .u16 0, .int .u16 0, .int .u16 0] 24)
      have x0a := x0.alloc (.cells #[.int .u16 0, .int .u16 0, .int .u16 0, .int .u16 0, .int .u16 0, .int .u16 0, .int .u16 0, .int .u16 0] 24)
      have sn := Blk.new W9 24 #[.int .u16 0, .int .u16 0, .int .u16 0, .int .u16 0, .int .u16 0, .int .u16 0, .int .u16 0, .int .u16 0]
      have gne : W9.heap.size ≠ g1 := by have := x0.lt; omega
      have sn2 := Blk.rowFar (g' := g1) sn gne #[.string (B y6.s), .bool y6.bad]
      go_upto_region 18 with (first | (refine wpList_store_seg rfl 62 _ _ rfl rfl g1 0 #[.string (B y6.s), .bool y6.bad] #[.string (B y6.s), .bool y6.bad] rfl rfl _ _ x0a (Nat.le_refl 2) (by kernel_rfl) (by kernel_rfl) (by kernel_rfl) ?_) | (refine wpList_store_seg rfl 24 _ _ rfl rfl W9.heap.size 0 (sA su) (sA su) rfl rfl _ _ sn2 (Nat.le_refl 8) (by kernel_rfl) (by kernel_rfl) (by kernel_rfl) ?_))
      replace y0 := Blk.rowFar (g' := W9.heap.size) (Blk.rowFar (g' := g1) y0a (by omega) #[.string (B y6.s), .bool y6.bad]) (by have := y0.lt; omega) (sA su)
      replace x0 := Blk.rowFar (g' := W9.heap.size) (Blk.row (g := g1) x0a #[.string (B y6.s), .bool y6.bad]) (Ne.symm gne) (sA su)
      have q1 := Blk.row (g := W9.heap.size) sn2 (sA su)
      replace hb0 := below_row (below_row (hb0.alloc hb0.size (.cells #[.int .u16 0, .int .u16 0, .int .u16 0, .int .u16 0, .int .u16 0, .int .u16 0, .int .u16 0, .int .u16 0] 24)) (show w.heap.size ≤ g1 by omega) #[.string (B y6.s), .bool y6.bad]) (show w.heap.size ≤ W9.heap.size by omega) (sA su)
      clear sn sn2 gne y0a x0a
      generalize World.setRow _ W9.heap.size (sA su) = W10 at *
      generalize W9.heap.size = g2 at *
      obtain ⟨m2, y7, H7⟩ : ∃ n y, mayR 44 y6 = (n, y) := ⟨_, _, rfl⟩
      have c1 := rsgn_any 44 y6 W10 (Nat.le_trans ly6 (by decide)); have l7 := may_len 44 y6; rw [H7] at c1 l7; replace l7 : y7.s.length ≤ 1000 := Nat.le_trans l7 ly6
      have HE7 := Lib.hid H7; clear H7
      go_wp2_with (refine wpList_row_g rfl 62 _ rfl _ rfl _ _ _ _ x0 Tryd.underlying62 rfl (by kernel_rfl) ?_)
      refine (c1).mono ?_; rintro e W11 ⟨rfl, hb⟩
      replace y0 := y0.below hb y0.lt
      replace x0 := x0.below hb x0.lt
      replace q1 := q1.below hb q1.lt
      replace hb0 := hb0.trans (hb.mono hb0.size); clear hb
      clear c1
      go_upto_region 19 with (refine wpList_store_seg rfl 62 _ _ rfl rfl g1 0 #[.string (B y7.s), .bool y7.bad] #[.string (B y7.s), .bool y7.bad] rfl rfl _ _ x0 (Nat.le_refl 2) (by kernel_rfl) (by kernel_rfl) (by kernel_rfl) ?_)
      replace y0 := Blk.rowFar (g' := g1) y0 (by omega) #[.string (B y7.s), .bool y7.bad]
      replace q1 := Blk.rowFar (g' := g1) q1 (by omega) #[.string (B y7.s), .bool y7.bad]
      replace x0 := Blk.row (g := g1) x0 #[.string (B y7.s), .bool y7.bad]
      replace hb0 := below_row hb0 (show w.heap.size ≤ g1 by omega) #[.string (B y7.s), .bool y7.bad]
      generalize World.setRow _ g1 #[.string (B y7.s), .bool y7.bad] = W12 at *
      obtain ⟨wi, y8, HS2⟩ : ∃ n y, stQ y7 = (n, y) := ⟨_, _, rfl⟩
      have c1 := rstm_any y7 W12 (Nat.le_trans l7 (by decide)); have ly8 := stq_len y7; have bwi := stq_bd y7; rw [HS2] at c1 ly8 bwi; replace ly8 : y8.s.length ≤ 1000 := Nat.le_trans ly8 l7; replace bwi : wi.Bd := bwi
      have HS2h := Lib.hid HS2; clear HS2
      go_wp2_with (refine wpList_row_g rfl 62 _ rfl _ rfl _ _ _ _ x0 Tryd.underlying62 rfl (by kernel_rfl) ?_)
      refine (c1).mono ?_; rintro e W13 ⟨rfl, hb⟩
      replace y0 := y0.below hb y0.lt
      replace x0 := x0.below hb x0.lt
      replace q1 := q1.below hb q1.lt
      replace hb0 := hb0.trans (hb.mono hb0.size); clear hb
      clear c1
      have g3lt : g2 < W13.heap.size := by have := q1.lt; exact this
      have y0a := y0.alloc (.cells #[.int .u16 0, .int .u16 0, .int .u16 0, .int .u16 0, .int .u16 0, .int .u16 0, .int .u16 0, .int .u16 0] 24)
      have x0a := x0.alloc (.cells #[.int .u16 0, .int .u16 0, .int .u16 0, .int .u16 0, .int .u16 0, .int .u16 0, .int .u16 0, .int .u16 0] 24)
      have q1a := q1.alloc (.cells #[.int .u16 0, .int .u16 0, .int .u16 0, .int .u16 0, .int .u16 0, .int .u16 0, .int .u16 0, .int .u16 0] 24)
      have sn := Blk.new W13 24 #[.int .u16 0, .int .u16 0, .int .u16 0, .int .u16 0, .int .u16 0, .int .u16 0, .int .u16 0, .int .u16 0]
      have gne : W13.heap.size ≠ g1 := by have := x0.lt; omega
      have sn2 := Blk.rowFar (g' := g1) sn gne #[.string (B y8.s), .bool y8.bad]
      go_upto_region 20 with (first | (refine wpList_store_seg rfl 62 _ _ rfl rfl g1 0 #[.string (B y8.s), .bool y8.bad] #[.string (B y8.s), .bool y8.bad] rfl rfl _ _ x0a (Nat.le_refl 2) (by kernel_rfl) (by kernel_rfl) (by kernel_rfl) ?_) | (refine wpList_store_seg rfl 24 _ _ rfl rfl W13.heap.size 0 (sA wi) (sA wi) rfl rfl _ _ sn2 (Nat.le_refl 8) (by kernel_rfl) (by kernel_rfl) (by kernel_rfl) ?_))
      replace y0 := Blk.rowFar (g' := W13.heap.size) (Blk.rowFar (g' := g1) y0a (by omega) #[.string (B y8.s), .bool y8.bad]) (by have := y0.lt; omega) (sA wi)
      replace x0 := Blk.rowFar (g' := W13.heap.size) (Blk.row (g := g1) x0a #[.string (B y8.s), .bool y8.bad]) (Ne.symm gne) (sA wi)
      replace q1 := Blk.rowFar (g' := W13.heap.size) (Blk.rowFar (g' := g1) q1a (by omega) #[.string (B y8.s), .bool y8.bad]) (by have := q1.lt; omega) (sA wi)
      have q2 := Blk.row (g := W13.heap.size) sn2 (sA wi)
      replace hb0 := below_row (below_row (hb0.alloc hb0.size (.cells #[.int .u16 0, .int .u16 0, .int .u16 0, .int .u16 0, .int .u16 0, .int .u16 0, .int .u16 0, .int .u16 0] 24)) (show w.heap.size ≤ g1 by omega) #[.string (B y8.s), .bool y8.bad]) (show w.heap.size ≤ W13.heap.size by omega) (sA wi)
      clear sn sn2 gne y0a x0a q1a
      generalize World.setRow _ W13.heap.size (sA wi) = W14 at *
      generalize W13.heap.size = g3 at *
      have hTw := hT.below hT.1 hb0
      have c1 := Rf.rmake_any (-o1) bd wi su W14 hTw bwi bsu (by omega) (by omega)
      rw [mkV_R] at c1
      obtain ⟨r, hR⟩ : ∃ r, mkR (-o1) bd wi su = r := ⟨_, rfl⟩
      obtain ⟨en, hN⟩ : ∃ r, mkE (-o1) bd wi su = r := ⟨_, rfl⟩
      have hBr := mkR_bd (-o1) bd wi su bwi bsu
      rw [hR] at c1 hBr; rw [hN] at c1; have HR := Lib.hid hR; have HN := Lib.hid hN; clear hR hN hTw
      go_wp2_with (first | (refine wpList_row_g rfl 24 _ rfl _ rfl _ _ _ _ q2 Tryd.underlying24 rfl (by kernel_rfl) ?_) | (refine wpList_row_g rfl 24 _ rfl _ rfl _ _ _ _ q1 Tryd.underlying24 rfl (by kernel_rfl) ?_))
      refine (c1).mono ?_; rintro e W15 ⟨rfl, hb⟩
      replace y0 := y0.below hb y0.lt
      replace x0 := x0.below hb x0.lt
      replace q1 := q1.below hb q1.lt
      replace q2 := q2.below hb q2.lt
      replace hb0 := hb0.trans (hb.mono hb0.size); clear hb
      clear c1
      have g4lt : g1 < W15.heap.size := x0.lt
      clear q1 q2 g2lt g3lt
      go_upto_region 21 with (first | (refine wpList_store_new rfl 26 _ _ rfl rfl W15.heap.size r.A rfl rfl _ #[.int .i32 0, .int .i32 0, .int .i32 0, .int .u16 0, .int .u16 0, .int .u16 0, .int .u16 0, .int .u16 0, .int .u16 0, .int .u16 0, .int .u16 0, .int .u16 0, .int .u16 0, .int .u16 0, .int .u16 0, .int .u16 0, .int .u16 0, .int .u16 0, .int .u16 0] W15 rfl rfl rfl (by kernel_rfl) (by kernel_rfl) ?_))
      have rr := Blk.new W15 26 r.A
      replace y0 := y0.alloc (.cells r.A 26)
      replace x0 := x0.alloc (.cells r.A 26)
      have g4n : g1 < W15.heap.size := g4lt
      replace hb0 := hb0.alloc hb0.size (.cells r.A 26)
      generalize W15.alloc (.cells r.A 26) = W16 at *
      generalize W15.heap.size = g4 at *
      obtain ⟨p, hpd⟩ : ∃ p : Pr, p = ⟨r, en, n1, n2, y8⟩ := ⟨_, rfl⟩
      have hp : parQ (L s0) = p := by rw [hpd]; unfold parQ; rw [show (⟨L s0, false⟩ : Rs) = X from HX.out.symm]; (try dsimp only); rw [HE1.out]; (try dsimp only); rw [HE2.out]; (try dsimp only); rw [if_neg HNE.out]; (try dsimp only); rw [HE3.out]; (try dsimp only); rw [HD0.out]; (try dsimp only); rw [HE5.out]; (try dsimp only); rw [HS1h.out]; (try dsimp only); rw [HE7.out]; (try dsimp only); rw [HS2h.out]; (try dsimp only); rw [HR.out, HN.out]
      obtain ⟨rfl, rfl, rfl, rfl, rfl⟩ : r = p.r ∧ en = p.e ∧ n1 = p.n ∧ n2 = p.d ∧ y8 = p.x := by rw [hpd]; exact ⟨rfl, rfl, rfl, rfl, rfl⟩
      have hBp := hBr; have lp1 := k1; have lp2 := k2
      clear hpd HR HN HNE HE1 HE2 HE3 HE5 HE7 HD0 HS1h HS2h HX hBr k1 k2 l1 l2 l3 l5 ly6 l7 ly8 lX b1 wo bb bwi bsu
      have hTw := hT.below hT.1 hb0
      by_cases hE : foE p.r p.n p.d = 0
      · skip
        have hq := rtext_ok p.r (B p.n) (B p.d) W16 hTw hBp (by rw [B_len]; omega) (by rw [B_len]; omega) hE
        rw [show L (B p.n) = p.n from rfl, show L (B p.d) = p.d from rfl] at hq
        obtain ⟨TT, hTT⟩ : ∃ T, B (foT p.r p.n p.d) = T := ⟨_, rfl⟩
        rw [hTT] at hq
        have c1 := Blk.cell x0 1
        cases hbd : p.x.bad with
        | true =>
          have HV := Lib.hid (parVQ_no hp (fun q => by have := q.1; rw [hbd] at this; cases this)).symm
          clear hp
          clear hTT hE
          rcases Bool.eq_false_or_eq_true (p.e != 0) with he | he
          all_goals skip
          · skip
            clear hTw hBp lp1 lp2
            go_wp2_with (refine wpList_row_g rfl 26 _ rfl _ rfl _ _ _ _ rr Tryd.underlying26 rfl (by kernel_rfl) ?_)
            refine (hq).mono ?_; rintro e W17 ⟨rfl, hb⟩
            replace y0 := y0.below hb y0.lt
            replace x0 := x0.below hb x0.lt
            replace rr := rr.below hb rr.lt
            replace hb0 := hb0.trans (hb.mono hb0.size); clear hb
            clear hq
            have cb : W17.cell? ⟨g1, 1, none⟩ = some (.bool p.x.bad) := x0.cell 1
            rw [hbd] at cb; clear hbd
            go_wp2_with (first | (refine wpList_store_seg rfl 26 _ _ rfl rfl w.heap.size 0 #[.int .i32 0, .int .i32 0, .int .i32 0, .int .u16 0, .int .u16 0, .int .u16 0, .int .u16 0, .int .u16 0, .int .u16 0, .int .u16 0, .int .u16 0, .int .u16 0, .int .u16 0, .int .u16 0, .int .u16 0, .int .u16 0, .int .u16 0, .int .u16 0, .int .u16 0] #[.int .i32 0, .int .i32 0, .int .i32 0, .int .u16 0, .int .u16 0, .int .u16 0, .int .u16 0, .int .u16 0, .int .u16 0, .int .u16 0, .int .u16 0, .int .u16 0, .int .u16 0, .int .u16 0, .int .u16 0, .int .u16 0, .int .u16 0, .int .u16 0, .int .u16 0] rfl rfl _ _ y0 (Nat.le_refl 19) (by kernel_rfl) (by kernel_rfl) (by kernel_rfl) ?_))
            all_goals try simp only [Exit.inBlock, Exit.then]
            all_goals refine bodyPost_ret (results_p4 (p := 2) (a := 3) (b := 4) (c := 5) rfl _ _ _ _ _ (.string ⟨#[]⟩) (.string ⟨#[]⟩) (.int .i64 4) rfl rfl rfl rfl (Blk.row y0 #[.int .i32 0, .int .i32 0, .int .i32 0, .int .u16 0, .int .u16 0, .int .u16 0, .int .u16 0, .int .u16 0, .int .u16 0, .int .u16 0, .int .u16 0, .int .u16 0, .int .u16 0, .int .u16 0, .int .u16 0, .int .u16 0, .int .u16 0, .int .u16 0, .int .u16 0]) rfl) rfl ⟨congrArg Ending.returned HV.out, below_row hb0 (Nat.le_refl _) _⟩
          · skip
            clear hTw hBp lp1 lp2
            go_wp2_with (refine wpList_row_g rfl 26 _ rfl _ rfl _ _ _ _ rr Tryd.underlying26 rfl (by kernel_rfl) ?_)
            refine (hq).mono ?_; rintro e W17 ⟨rfl, hb⟩
            replace y0 := y0.below hb y0.lt
            replace x0 := x0.below hb x0.lt
            replace rr := rr.below hb rr.lt
            replace hb0 := hb0.trans (hb.mono hb0.size); clear hb
            clear hq
            have cb : W17.cell? ⟨g1, 1, none⟩ = some (.bool p.x.bad) := x0.cell 1
            rw [hbd] at cb; clear hbd
            go_wp2_with (first | (refine wpList_store_seg rfl 26 _ _ rfl rfl w.heap.size 0 #[.int .i32 0, .int .i32 0, .int .i32 0, .int .u16 0, .int .u16 0, .int .u16 0, .int .u16 0, .int .u16 0, .int .u16 0, .int .u16 0, .int .u16 0, .int .u16 0, .int .u16 0, .int .u16 0, .int .u16 0, .int .u16 0, .int .u16 0, .int .u16 0, .int .u16 0] #[.int .i32 0, .int .i32 0, .int .i32 0, .int .u16 0, .int .u16 0, .int .u16 0, .int .u16 0, .int .u16 0, .int .u16 0, .int .u16 0, .int .u16 0, .int .u16 0, .int .u16 0, .int .u16 0, .int .u16 0, .int .u16 0, .int .u16 0, .int .u16 0, .int .u16 0] rfl rfl _ _ y0 (Nat.le_refl 19) (by kernel_rfl) (by kernel_rfl) (by kernel_rfl) ?_))
            all_goals try simp only [Exit.inBlock, Exit.then]
            all_goals refine bodyPost_ret (results_p4 (p := 2) (a := 3) (b := 4) (c := 5) rfl _ _ _ _ _ (.string ⟨#[]⟩) (.string ⟨#[]⟩) (.int .i64 4) rfl rfl rfl rfl (Blk.row y0 #[.int .i32 0, .int .i32 0, .int .i32 0, .int .u16 0, .int .u16 0, .int .u16 0, .int .u16 0, .int .u16 0, .int .u16 0, .int .u16 0, .int .u16 0, .int .u16 0, .int .u16 0, .int .u16 0, .int .u16 0, .int .u16 0, .int .u16 0, .int .u16 0, .int .u16 0]) rfl) rfl ⟨congrArg Ending.returned HV.out, below_row hb0 (Nat.le_refl _) _⟩
        | false =>
          by_cases he0 : p.e = 0
          · have he : (p.e != 0) = false := by rw [he0]; rfl
            by_cases hc : foT p.r p.n p.d = L s0
            · have HV := Lib.hid (parVQ_yes hp ⟨hbd, he0, hE, hc⟩).symm
              have hTs : TT = s0 := by rw [← hTT, hc, B_L]
              subst hTs
              clear hp hc hTT hE he0
              clear hTw hBp lp1 lp2
              go_wp2_with (refine wpList_row_g rfl 26 _ rfl _ rfl _ _ _ _ rr Tryd.underlying26 rfl (by kernel_rfl) ?_)
              refine (hq).mono ?_; rintro e W17 ⟨rfl, hb⟩
              replace y0 := y0.below hb y0.lt
              replace x0 := x0.below hb x0.lt
              replace rr := rr.below hb rr.lt
              replace hb0 := hb0.trans (hb.mono hb0.size); clear hb
              clear hq
              have cb : W17.cell? ⟨g1, 1, none⟩ = some (.bool p.x.bad) := x0.cell 1
              rw [hbd] at cb; clear hbd
              go_wp2_with (first | (refine wpList_store_seg rfl 26 _ _ rfl rfl w.heap.size 0 p.r.A p.r.A rfl rfl _ _ y0 (Nat.le_refl 19) (by kernel_rfl) (by kernel_rfl) (by kernel_rfl) ?_) | (refine wpList_row_g rfl 26 _ rfl _ rfl _ _ _ _ rr Tryd.underlying26 rfl (by kernel_rfl) ?_))
              all_goals try simp only [Exit.inBlock, Exit.then]
              all_goals refine bodyPost_ret (results_p4 (p := 2) (a := 3) (b := 4) (c := 5) rfl _ _ _ _ _ (.string (B p.n)) (.string (B p.d)) (.int .i64 0) rfl rfl rfl rfl (Blk.row y0 p.r.A) rfl) rfl ⟨congrArg Ending.returned HV.out, below_row hb0 (Nat.le_refl _) _⟩
            · have HV := Lib.hid (parVQ_no hp (fun q => hc q.2.2.2)).symm
              have hts := str_ne (show TT ≠ s0 from fun e => hc (by have := congrArg L (hTT.trans e); exact this))
              clear hp hc hTT hE he0
              clear hTw hBp lp1 lp2
              go_wp2_with (refine wpList_row_g rfl 26 _ rfl _ rfl _ _ _ _ rr Tryd.underlying26 rfl (by kernel_rfl) ?_)
              refine (hq).mono ?_; rintro e W17 ⟨rfl, hb⟩
              replace y0 := y0.below hb y0.lt
              replace x0 := x0.below hb x0.lt
              replace rr := rr.below hb rr.lt
              replace hb0 := hb0.trans (hb.mono hb0.size); clear hb
              clear hq
              have cb : W17.cell? ⟨g1, 1, none⟩ = some (.bool p.x.bad) := x0.cell 1
              rw [hbd] at cb; clear hbd
              go_wp2_with (first | (refine wpList_store_seg rfl 26 _ _ rfl rfl w.heap.size 0 #[.int .i32 0, .int .i32 0, .int .i32 0, .int .u16 0, .int .u16 0, .int .u16 0, .int .u16 0, .int .u16 0, .int .u16 0, .int .u16 0, .int .u16 0, .int .u16 0, .int .u16 0, .int .u16 0, .int .u16 0, .int .u16 0, .int .u16 0, .int .u16 0, .int .u16 0] #[.int .i32 0, .int .i32 0, .int .i32 0, .int .u16 0, .int .u16 0, .int .u16 0, .int .u16 0, .int .u16 0, .int .u16 0, .int .u16 0, .int .u16 0, .int .u16 0, .int .u16 0, .int .u16 0, .int .u16 0, .int .u16 0, .int .u16 0, .int .u16 0, .int .u16 0] rfl rfl _ _ y0 (Nat.le_refl 19) (by kernel_rfl) (by kernel_rfl) (by kernel_rfl) ?_))
              all_goals try simp only [Exit.inBlock, Exit.then]
              all_goals refine bodyPost_ret (results_p4 (p := 2) (a := 3) (b := 4) (c := 5) rfl _ _ _ _ _ (.string ⟨#[]⟩) (.string ⟨#[]⟩) (.int .i64 4) rfl rfl rfl rfl (Blk.row y0 #[.int .i32 0, .int .i32 0, .int .i32 0, .int .u16 0, .int .u16 0, .int .u16 0, .int .u16 0, .int .u16 0, .int .u16 0, .int .u16 0, .int .u16 0, .int .u16 0, .int .u16 0, .int .u16 0, .int .u16 0, .int .u16 0, .int .u16 0, .int .u16 0, .int .u16 0]) rfl) rfl ⟨congrArg Ending.returned HV.out, below_row hb0 (Nat.le_refl _) _⟩
          · have he : (p.e != 0) = true := by rw [bne_iff_ne]; exact he0
            have HV := Lib.hid (parVQ_no hp (fun q => he0 q.2.1)).symm
            clear hp he0
            clear hTT hE
            clear hTw hBp lp1 lp2
            go_wp2_with (refine wpList_row_g rfl 26 _ rfl _ rfl _ _ _ _ rr Tryd.underlying26 rfl (by kernel_rfl) ?_)
            refine (hq).mono ?_; rintro e W17 ⟨rfl, hb⟩
            replace y0 := y0.below hb y0.lt
            replace x0 := x0.below hb x0.lt
            replace rr := rr.below hb rr.lt
            replace hb0 := hb0.trans (hb.mono hb0.size); clear hb
            clear hq
            have cb : W17.cell? ⟨g1, 1, none⟩ = some (.bool p.x.bad) := x0.cell 1
            rw [hbd] at cb; clear hbd
            go_wp2_with (first | (refine wpList_store_seg rfl 26 _ _ rfl rfl w.heap.size 0 #[.int .i32 0, .int .i32 0, .int .i32 0, .int .u16 0, .int .u16 0, .int .u16 0, .int .u16 0, .int .u16 0, .int .u16 0, .int .u16 0, .int .u16 0, .int .u16 0, .int .u16 0, .int .u16 0, .int .u16 0, .int .u16 0, .int .u16 0, .int .u16 0, .int .u16 0] #[.int .i32 0, .int .i32 0, .int .i32 0, .int .u16 0, .int .u16 0, .int .u16 0, .int .u16 0, .int .u16 0, .int .u16 0, .int .u16 0, .int .u16 0, .int .u16 0, .int .u16 0, .int .u16 0, .int .u16 0, .int .u16 0, .int .u16 0, .int .u16 0, .int .u16 0] rfl rfl _ _ y0 (Nat.le_refl 19) (by kernel_rfl) (by kernel_rfl) (by kernel_rfl) ?_))
            all_goals try simp only [Exit.inBlock, Exit.then]
            all_goals refine bodyPost_ret (results_p4 (p := 2) (a := 3) (b := 4) (c := 5) rfl _ _ _ _ _ (.string ⟨#[]⟩) (.string ⟨#[]⟩) (.int .i64 4) rfl rfl rfl rfl (Blk.row y0 #[.int .i32 0, .int .i32 0, .int .i32 0, .int .u16 0, .int .u16 0, .int .u16 0, .int .u16 0, .int .u16 0, .int .u16 0, .int .u16 0, .int .u16 0, .int .u16 0, .int .u16 0, .int .u16 0, .int .u16 0, .int .u16 0, .int .u16 0, .int .u16 0, .int .u16 0]) rfl) rfl ⟨congrArg Ending.returned HV.out, below_row hb0 (Nat.le_refl _) _⟩
      · skip
        have hq := rtext_no p.r (B p.n) (B p.d) W16 hTw hBp (by rw [B_len]; omega) (by rw [B_len]; omega) hE
        rw [show L (B p.n) = p.n from rfl, show L (B p.d) = p.d from rfl] at hq
        have c1 := Blk.cell x0 1
        cases hbd : p.x.bad with
        | true =>
          have HV := Lib.hid (parVQ_no hp (fun q => by have := q.1; rw [hbd] at this; cases this)).symm
          clear hp
          rcases Bool.eq_false_or_eq_true (p.e != 0) with he | he
          all_goals skip
          · skip
            clear hTw hBp lp1 lp2
            have hEb : (foE p.r p.n p.d != 0) = true := by rw [bne_iff_ne]; exact hE
            generalize foE p.r p.n p.d = E at *
            clear hE
            go_wp2_with (refine wpList_row_g rfl 26 _ rfl _ rfl _ _ _ _ rr Tryd.underlying26 rfl (by kernel_rfl) ?_)
            refine (hq).mono ?_; rintro e W17 ⟨rfl, hb⟩
            replace y0 := y0.below hb y0.lt
            replace x0 := x0.below hb x0.lt
            replace rr := rr.below hb rr.lt
            replace hb0 := hb0.trans (hb.mono hb0.size); clear hb
            clear hq
            have cb : W17.cell? ⟨g1, 1, none⟩ = some (.bool p.x.bad) := x0.cell 1
            rw [hbd] at cb; clear hbd
            go_wp2_with (first | (refine wpList_store_seg rfl 26 _ _ rfl rfl w.heap.size 0 #[.int .i32 0, .int .i32 0, .int .i32 0, .int .u16 0, .int .u16 0, .int .u16 0, .int .u16 0, .int .u16 0, .int .u16 0, .int .u16 0, .int .u16 0, .int .u16 0, .int .u16 0, .int .u16 0, .int .u16 0, .int .u16 0, .int .u16 0, .int .u16 0, .int .u16 0] #[.int .i32 0, .int .i32 0, .int .i32 0, .int .u16 0, .int .u16 0, .int .u16 0, .int .u16 0, .int .u16 0, .int .u16 0, .int .u16 0, .int .u16 0, .int .u16 0, .int .u16 0, .int .u16 0, .int .u16 0, .int .u16 0, .int .u16 0, .int .u16 0, .int .u16 0] rfl rfl _ _ y0 (Nat.le_refl 19) (by kernel_rfl) (by kernel_rfl) (by kernel_rfl) ?_))
            all_goals try simp only [Exit.inBlock, Exit.then]
            all_goals refine bodyPost_ret (results_p4 (p := 2) (a := 3) (b := 4) (c := 5) rfl _ _ _ _ _ (.string ⟨#[]⟩) (.string ⟨#[]⟩) (.int .i64 4) rfl rfl rfl rfl (Blk.row y0 #[.int .i32 0, .int .i32 0, .int .i32 0, .int .u16 0, .int .u16 0, .int .u16 0, .int .u16 0, .int .u16 0, .int .u16 0, .int .u16 0, .int .u16 0, .int .u16 0, .int .u16 0, .int .u16 0, .int .u16 0, .int .u16 0, .int .u16 0, .int .u16 0, .int .u16 0]) rfl) rfl ⟨congrArg Ending.returned HV.out, below_row hb0 (Nat.le_refl _) _⟩
          · skip
            clear hTw hBp lp1 lp2
            have hEb : (foE p.r p.n p.d != 0) = true := by rw [bne_iff_ne]; exact hE
            generalize foE p.r p.n p.d = E at *
            clear hE
            go_wp2_with (refine wpList_row_g rfl 26 _ rfl _ rfl _ _ _ _ rr Tryd.underlying26 rfl (by kernel_rfl) ?_)
            refine (hq).mono ?_; rintro e W17 ⟨rfl, hb⟩
            replace y0 := y0.below hb y0.lt
            replace x0 := x0.below hb x0.lt
            replace rr := rr.below hb rr.lt
            replace hb0 := hb0.trans (hb.mono hb0.size); clear hb
            clear hq
            have cb : W17.cell? ⟨g1, 1, none⟩ = some (.bool p.x.bad) := x0.cell 1
            rw [hbd] at cb; clear hbd
            go_wp2_with (first | (refine wpList_store_seg rfl 26 _ _ rfl rfl w.heap.size 0 #[.int .i32 0, .int .i32 0, .int .i32 0, .int .u16 0, .int .u16 0, .int .u16 0, .int .u16 0, .int .u16 0, .int .u16 0, .int .u16 0, .int .u16 0, .int .u16 0, .int .u16 0, .int .u16 0, .int .u16 0, .int .u16 0, .int .u16 0, .int .u16 0, .int .u16 0] #[.int .i32 0, .int .i32 0, .int .i32 0, .int .u16 0, .int .u16 0, .int .u16 0, .int .u16 0, .int .u16 0, .int .u16 0, .int .u16 0, .int .u16 0, .int .u16 0, .int .u16 0, .int .u16 0, .int .u16 0, .int .u16 0, .int .u16 0, .int .u16 0, .int .u16 0] rfl rfl _ _ y0 (Nat.le_refl 19) (by kernel_rfl) (by kernel_rfl) (by kernel_rfl) ?_))
            all_goals try simp only [Exit.inBlock, Exit.then]
            all_goals refine bodyPost_ret (results_p4 (p := 2) (a := 3) (b := 4) (c := 5) rfl _ _ _ _ _ (.string ⟨#[]⟩) (.string ⟨#[]⟩) (.int .i64 4) rfl rfl rfl rfl (Blk.row y0 #[.int .i32 0, .int .i32 0, .int .i32 0, .int .u16 0, .int .u16 0, .int .u16 0, .int .u16 0, .int .u16 0, .int .u16 0, .int .u16 0, .int .u16 0, .int .u16 0, .int .u16 0, .int .u16 0, .int .u16 0, .int .u16 0, .int .u16 0, .int .u16 0, .int .u16 0]) rfl) rfl ⟨congrArg Ending.returned HV.out, below_row hb0 (Nat.le_refl _) _⟩
        | false =>
          by_cases he0 : p.e = 0
          · have he : (p.e != 0) = false := by rw [he0]; rfl
            have HV := Lib.hid (parVQ_no hp (fun q => hE q.2.2.1)).symm
            clear hp he0
            clear hTw hBp lp1 lp2
            have hEb : (foE p.r p.n p.d != 0) = true := by rw [bne_iff_ne]; exact hE
            generalize foE p.r p.n p.d = E at *
            clear hE
            go_wp2_with (refine wpList_row_g rfl 26 _ rfl _ rfl _ _ _ _ rr Tryd.underlying26 rfl (by kernel_rfl) ?_)
            refine (hq).mono ?_; rintro e W17 ⟨rfl, hb⟩
            replace y0 := y0.below hb y0.lt
            replace x0 := x0.below hb x0.lt
            replace rr := rr.below hb rr.lt
            replace hb0 := hb0.trans (hb.mono hb0.size); clear hb
            clear hq
            have cb : W17.cell? ⟨g1, 1, none⟩ = some (.bool p.x.bad) := x0.cell 1
            rw [hbd] at cb; clear hbd
            go_wp2_with (first | (refine wpList_store_seg rfl 26 _ _ rfl rfl w.heap.size 0 #[.int .i32 0, .int .i32 0, .int .i32 0, .int .u16 0, .int .u16 0, .int .u16 0, .int .u16 0, .int .u16 0, .int .u16 0, .int .u16 0, .int .u16 0, .int .u16 0, .int .u16 0, .int .u16 0, .int .u16 0, .int .u16 0, .int .u16 0, .int .u16 0, .int .u16 0] #[.int .i32 0, .int .i32 0, .int .i32 0, .int .u16 0, .int .u16 0, .int .u16 0, .int .u16 0, .int .u16 0, .int .u16 0, .int .u16 0, .int .u16 0, .int .u16 0, .int .u16 0, .int .u16 0, .int .u16 0, .int .u16 0, .int .u16 0, .int .u16 0, .int .u16 0] rfl rfl _ _ y0 (Nat.le_refl 19) (by kernel_rfl) (by kernel_rfl) (by kernel_rfl) ?_))
            all_goals try simp only [Exit.inBlock, Exit.then]
            all_goals refine bodyPost_ret (results_p4 (p := 2) (a := 3) (b := 4) (c := 5) rfl _ _ _ _ _ (.string ⟨#[]⟩) (.string ⟨#[]⟩) (.int .i64 4) rfl rfl rfl rfl (Blk.row y0 #[.int .i32 0, .int .i32 0, .int .i32 0, .int .u16 0, .int .u16 0, .int .u16 0, .int .u16 0, .int .u16 0, .int .u16 0, .int .u16 0, .int .u16 0, .int .u16 0, .int .u16 0, .int .u16 0, .int .u16 0, .int .u16 0, .int .u16 0, .int .u16 0, .int .u16 0]) rfl) rfl ⟨congrArg Ending.returned HV.out, below_row hb0 (Nat.le_refl _) _⟩
          · have he : (p.e != 0) = true := by rw [bne_iff_ne]; exact he0
            have HV := Lib.hid (parVQ_no hp (fun q => he0 q.2.1)).symm
            clear hp he0
            clear hTw hBp lp1 lp2
            have hEb : (foE p.r p.n p.d != 0) = true := by rw [bne_iff_ne]; exact hE
            generalize foE p.r p.n p.d = E at *
            clear hE
            go_wp2_with (refine wpList_row_g rfl 26 _ rfl _ rfl _ _ _ _ rr Tryd.underlying26 rfl (by kernel_rfl) ?_)
            refine (hq).mono ?_; rintro e W17 ⟨rfl, hb⟩
            replace y0 := y0.below hb y0.lt
            replace x0 := x0.below hb x0.lt
            replace rr := rr.below hb rr.lt
            replace hb0 := hb0.trans (hb.mono hb0.size); clear hb
            clear hq
            have cb : W17.cell? ⟨g1, 1, none⟩ = some (.bool p.x.bad) := x0.cell 1
            rw [hbd] at cb; clear hbd
            go_wp2_with (first | (refine wpList_store_seg rfl 26 _ _ rfl rfl w.heap.size 0 #[.int .i32 0, .int .i32 0, .int .i32 0, .int .u16 0, .int .u16 0, .int .u16 0, .int .u16 0, .int .u16 0, .int .u16 0, .int .u16 0, .int .u16 0, .int .u16 0, .int .u16 0, .int .u16 0, .int .u16 0, .int .u16 0, .int .u16 0, .int .u16 0, .int .u16 0] #[.int .i32 0, .int .i32 0, .int .i32 0, .int .u16 0, .int .u16 0, .int .u16 0, .int .u16 0, .int .u16 0, .int .u16 0, .int .u16 0, .int .u16 0, .int .u16 0, .int .u16 0, .int .u16 0, .int .u16 0, .int .u16 0, .int .u16 0, .int .u16 0, .int .u16 0] rfl rfl _ _ y0 (Nat.le_refl 19) (by kernel_rfl) (by kernel_rfl) (by kernel_rfl) ?_))
            all_goals try simp only [Exit.inBlock, Exit.then]
            all_goals refine bodyPost_ret (results_p4 (p := 2) (a := 3) (b := 4) (c := 5) rfl _ _ _ _ _ (.string ⟨#[]⟩) (.string ⟨#[]⟩) (.int .i64 4) rfl rfl rfl rfl (Blk.row y0 #[.int .i32 0, .int .i32 0, .int .i32 0, .int .u16 0, .int .u16 0, .int .u16 0, .int .u16 0, .int .u16 0, .int .u16 0, .int .u16 0, .int .u16 0, .int .u16 0, .int .u16 0, .int .u16 0, .int .u16 0, .int .u16 0, .int .u16 0, .int .u16 0, .int .u16 0]) rfl) rfl ⟨congrArg Ending.returned HV.out, below_row hb0 (Nat.le_refl _) _⟩
    · skip
      have ce : W6.cell? ⟨g1, 0, none⟩ = some (.string (B y3.s)) := x0.cell 0
      have hsz : 0 < (B y3.s).size := by rw [B_len, hw]; simp
      have hszI : (0 : Int) < ((B y3.s).size : Int) := by omega
      have he1 : ((B y3.s).toList == []) = false := by rw [Lib.toList_data, beq_eq_false_iff_ne]; intro e; rw [show (B y3.s).data.toList = y3.s from rfl, hw] at e; cases e
      have he2 : (B y3.s).toList.isEmpty = false := by
        cases q : (B y3.s).toList with
        | nil => rw [q] at he1; cases he1
        | cons _ _ => rfl
      have he3 : y3.s.isEmpty = false := by rw [hw]; rfl
      have he4 : ¬ y3.s = [] := by rw [hw]; simp
      have hb0v : (B y3.s)[0] = b9 := by show (L (B y3.s))[0] = _; have : L (B y3.s) = b9 :: r9 := hw; simp only [this]; rfl
      have hcI : (((B y3.s)[0].toNat : Int) != 44) = true := by rw [hb0v, bne_iff_ne]; exact fun e => hb9 (UInt8.toNat_inj.1 (by have : (44 : UInt8).toNat = 44 := rfl; omega))
      have HD1 := Lib.hid (show dstQ (-o1) y3 = (-(timQ y3).1, (timQ y3).2) by unfold dstQ; rw [if_neg (dst_no hw hb9)])
      clear hb0v hb9
      clear hw
      obtain ⟨o2, y4, H4⟩ : ∃ n y, timQ y3 = (n, y) := ⟨_, _, rfl⟩
      have c1 := fun W => rtim_any y3 W (Nat.le_trans l3 (by decide)); have l4 := timq_len y3; have b2 := timq_bd y3; have HD2 := HD1.out; rw [H4] at c1 l4 b2 HD2; replace l4 : y4.s.length ≤ 1000 := Nat.le_trans l4 l3; replace b2 : -100000000 ≤ o2 ∧ o2 ≤ 100000000 := b2; dsimp only at HD2
      have HD0 := Lib.hid HD2; clear H4 HD1 HD2
      go_wp2_with (refine wpList_row_g rfl 62 _ rfl _ rfl _ _ _ _ x0 Tryd.underlying62 rfl (by kernel_rfl) ?_)
      refine (c1 _).mono ?_; rintro e W7 ⟨rfl, hb⟩
      replace y0 := y0.below hb y0.lt
      replace x0 := x0.below hb x0.lt
      replace hb0 := hb0.trans (hb.mono hb0.size); clear hb
      clear c1 ce he1 he2 he3 he4 hcI hszI hsz
      go_upto_region 15 with (refine wpList_store_seg rfl 62 _ _ rfl rfl g1 0 #[.string (B y4.s), .bool y4.bad] #[.string (B y4.s), .bool y4.bad] rfl rfl _ _ x0 (Nat.le_refl 2) (by kernel_rfl) (by kernel_rfl) (by kernel_rfl) ?_)
      replace y0 := Blk.rowFar (g' := g1) y0 (by omega) #[.string (B y4.s), .bool y4.bad]
      replace x0 := Blk.row (g := g1) x0 #[.string (B y4.s), .bool y4.bad]
      replace hb0 := below_row hb0 (show w.heap.size ≤ g1 by omega) #[.string (B y4.s), .bool y4.bad]
      generalize World.setRow _ g1 #[.string (B y4.s), .bool y4.bad] = W8 at *
      have wr2 : IntKind.i64.wrap (-o2) = -o2 := by simp [IntKind.wrap, IntKind.bits, IntKind.signed]; omega
      obtain ⟨bd, hbd⟩ : ∃ bd, bd = -o2 := ⟨_, rfl⟩
      have bb : -200000000 ≤ bd ∧ bd ≤ 200000000 := by omega
      go_upto_region 16 with fail
      rw [← hbd] at HD0 ⊢
      try rw [← hbd] at wq
      try rw [← hbd] at wr2
      clear hbd
      try clear wq
      try clear wr2
      obtain ⟨m1, y5, H5⟩ : ∃ n y, mayR 44 y4 = (n, y) := ⟨_, _, rfl⟩
      have c1 := rsgn_any 44 y4 W8 (Nat.le_trans l4 (by decide)); have l5 := may_len 44 y4; rw [H5] at c1 l5; replace l5 : y5.s.length ≤ 1000 := Nat.le_trans l5 l4
      have HE5 := Lib.hid H5; clear H5
      go_wp2_with (refine wpList_row_g rfl 62 _ rfl _ rfl _ _ _ _ x0 Tryd.underlying62 rfl (by kernel_rfl) ?_)
      refine (c1).mono ?_; rintro e W9 ⟨rfl, hb⟩
      replace y0 := y0.below hb y0.lt
      replace x0 := x0.below hb x0.lt
      replace hb0 := hb0.trans (hb.mono hb0.size); clear hb
      clear c1
      go_upto_region 17 with (refine wpList_store_seg rfl 62 _ _ rfl rfl g1 0 #[.string (B y5.s), .bool y5.bad] #[.string (B y5.s), .bool y5.bad] rfl rfl _ _ x0 (Nat.le_refl 2) (by kernel_rfl) (by kernel_rfl) (by kernel_rfl) ?_)
      replace y0 := Blk.rowFar (g' := g1) y0 (by omega) #[.string (B y5.s), .bool y5.bad]
      replace x0 := Blk.row (g := g1) x0 #[.string (B y5.s), .bool y5.bad]
      replace hb0 := below_row hb0 (show w.heap.size ≤ g1 by omega) #[.string (B y5.s), .bool y5.bad]
      generalize World.setRow _ g1 #[.string (B y5.s), .bool y5.bad] = W10 at *
      obtain ⟨su, y6, HS1⟩ : ∃ n y, stQ y5 = (n, y) := ⟨_, _, rfl⟩
      have c1 := rstm_any y5 W10 (Nat.le_trans l5 (by decide)); have ly6 := stq_len y5; have bsu := stq_bd y5; rw [HS1] at c1 ly6 bsu; replace ly6 : y6.s.length ≤ 1000 := Nat.le_trans ly6 l5; replace bsu : su.Bd := bsu
      have HS1h := Lib.hid HS1; clear HS1
      go_wp2_with (refine wpList_row_g rfl 62 _ rfl _ rfl _ _ _ _ x0 Tryd.underlying62 rfl (by kernel_rfl) ?_)
      refine (c1).mono ?_; rintro e W11 ⟨rfl, hb⟩
      replace y0 := y0.below hb y0.lt
      replace x0 := x0.below hb x0.lt
      replace hb0 := hb0.trans (hb.mono hb0.size); clear hb
      clear c1
      have g2lt : g1 < W11.heap.size := by have := x0.lt; exact this
      have y0a := y0.alloc (.cells #[.int .u16 0, .int .u16 0, .int .u16 0, .int .u16 0, .int .u16 0, .int .u16 0, .int .u16 0, .int .u16 0] 24)
      have x0a := x0.alloc (.cells #[.int .u16 0, .int .u16 0, .int .u16 0, .int .u16 0, .int .u16 0, .int .u16 0, .int .u16 0, .int .u16 0] 24)
      have sn := Blk.new W11 24 #[.int .u16 0, .int .u16 0, .int .u16 0, .int .u16 0, .int .u16 0, .int .u16 0, .int .u16 0, .int .u16 0]
      have gne : W11.heap.size ≠ g1 := by have := x0.lt; omega
      have sn2 := Blk.rowFar (g' := g1) sn gne #[.string (B y6.s), .bool y6.bad]
      go_upto_region 18 with (first | (refine wpList_store_seg rfl 62 _ _ rfl rfl g1 0 #[.string (B y6.s), .bool y6.bad] #[.string (B y6.s), .bool y6.bad] rfl rfl _ _ x0a (Nat.le_refl 2) (by kernel_rfl) (by kernel_rfl) (by kernel_rfl) ?_) | (refine wpList_store_seg rfl 24 _ _ rfl rfl W11.heap.size 0 (sA su) (sA su) rfl rfl _ _ sn2 (Nat.le_refl 8) (by kernel_rfl) (by kernel_rfl) (by kernel_rfl) ?_))
      replace y0 := Blk.rowFar (g' := W11.heap.size) (Blk.rowFar (g' := g1) y0a (by omega) #[.string (B y6.s), .bool y6.bad]) (by have := y0.lt; omega) (sA su)
      replace x0 := Blk.rowFar (g' := W11.heap.size) (Blk.row (g := g1) x0a #[.string (B y6.s), .bool y6.bad]) (Ne.symm gne) (sA su)
      have q1 := Blk.row (g := W11.heap.size) sn2 (sA su)
      replace hb0 := below_row (below_row (hb0.alloc hb0.size (.cells #[.int .u16 0, .int .u16 0, .int .u16 0, .int .u16 0, .int .u16 0, .int .u16 0, .int .u16 0, .int .u16 0] 24)) (show w.heap.size ≤ g1 by omega) #[.string (B y6.s), .bool y6.bad]) (show w.heap.size ≤ W11.heap.size by omega) (sA su)
      clear sn sn2 gne y0a x0a
      generalize World.setRow _ W11.heap.size (sA su) = W12 at *
      generalize W11.heap.size = g2 at *
      obtain ⟨m2, y7, H7⟩ : ∃ n y, mayR 44 y6 = (n, y) := ⟨_, _, rfl⟩
      have c1 := rsgn_any 44 y6 W12 (Nat.le_trans ly6 (by decide)); have l7 := may_len 44 y6; rw [H7] at c1 l7; replace l7 : y7.s.length ≤ 1000 := Nat.le_trans l7 ly6
      have HE7 := Lib.hid H7; clear H7
      go_wp2_with (refine wpList_row_g rfl 62 _ rfl _ rfl _ _ _ _ x0 Tryd.underlying62 rfl (by kernel_rfl) ?_)
      refine (c1).mono ?_; rintro e W13 ⟨rfl, hb⟩
      replace y0 := y0.below hb y0.lt
      replace x0 := x0.below hb x0.lt
      replace q1 := q1.below hb q1.lt
      replace hb0 := hb0.trans (hb.mono hb0.size); clear hb
      clear c1
      go_upto_region 19 with (refine wpList_store_seg rfl 62 _ _ rfl rfl g1 0 #[.string (B y7.s), .bool y7.bad] #[.string (B y7.s), .bool y7.bad] rfl rfl _ _ x0 (Nat.le_refl 2) (by kernel_rfl) (by kernel_rfl) (by kernel_rfl) ?_)
      replace y0 := Blk.rowFar (g' := g1) y0 (by omega) #[.string (B y7.s), .bool y7.bad]
      replace q1 := Blk.rowFar (g' := g1) q1 (by omega) #[.string (B y7.s), .bool y7.bad]
      replace x0 := Blk.row (g := g1) x0 #[.string (B y7.s), .bool y7.bad]
      replace hb0 := below_row hb0 (show w.heap.size ≤ g1 by omega) #[.string (B y7.s), .bool y7.bad]
      generalize World.setRow _ g1 #[.string (B y7.s), .bool y7.bad] = W14 at *
      obtain ⟨wi, y8, HS2⟩ : ∃ n y, stQ y7 = (n, y) := ⟨_, _, rfl⟩
      have c1 := rstm_any y7 W14 (Nat.le_trans l7 (by decide)); have ly8 := stq_len y7; have bwi := stq_bd y7; rw [HS2] at c1 ly8 bwi; replace ly8 : y8.s.length ≤ 1000 := Nat.le_trans ly8 l7; replace bwi : wi.Bd := bwi
      have HS2h := Lib.hid HS2; clear HS2
      go_wp2_with (refine wpList_row_g rfl 62 _ rfl _ rfl _ _ _ _ x0 Tryd.underlying62 rfl (by kernel_rfl) ?_)
      refine (c1).mono ?_; rintro e W15 ⟨rfl, hb⟩
      replace y0 := y0.below hb y0.lt
      replace x0 := x0.below hb x0.lt
      replace q1 := q1.below hb q1.lt
      replace hb0 := hb0.trans (hb.mono hb0.size); clear hb
      clear c1
      have g3lt : g2 < W15.heap.size := by have := q1.lt; exact this
      have y0a := y0.alloc (.cells #[.int .u16 0, .int .u16 0, .int .u16 0, .int .u16 0, .int .u16 0, .int .u16 0, .int .u16 0, .int .u16 0] 24)
      have x0a := x0.alloc (.cells #[.int .u16 0, .int .u16 0, .int .u16 0, .int .u16 0, .int .u16 0, .int .u16 0, .int .u16 0, .int .u16 0] 24)
      have q1a := q1.alloc (.cells #[.int .u16 0, .int .u16 0, .int .u16 0, .int .u16 0, .int .u16 0, .int .u16 0, .int .u16 0, .int .u16 0] 24)
      have sn := Blk.new W15 24 #[.int .u16 0, .int .u16 0, .int .u16 0, .int .u16 0, .int .u16 0, .int .u16 0, .int .u16 0, .int .u16 0]
      have gne : W15.heap.size ≠ g1 := by have := x0.lt; omega
      have sn2 := Blk.rowFar (g' := g1) sn gne #[.string (B y8.s), .bool y8.bad]
      go_upto_region 20 with (first | (refine wpList_store_seg rfl 62 _ _ rfl rfl g1 0 #[.string (B y8.s), .bool y8.bad] #[.string (B y8.s), .bool y8.bad] rfl rfl _ _ x0a (Nat.le_refl 2) (by kernel_rfl) (by kernel_rfl) (by kernel_rfl) ?_) | (refine wpList_store_seg rfl 24 _ _ rfl rfl W15.heap.size 0 (sA wi) (sA wi) rfl rfl _ _ sn2 (Nat.le_refl 8) (by kernel_rfl) (by kernel_rfl) (by kernel_rfl) ?_))
      replace y0 := Blk.rowFar (g' := W15.heap.size) (Blk.rowFar (g' := g1) y0a (by omega) #[.string (B y8.s), .bool y8.bad]) (by have := y0.lt; omega) (sA wi)
      replace x0 := Blk.rowFar (g' := W15.heap.size) (Blk.row (g := g1) x0a #[.string (B y8.s), .bool y8.bad]) (Ne.symm gne) (sA wi)
      replace q1 := Blk.rowFar (g' := W15.heap.size) (Blk.rowFar (g' := g1) q1a (by omega) #[.string (B y8.s), .bool y8.bad]) (by have := q1.lt; omega) (sA wi)
      have q2 := Blk.row (g := W15.heap.size) sn2 (sA wi)
      replace hb0 := below_row (below_row (hb0.alloc hb0.size (.cells #[.int .u16 0, .int .u16 0, .int .u16 0, .int .u16 0, .int .u16 0, .int .u16 0, .int .u16 0, .int .u16 0] 24)) (show w.heap.size ≤ g1 by omega) #[.string (B y8.s), .bool y8.bad]) (show w.heap.size ≤ W15.heap.size by omega) (sA wi)
      clear sn sn2 gne y0a x0a q1a
      generalize World.setRow _ W15.heap.size (sA wi) = W16 at *
      generalize W15.heap.size = g3 at *
      have hTw := hT.below hT.1 hb0
      have c1 := Rf.rmake_any (-o1) bd wi su W16 hTw bwi bsu (by omega) (by omega)
      rw [mkV_R] at c1
      obtain ⟨r, hR⟩ : ∃ r, mkR (-o1) bd wi su = r := ⟨_, rfl⟩
      obtain ⟨en, hN⟩ : ∃ r, mkE (-o1) bd wi su = r := ⟨_, rfl⟩
      have hBr := mkR_bd (-o1) bd wi su bwi bsu
      rw [hR] at c1 hBr; rw [hN] at c1; have HR := Lib.hid hR; have HN := Lib.hid hN; clear hR hN hTw
      go_wp2_with (first | (refine wpList_row_g rfl 24 _ rfl _ rfl _ _ _ _ q2 Tryd.underlying24 rfl (by kernel_rfl) ?_) | (refine wpList_row_g rfl 24 _ rfl _ rfl _ _ _ _ q1 Tryd.underlying24 rfl (by kernel_rfl) ?_))
      refine (c1).mono ?_; rintro e W17 ⟨rfl, hb⟩
      replace y0 := y0.below hb y0.lt
      replace x0 := x0.below hb x0.lt
      replace q1 := q1.below hb q1.lt
      replace q2 := q2.below hb q2.lt
      replace hb0 := hb0.trans (hb.mono hb0.size); clear hb
      clear c1
      have g4lt : g1 < W17.heap.size := x0.lt
      clear q1 q2 g2lt g3lt
      go_upto_region 21 with (first | (refine wpList_store_new rfl 26 _ _ rfl rfl W17.heap.size r.A rfl rfl _ #[.int .i32 0, .int .i32 0, .int .i32 0, .int .u16 0, .int .u16 0, .int .u16 0, .int .u16 0, .int .u16 0, .int .u16 0, .int .u16 0, .int .u16 0, .int .u16 0, .int .u16 0, .int .u16 0, .int .u16 0, .int .u16 0, .int .u16 0, .int .u16 0, .int .u16 0] W17 rfl rfl rfl (by kernel_rfl) (by kernel_rfl) ?_))
      have rr := Blk.new W17 26 r.A
      replace y0 := y0.alloc (.cells r.A 26)
      replace x0 := x0.alloc (.cells r.A 26)
      have g4n : g1 < W17.heap.size := g4lt
      replace hb0 := hb0.alloc hb0.size (.cells r.A 26)
      generalize W17.alloc (.cells r.A 26) = W18 at *
      generalize W17.heap.size = g4 at *
      obtain ⟨p, hpd⟩ : ∃ p : Pr, p = ⟨r, en, n1, n2, y8⟩ := ⟨_, rfl⟩
      have hp : parQ (L s0) = p := by rw [hpd]; unfold parQ; rw [show (⟨L s0, false⟩ : Rs) = X from HX.out.symm]; (try dsimp only); rw [HE1.out]; (try dsimp only); rw [HE2.out]; (try dsimp only); rw [if_neg HNE.out]; (try dsimp only); rw [HE3.out]; (try dsimp only); rw [HD0.out]; (try dsimp only); rw [HE5.out]; (try dsimp only); rw [HS1h.out]; (try dsimp only); rw [HE7.out]; (try dsimp only); rw [HS2h.out]; (try dsimp only); rw [HR.out, HN.out]
      obtain ⟨rfl, rfl, rfl, rfl, rfl⟩ : r = p.r ∧ en = p.e ∧ n1 = p.n ∧ n2 = p.d ∧ y8 = p.x := by rw [hpd]; exact ⟨rfl, rfl, rfl, rfl, rfl⟩
      have hBp := hBr; have lp1 := k1; have lp2 := k2
      clear hpd HR HN HNE HE1 HE2 HE3 HE5 HE7 HD0 HS1h HS2h HX hBr k1 k2 l1 l2 l3 l5 ly6 l7 ly8 lX b1 wo bb bwi bsu l4 b2
      have hTw := hT.below hT.1 hb0
      by_cases hE : foE p.r p.n p.d = 0
      · skip
        have hq := rtext_ok p.r (B p.n) (B p.d) W18 hTw hBp (by rw [B_len]; omega) (by rw [B_len]; omega) hE
        rw [show L (B p.n) = p.n from rfl, show L (B p.d) = p.d from rfl] at hq
        obtain ⟨TT, hTT⟩ : ∃ T, B (foT p.r p.n p.d) = T := ⟨_, rfl⟩
        rw [hTT] at hq
        have c1 := Blk.cell x0 1
        cases hbd : p.x.bad with
        | true =>
          have HV := Lib.hid (parVQ_no hp (fun q => by have := q.1; rw [hbd] at this; cases this)).symm
          clear hp
          clear hTT hE
          rcases Bool.eq_false_or_eq_true (p.e != 0) with he | he
          all_goals skip
          · skip
            clear hTw hBp lp1 lp2
            go_wp2_with (refine wpList_row_g rfl 26 _ rfl _ rfl _ _ _ _ rr Tryd.underlying26 rfl (by kernel_rfl) ?_)
            refine (hq).mono ?_; rintro e W19 ⟨rfl, hb⟩
            replace y0 := y0.below hb y0.lt
            replace x0 := x0.below hb x0.lt
            replace rr := rr.below hb rr.lt
            replace hb0 := hb0.trans (hb.mono hb0.size); clear hb
            clear hq
            have cb : W19.cell? ⟨g1, 1, none⟩ = some (.bool p.x.bad) := x0.cell 1
            rw [hbd] at cb; clear hbd
            go_wp2_with (first | (refine wpList_store_seg rfl 26 _ _ rfl rfl w.heap.size 0 #[.int .i32 0, .int .i32 0, .int .i32 0, .int .u16 0, .int .u16 0, .int .u16 0, .int .u16 0, .int .u16 0, .int .u16 0, .int .u16 0, .int .u16 0, .int .u16 0, .int .u16 0, .int .u16 0, .int .u16 0, .int .u16 0, .int .u16 0, .int .u16 0, .int .u16 0] #[.int .i32 0, .int .i32 0, .int .i32 0, .int .u16 0, .int .u16 0, .int .u16 0, .int .u16 0, .int .u16 0, .int .u16 0, .int .u16 0, .int .u16 0, .int .u16 0, .int .u16 0, .int .u16 0, .int .u16 0, .int .u16 0, .int .u16 0, .int .u16 0, .int .u16 0] rfl rfl _ _ y0 (Nat.le_refl 19) (by kernel_rfl) (by kernel_rfl) (by kernel_rfl) ?_))
            all_goals try simp only [Exit.inBlock, Exit.then]
            all_goals refine bodyPost_ret (results_p4 (p := 2) (a := 3) (b := 4) (c := 5) rfl _ _ _ _ _ (.string ⟨#[]⟩) (.string ⟨#[]⟩) (.int .i64 4) rfl rfl rfl rfl (Blk.row y0 #[.int .i32 0, .int .i32 0, .int .i32 0, .int .u16 0, .int .u16 0, .int .u16 0, .int .u16 0, .int .u16 0, .int .u16 0, .int .u16 0, .int .u16 0, .int .u16 0, .int .u16 0, .int .u16 0, .int .u16 0, .int .u16 0, .int .u16 0, .int .u16 0, .int .u16 0]) rfl) rfl ⟨congrArg Ending.returned HV.out, below_row hb0 (Nat.le_refl _) _⟩
          · skip
            clear hTw hBp lp1 lp2
            go_wp2_with (refine wpList_row_g rfl 26 _ rfl _ rfl _ _ _ _ rr Tryd.underlying26 rfl (by kernel_rfl) ?_)
            refine (hq).mono ?_; rintro e W19 ⟨rfl, hb⟩
            replace y0 := y0.below hb y0.lt
            replace x0 := x0.below hb x0.lt
            replace rr := rr.below hb rr.lt
            replace hb0 := hb0.trans (hb.mono hb0.size); clear hb
            clear hq
            have cb : W19.cell? ⟨g1, 1, none⟩ = some (.bool p.x.bad) := x0.cell 1
            rw [hbd] at cb; clear hbd
            go_wp2_with (first | (refine wpList_store_seg rfl 26 _ _ rfl rfl w.heap.size 0 #[.int .i32 0, .int .i32 0, .int .i32 0, .int .u16 0, .int .u16 0, .int .u16 0, .int .u16 0, .int .u16 0, .int .u16 0, .int .u16 0, .int .u16 0, .int .u16 0, .int .u16 0, .int .u16 0, .int .u16 0, .int .u16 0, .int .u16 0, .int .u16 0, .int .u16 0] #[.int .i32 0, .int .i32 0, .int .i32 0, .int .u16 0, .int .u16 0, .int .u16 0, .int .u16 0, .int .u16 0, .int .u16 0, .int .u16 0, .int .u16 0, .int .u16 0, .int .u16 0, .int .u16 0, .int .u16 0, .int .u16 0, .int .u16 0, .int .u16 0, .int .u16 0] rfl rfl _ _ y0 (Nat.le_refl 19) (by kernel_rfl) (by kernel_rfl) (by kernel_rfl) ?_))
            all_goals try simp only [Exit.inBlock, Exit.then]
            all_goals refine bodyPost_ret (results_p4 (p := 2) (a := 3) (b := 4) (c := 5) rfl _ _ _ _ _ (.string ⟨#[]⟩) (.string ⟨#[]⟩) (.int .i64 4) rfl rfl rfl rfl (Blk.row y0 #[.int .i32 0, .int .i32 0, .int .i32 0, .int .u16 0, .int .u16 0, .int .u16 0, .int .u16 0, .int .u16 0, .int .u16 0, .int .u16 0, .int .u16 0, .int .u16 0, .int .u16 0, .int .u16 0, .int .u16 0, .int .u16 0, .int .u16 0, .int .u16 0, .int .u16 0]) rfl) rfl ⟨congrArg Ending.returned HV.out, below_row hb0 (Nat.le_refl _) _⟩
        | false =>
          by_cases he0 : p.e = 0
          · have he : (p.e != 0) = false := by rw [he0]; rfl
            by_cases hc : foT p.r p.n p.d = L s0
            · have HV := Lib.hid (parVQ_yes hp ⟨hbd, he0, hE, hc⟩).symm
              have hTs : TT = s0 := by rw [← hTT, hc, B_L]
              subst hTs
              clear hp hc hTT hE he0
              clear hTw hBp lp1 lp2
              go_wp2_with (refine wpList_row_g rfl 26 _ rfl _ rfl _ _ _ _ rr Tryd.underlying26 rfl (by kernel_rfl) ?_)
              refine (hq).mono ?_; rintro e W19 ⟨rfl, hb⟩
              replace y0 := y0.below hb y0.lt
              replace x0 := x0.below hb x0.lt
              replace rr := rr.below hb rr.lt
              replace hb0 := hb0.trans (hb.mono hb0.size); clear hb
              clear hq
              have cb : W19.cell? ⟨g1, 1, none⟩ = some (.bool p.x.bad) := x0.cell 1
              rw [hbd] at cb; clear hbd
              go_wp2_with (first | (refine wpList_store_seg rfl 26 _ _ rfl rfl w.heap.size 0 p.r.A p.r.A rfl rfl _ _ y0 (Nat.le_refl 19) (by kernel_rfl) (by kernel_rfl) (by kernel_rfl) ?_) | (refine wpList_row_g rfl 26 _ rfl _ rfl _ _ _ _ rr Tryd.underlying26 rfl (by kernel_rfl) ?_))
              all_goals try simp only [Exit.inBlock, Exit.then]
              all_goals refine bodyPost_ret (results_p4 (p := 2) (a := 3) (b := 4) (c := 5) rfl _ _ _ _ _ (.string (B p.n)) (.string (B p.d)) (.int .i64 0) rfl rfl rfl rfl (Blk.row y0 p.r.A) rfl) rfl ⟨congrArg Ending.returned HV.out, below_row hb0 (Nat.le_refl _) _⟩
            · have HV := Lib.hid (parVQ_no hp (fun q => hc q.2.2.2)).symm
              have hts := str_ne (show TT ≠ s0 from fun e => hc (by have := congrArg L (hTT.trans e); exact this))
              clear hp hc hTT hE he0
              clear hTw hBp lp1 lp2
              go_wp2_with (refine wpList_row_g rfl 26 _ rfl _ rfl _ _ _ _ rr Tryd.underlying26 rfl (by kernel_rfl) ?_)
              refine (hq).mono ?_; rintro e W19 ⟨rfl, hb⟩
              replace y0 := y0.below hb y0.lt
              replace x0 := x0.below hb x0.lt
              replace rr := rr.below hb rr.lt
              replace hb0 := hb0.trans (hb.mono hb0.size); clear hb
              clear hq
              have cb : W19.cell? ⟨g1, 1, none⟩ = some (.bool p.x.bad) := x0.cell 1
              rw [hbd] at cb; clear hbd
              go_wp2_with (first | (refine wpList_store_seg rfl 26 _ _ rfl rfl w.heap.size 0 #[.int .i32 0, .int .i32 0, .int .i32 0, .int .u16 0, .int .u16 0, .int .u16 0, .int .u16 0, .int .u16 0, .int .u16 0, .int .u16 0, .int .u16 0, .int .u16 0, .int .u16 0, .int .u16 0, .int .u16 0, .int .u16 0, .int .u16 0, .int .u16 0, .int .u16 0] #[.int .i32 0, .int .i32 0, .int .i32 0, .int .u16 0, .int .u16 0, .int .u16 0, .int .u16 0, .int .u16 0, .int .u16 0, .int .u16 0, .int .u16 0, .int .u16 0, .int .u16 0, .int .u16 0, .int .u16 0, .int .u16 0, .int .u16 0, .int .u16 0, .int .u16 0] rfl rfl _ _ y0 (Nat.le_refl 19) (by kernel_rfl) (by kernel_rfl) (by kernel_rfl) ?_))
              all_goals try simp only [Exit.inBlock, Exit.then]
              all_goals refine bodyPost_ret (results_p4 (p := 2) (a := 3) (b := 4) (c := 5) rfl _ _ _ _ _ (.string ⟨#[]⟩) (.string ⟨#[]⟩) (.int .i64 4) rfl rfl rfl rfl (Blk.row y0 #[.int .i32 0, .int .i32 0, .int .i32 0, .int .u16 0, .int .u16 0, .int .u16 0, .int .u16 0, .int .u16 0, .int .u16 0, .int .u16 0, .int .u16 0, .int .u16 0, .int .u16 0, .int .u16 0, .int .u16 0, .int .u16 0, .int .u16 0, .int .u16 0, .int .u16 0]) rfl) rfl ⟨congrArg Ending.returned HV.out, below_row hb0 (Nat.le_refl _) _⟩
          · have he : (p.e != 0) = true := by rw [bne_iff_ne]; exact he0
            have HV := Lib.hid (parVQ_no hp (fun q => he0 q.2.1)).symm
            clear hp he0
            clear hTT hE
            clear hTw hBp lp1 lp2
            go_wp2_with (refine wpList_row_g rfl 26 _ rfl _ rfl _ _ _ _ rr Tryd.underlying26 rfl (by kernel_rfl) ?_)
            refine (hq).mono ?_; rintro e W19 ⟨rfl, hb⟩
            replace y0 := y0.below hb y0.lt
            replace x0 := x0.below hb x0.lt
            replace rr := rr.below hb rr.lt
            replace hb0 := hb0.trans (hb.mono hb0.size); clear hb
            clear hq
            have cb : W19.cell? ⟨g1, 1, none⟩ = some (.bool p.x.bad) := x0.cell 1
            rw [hbd] at cb; clear hbd
            go_wp2_with (first | (refine wpList_store_seg rfl 26 _ _ rfl rfl w.heap.size 0 #[.int .i32 0, .int .i32 0, .int .i32 0, .int .u16 0, .int .u16 0, .int .u16 0, .int .u16 0, .int .u16 0, .int .u16 0, .int .u16 0, .int .u16 0, .int .u16 0, .int .u16 0, .int .u16 0, .int .u16 0, .int .u16 0, .int .u16 0, .int .u16 0, .int .u16 0] #[.int .i32 0, .int .i32 0, .int .i32 0, .int .u16 0, .int .u16 0, .int .u16 0, .int .u16 0, .int .u16 0, .int .u16 0, .int .u16 0, .int .u16 0, .int .u16 0, .int .u16 0, .int .u16 0, .int .u16 0, .int .u16 0, .int .u16 0, .int .u16 0, .int .u16 0] rfl rfl _ _ y0 (Nat.le_refl 19) (by kernel_rfl) (by kernel_rfl) (by kernel_rfl) ?_))
            all_goals try simp only [Exit.inBlock, Exit.then]
            all_goals refine bodyPost_ret (results_p4 (p := 2) (a := 3) (b := 4) (c := 5) rfl _ _ _ _ _ (.string ⟨#[]⟩) (.string ⟨#[]⟩) (.int .i64 4) rfl rfl rfl rfl (Blk.row y0 #[.int .i32 0, .int .i32 0, .int .i32 0, .int .u16 0, .int .u16 0, .int .u16 0, .int .u16 0, .int .u16 0, .int .u16 0, .int .u16 0, .int .u16 0, .int .u16 0, .int .u16 0, .int .u16 0, .int .u16 0, .int .u16 0, .int .u16 0, .int .u16 0, .int .u16 0]) rfl) rfl ⟨congrArg Ending.returned HV.out, below_row hb0 (Nat.le_refl _) _⟩
      · skip
        have hq := rtext_no p.r (B p.n) (B p.d) W18 hTw hBp (by rw [B_len]; omega) (by rw [B_len]; omega) hE
        rw [show L (B p.n) = p.n from rfl, show L (B p.d) = p.d from rfl] at hq
        have c1 := Blk.cell x0 1
        cases hbd : p.x.bad with
        | true =>
          have HV := Lib.hid (parVQ_no hp (fun q => by have := q.1; rw [hbd] at this; cases this)).symm
          clear hp
          rcases Bool.eq_false_or_eq_true (p.e != 0) with he | he
          all_goals skip
          · skip
            clear hTw hBp lp1 lp2
            have hEb : (foE p.r p.n p.d != 0) = true := by rw [bne_iff_ne]; exact hE
            generalize foE p.r p.n p.d = E at *
            clear hE
            go_wp2_with (refine wpList_row_g rfl 26 _ rfl _ rfl _ _ _ _ rr Tryd.underlying26 rfl (by kernel_rfl) ?_)
            refine (hq).mono ?_; rintro e W19 ⟨rfl, hb⟩
            replace y0 := y0.below hb y0.lt
            replace x0 := x0.below hb x0.lt
            replace rr := rr.below hb rr.lt
            replace hb0 := hb0.trans (hb.mono hb0.size); clear hb
            clear hq
            have cb : W19.cell? ⟨g1, 1, none⟩ = some (.bool p.x.bad) := x0.cell 1
            rw [hbd] at cb; clear hbd
            go_wp2_with (first | (refine wpList_store_seg rfl 26 _ _ rfl rfl w.heap.size 0 #[.int .i32 0, .int .i32 0, .int .i32 0, .int .u16 0, .int .u16 0, .int .u16 0, .int .u16 0, .int .u16 0, .int .u16 0, .int .u16 0, .int .u16 0, .int .u16 0, .int .u16 0, .int .u16 0, .int .u16 0, .int .u16 0, .int .u16 0, .int .u16 0, .int .u16 0] #[.int .i32 0, .int .i32 0, .int .i32 0, .int .u16 0, .int .u16 0, .int .u16 0, .int .u16 0, .int .u16 0, .int .u16 0, .int .u16 0, .int .u16 0, .int .u16 0, .int .u16 0, .int .u16 0, .int .u16 0, .int .u16 0, .int .u16 0, .int .u16 0, .int .u16 0] rfl rfl _ _ y0 (Nat.le_refl 19) (by kernel_rfl) (by kernel_rfl) (by kernel_rfl) ?_))
            all_goals try simp only [Exit.inBlock, Exit.then]
            all_goals refine bodyPost_ret (results_p4 (p := 2) (a := 3) (b := 4) (c := 5) rfl _ _ _ _ _ (.string ⟨#[]⟩) (.string ⟨#[]⟩) (.int .i64 4) rfl rfl rfl rfl (Blk.row y0 #[.int .i32 0, .int .i32 0, .int .i32 0, .int .u16 0, .int .u16 0, .int .u16 0, .int .u16 0, .int .u16 0, .int .u16 0, .int .u16 0, .int .u16 0, .int .u16 0, .int .u16 0, .int .u16 0, .int .u16 0, .int .u16 0, .int .u16 0, .int .u16 0, .int .u16 0]) rfl) rfl ⟨congrArg Ending.returned HV.out, below_row hb0 (Nat.le_refl _) _⟩
          · skip
            clear hTw hBp lp1 lp2
            have hEb : (foE p.r p.n p.d != 0) = true := by rw [bne_iff_ne]; exact hE
            generalize foE p.r p.n p.d = E at *
            clear hE
            go_wp2_with (refine wpList_row_g rfl 26 _ rfl _ rfl _ _ _ _ rr Tryd.underlying26 rfl (by kernel_rfl) ?_)
            refine (hq).mono ?_; rintro e W19 ⟨rfl, hb⟩
            replace y0 := y0.below hb y0.lt
            replace x0 := x0.below hb x0.lt
            replace rr := rr.below hb rr.lt
            replace hb0 := hb0.trans (hb.mono hb0.size); clear hb
            clear hq
            have cb : W19.cell? ⟨g1, 1, none⟩ = some (.bool p.x.bad) := x0.cell 1
            rw [hbd] at cb; clear hbd
            go_wp2_with (first | (refine wpList_store_seg rfl 26 _ _ rfl rfl w.heap.size 0 #[.int .i32 0, .int .i32 0, .int .i32 0, .int .u16 0, .int .u16 0, .int .u16 0, .int .u16 0, .int .u16 0, .int .u16 0, .int .u16 0, .int .u16 0, .int .u16 0, .int .u16 0, .int .u16 0, .int .u16 0, .int .u16 0, .int .u16 0, .int .u16 0, .int .u16 0] #[.int .i32 0, .int .i32 0, .int .i32 0, .int .u16 0, .int .u16 0, .int .u16 0, .int .u16 0, .int .u16 0, .int .u16 0, .int .u16 0, .int .u16 0, .int .u16 0, .int .u16 0, .int .u16 0, .int .u16 0, .int .u16 0, .int .u16 0, .int .u16 0, .int .u16 0] rfl rfl _ _ y0 (Nat.le_refl 19) (by kernel_rfl) (by kernel_rfl) (by kernel_rfl) ?_))
            all_goals try simp only [Exit.inBlock, Exit.then]
            all_goals refine bodyPost_ret (results_p4 (p := 2) (a := 3) (b := 4) (c := 5) rfl _ _ _ _ _ (.string ⟨#[]⟩) (.string ⟨#[]⟩) (.int .i64 4) rfl rfl rfl rfl (Blk.row y0 #[.int .i32 0, .int .i32 0, .int .i32 0, .int .u16 0, .int .u16 0, .int .u16 0, .int .u16 0, .int .u16 0, .int .u16 0, .int .u16 0, .int .u16 0, .int .u16 0, .int .u16 0, .int .u16 0, .int .u16 0, .int .u16 0, .int .u16 0, .int .u16 0, .int .u16 0]) rfl) rfl ⟨congrArg Ending.returned HV.out, below_row hb0 (Nat.le_refl _) _⟩
        | false =>
          by_cases he0 : p.e = 0
          · have he : (p.e != 0) = false := by rw [he0]; rfl
            have HV := Lib.hid (parVQ_no hp (fun q => hE q.2.2.1)).symm
            clear hp he0
            clear hTw hBp lp1 lp2
            have hEb : (foE p.r p.n p.d != 0) = true := by rw [bne_iff_ne]; exact hE
            generalize foE p.r p.n p.d = E at *
            clear hE
            go_wp2_with (refine wpList_row_g rfl 26 _ rfl _ rfl _ _ _ _ rr Tryd.underlying26 rfl (by kernel_rfl) ?_)
            refine (hq).mono ?_; rintro e W19 ⟨rfl, hb⟩
            replace y0 := y0.below hb y0.lt
            replace x0 := x0.below hb x0.lt
            replace rr := rr.below hb rr.lt
            replace hb0 := hb0.trans (hb.mono hb0.size); clear hb
            clear hq
            have cb : W19.cell? ⟨g1, 1, none⟩ = some (.bool p.x.bad) := x0.cell 1
            rw [hbd] at cb; clear hbd
            go_wp2_with (first | (refine wpList_store_seg rfl 26 _ _ rfl rfl w.heap.size 0 #[.int .i32 0, .int .i32 0, .int .i32 0, .int .u16 0, .int .u16 0, .int .u16 0, .int .u16 0, .int .u16 0, .int .u16 0, .int .u16 0, .int .u16 0, .int .u16 0, .int .u16 0, .int .u16 0, .int .u16 0, .int .u16 0, .int .u16 0, .int .u16 0, .int .u16 0] #[.int .i32 0, .int .i32 0, .int .i32 0, .int .u16 0, .int .u16 0, .int .u16 0, .int .u16 0, .int .u16 0, .int .u16 0, .int .u16 0, .int .u16 0, .int .u16 0, .int .u16 0, .int .u16 0, .int .u16 0, .int .u16 0, .int .u16 0, .int .u16 0, .int .u16 0] rfl rfl _ _ y0 (Nat.le_refl 19) (by kernel_rfl) (by kernel_rfl) (by kernel_rfl) ?_))
            all_goals try simp only [Exit.inBlock, Exit.then]
            all_goals refine bodyPost_ret (results_p4 (p := 2) (a := 3) (b := 4) (c := 5) rfl _ _ _ _ _ (.string ⟨#[]⟩) (.string ⟨#[]⟩) (.int .i64 4) rfl rfl rfl rfl (Blk.row y0 #[.int .i32 0, .int .i32 0, .int .i32 0, .int .u16 0, .int .u16 0, .int .u16 0, .int .u16 0, .int .u16 0, .int .u16 0, .int .u16 0, .int .u16 0, .int .u16 0, .int .u16 0, .int .u16 0, .int .u16 0, .int .u16 0, .int .u16 0, .int .u16 0, .int .u16 0]) rfl) rfl ⟨congrArg Ending.returned HV.out, below_row hb0 (Nat.le_refl _) _⟩
          · have he : (p.e != 0) = true := by rw [bne_iff_ne]; exact he0
            have HV := Lib.hid (parVQ_no hp (fun q => he0 q.2.1)).symm
            clear hp he0
            clear hTw hBp lp1 lp2
            have hEb : (foE p.r p.n p.d != 0) = true := by rw [bne_iff_ne]; exact hE
            generalize foE p.r p.n p.d = E at *
            clear hE
            go_wp2_with (refine wpList_row_g rfl 26 _ rfl _ rfl _ _ _ _ rr Tryd.underlying26 rfl (by kernel_rfl) ?_)
            refine (hq).mono ?_; rintro e W19 ⟨rfl, hb⟩
            replace y0 := y0.below hb y0.lt
            replace x0 := x0.below hb x0.lt
            replace rr := rr.below hb rr.lt
            replace hb0 := hb0.trans (hb.mono hb0.size); clear hb
            clear hq
            have cb : W19.cell? ⟨g1, 1, none⟩ = some (.bool p.x.bad) := x0.cell 1
            rw [hbd] at cb; clear hbd
            go_wp2_with (first | (refine wpList_store_seg rfl 26 _ _ rfl rfl w.heap.size 0 #[.int .i32 0, .int .i32 0, .int .i32 0, .int .u16 0, .int .u16 0, .int .u16 0, .int .u16 0, .int .u16 0, .int .u16 0, .int .u16 0, .int .u16 0, .int .u16 0, .int .u16 0, .int .u16 0, .int .u16 0, .int .u16 0, .int .u16 0, .int .u16 0, .int .u16 0] #[.int .i32 0, .int .i32 0, .int .i32 0, .int .u16 0, .int .u16 0, .int .u16 0, .int .u16 0, .int .u16 0, .int .u16 0, .int .u16 0, .int .u16 0, .int .u16 0, .int .u16 0, .int .u16 0, .int .u16 0, .int .u16 0, .int .u16 0, .int .u16 0, .int .u16 0] rfl rfl _ _ y0 (Nat.le_refl 19) (by kernel_rfl) (by kernel_rfl) (by kernel_rfl) ?_))
            all_goals try simp only [Exit.inBlock, Exit.then]
            all_goals refine bodyPost_ret (results_p4 (p := 2) (a := 3) (b := 4) (c := 5) rfl _ _ _ _ _ (.string ⟨#[]⟩) (.string ⟨#[]⟩) (.int .i64 4) rfl rfl rfl rfl (Blk.row y0 #[.int .i32 0, .int .i32 0, .int .i32 0, .int .u16 0, .int .u16 0, .int .u16 0, .int .u16 0, .int .u16 0, .int .u16 0, .int .u16 0, .int .u16 0, .int .u16 0, .int .u16 0, .int .u16 0, .int .u16 0, .int .u16 0, .int .u16 0, .int .u16 0, .int .u16 0]) rfl) rfl ⟨congrArg Ending.returned HV.out, below_row hb0 (Nat.le_refl _) _⟩
end Go.Proofs.YtgdgkgeoigljcaaDoor.Fo

namespace Go.Proofs.YtgdgkgeoigljcaaDoor.Fo
open Go.ChangeShapes Go.WideShapes Go.ChangeAt Go.RowKit Go.Shelf
open Go.Proofs.YtgdgkgeoigljcaaDoor
open Go.Proofs.YtgdgkgeoigljcaaDoor.Wd
open Go.Proofs.YtgdgkgeoigljcaaDoor.Rec
open Go.Proofs.YtgdgkgeoigljcaaDoor.Tb (Rc)
open Go.Proofs.YtgdgkgeoigljcaaDoor.Civ (Tab)
set_option linter.unusedVariables false
set_option linter.unusedSimpArgs false
theorem both_text (r : Rc) (a b : ByteArray) (hB : r.Bd) (ha : a.size ≤ 1000) (hbb : b.size ≤ 1000) : ∃ (T : ByteArray) (E : Int),
    (∀ w, Tab w → Lib.TabIs Tryd.prog w "internal/strconv.uint64pow10" .u64 Lib.pow10Tab → Calls Tryd.prog 6 #[r.V, .string a, .string b] w fun e w' => e = .returned (.tuple #[.string T, .int .i64 E]) ∧ Below w.heap.size w w') ∧
    (∀ w, Tab w → Calls Tryd.prog 7 #[r.V, .string a, .string b] w fun e w' => e = .returned (.tuple #[.string T, .int .i64 E]) ∧ Below w.heap.size w w') := by
  by_cases h : foE r (L a) (L b) = 0
  · exact ⟨_, _, fun w h1 h2 => ftext_ok r a b w h1 h2 hB ha hbb h, fun w h1 => rtext_ok r a b w h1 hB ha hbb h⟩
  · exact ⟨_, _, fun w h1 _ => ftext_no r a b w h1 hB ha hbb h, fun w h1 => rtext_no r a b w h1 hB ha hbb h⟩
theorem parV_form (s : ByteArray) : ∃ (x : Rc) (n d : ByteArray) (e : Int), parV (L s) = .tuple #[.agg x.A, .string n, .string d, .int .i64 e] := by
  unfold parV
  split
  · exact ⟨_, _, _, _, rfl⟩
  · exact ⟨Rc.nil, _, _, _, rfl⟩
set_option maxRecDepth 100000 in
set_option maxHeartbeats 12800000 in
theorem tells40_any (r : Rc) (a b s : ByteArray) (w : World) (hT : Tab w) (hQ : Lib.TabIs Tryd.prog w "internal/strconv.uint64pow10" .u64 Lib.pow10Tab) (hB : r.Bd) (ha : a.size ≤ maxLen) (hbb : b.size ≤ maxLen) (hs : s.size ≤ maxLen) :
    Calls Tryd.prog 3 #[r.V, .string a, .string b, .string s] w fun e w' => e = .returned (.bool true) ∧ Below w.heap.size w w' := by
  unfold maxLen at ha hbb hs
  have i0 := (Civ.Inv.start hT).alloc (.cells r.A 26)
  have r0 := Blk.new w 26 r.A
  go_enter Tryd.func3, Tryd.ntmps3
  go_upto_region 1 with fail
  generalize w.alloc (.cells r.A 26) = V0 at *
  by_cases h1 : 1000 < a.size
  · have h1' : (1000 : Int) < (a.size : Int) := by omega
    go_wp2_with fail
    refine (lives40_any V0 i0.1 ((Lib.tabBelow_of_tabIs hQ) _ i0.2)).mono ?_; rintro e V1 ⟨rfl, hb⟩
    go_wp2_with fail
    go_ret
    exact ⟨rfl, (i0.call hb).2⟩
  by_cases h2 : 1000 < b.size
  · have h2' : (1000 : Int) < (b.size : Int) := by omega
    have ka : ¬ (1000 : Int) < (a.size : Int) := by omega
    go_wp2_with fail
    refine (lives40_any V0 i0.1 ((Lib.tabBelow_of_tabIs hQ) _ i0.2)).mono ?_; rintro e V1 ⟨rfl, hb⟩
    go_wp2_with fail
    go_ret
    exact ⟨rfl, (i0.call hb).2⟩
  by_cases h3 : 1000 < s.size
  · have h3' : (1000 : Int) < (s.size : Int) := by omega
    have ka : ¬ (1000 : Int) < (a.size : Int) := by omega
    have kb : ¬ (1000 : Int) < (b.size : Int) := by omega
    go_wp2_with fail
    refine (lives40_any V0 i0.1 ((Lib.tabBelow_of_tabIs hQ) _ i0.2)).mono ?_; rintro e V1 ⟨rfl, hb⟩
    go_wp2_with fail
    go_ret
    exact ⟨rfl, (i0.call hb).2⟩
  have ka : ¬ (1000 : Int) < (a.size : Int) := by omega
  have kb : ¬ (1000 : Int) < (b.size : Int) := by omega
  have ks : ¬ (1000 : Int) < (s.size : Int) := by omega
  go_upto_region 3 with fail
  clear ka kb ks
  replace ha : a.size ≤ 1000 := by omega
  replace hbb : b.size ≤ 1000 := by omega
  replace hs : s.size ≤ 1000 := by omega
  clear h1 h2 h3
  obtain ⟨T, E, hx1, hx2⟩ := both_text r a b hB ha hbb
  obtain ⟨x, n, d, e, hp⟩ := parV_form s
  have hp1 := fun W h h2 => par_any s W h h2 hs
  have hp2 := fun W h => rpar_any s W h hs
  rw [par_same] at hp2
  rw [hp] at hp1 hp2
  clear hp
  have hn1 := fun W => nam_at (b := nameB (L a)) (s := a) W (by unfold maxLen; omega) rfl
  have hn2 := fun W => rfname_any a W (by unfold maxLen; omega)
  generalize nameB (L a) = nb at *
  go_wp2_with (refine wpList_row_g rfl 26 _ rfl _ rfl _ _ _ _ r0 Tryd.underlying26 rfl (by kernel_rfl) ?_)
  refine (hx1 _ i0.1 ((Lib.tabBelow_of_tabIs hQ) _ i0.2)).mono ?_; rintro e0 V1 ⟨rfl, hb⟩
  have i1 := i0.call hb; have r1 := r0.below hb r0.lt; clear hb hx1 i0 r0
  go_wp2_with (refine wpList_row_g rfl 26 _ rfl _ rfl _ _ _ _ r1 Tryd.underlying26 rfl (by kernel_rfl) ?_)
  refine (hx2 _ i1.1).mono ?_; rintro e0 V2 ⟨rfl, hb⟩
  have i2 := i1.call hb; clear hb hx2 i1 r1
  go_wp2_with fail
  refine (hp1 _ i2.1 ((Lib.tabBelow_of_tabIs hQ) _ i2.2)).mono ?_; rintro e0 V3 ⟨rfl, hb⟩
  have i3 := i2.call hb; clear hb hp1 i2
  go_upto_region 6 with (refine wpList_store_new rfl 26 _ _ rfl rfl V3.heap.size x.A rfl rfl _ #[.int .i32 0, .int .i32 0, .int .i32 0, .int .u16 0, .int .u16 0, .int .u16 0, .int .u16 0, .int .u16 0, .int .u16 0, .int .u16 0, .int .u16 0, .int .u16 0, .int .u16 0, .int .u16 0, .int .u16 0, .int .u16 0, .int .u16 0, .int .u16 0, .int .u16 0] V3 rfl rfl rfl (by kernel_rfl) (by kernel_rfl) ?_)
  have x4 := Blk.new V3 26 x.A; have i4 := i3.alloc (.cells x.A 26); clear i3
  generalize V3.alloc (.cells x.A 26) = V4 at *
  generalize V3.heap.size = gx at *
  go_wp2_with fail
  refine (hp2 _ i4.1).mono ?_; rintro e0 V5 ⟨rfl, hb⟩
  have i5 := i4.call hb; replace x4 := x4.below hb x4.lt; clear hb hp2 i4
  go_upto_region 7 with (refine wpList_store_new rfl 26 _ _ rfl rfl V5.heap.size x.A rfl rfl _ #[.int .i32 0, .int .i32 0, .int .i32 0, .int .u16 0, .int .u16 0, .int .u16 0, .int .u16 0, .int .u16 0, .int .u16 0, .int .u16 0, .int .u16 0, .int .u16 0, .int .u16 0, .int .u16 0, .int .u16 0, .int .u16 0, .int .u16 0, .int .u16 0, .int .u16 0] V5 rfl rfl rfl (by kernel_rfl) (by kernel_rfl) ?_)
  have y6 := Blk.new V5 26 x.A; have i6 := i5.alloc (.cells x.A 26); replace x4 := x4.alloc (.cells x.A 26); clear i5
  generalize V5.alloc (.cells x.A 26) = V6 at *
  generalize V5.heap.size = gy at *
  go_wp2_with fail
  refine (lives40_any V6 i6.1 ((Lib.tabBelow_of_tabIs hQ) _ i6.2)).mono ?_; rintro e0 V7 ⟨rfl, hb⟩
  have i7 := i6.call hb; replace x4 := x4.below hb x4.lt; replace y6 := y6.below hb y6.lt; clear hb i6
  have hq : ∀ w, (binOp .eql 26 (.agg x.A) (.agg x.A)).run Tryd.prog w = .ok (.bool true) w := fun w => (eq_rc x.b x.c x.d x.b x.c x.d x.p x.q x.p x.q w).trans (by rw [eqR_iff.2 ⟨rfl, rfl, rfl, rfl, rfl⟩])
  go_wp2_with (first | (refine wpList_row_g rfl 26 _ rfl _ rfl _ _ _ _ x4 Tryd.underlying26 rfl (by kernel_rfl) ?_) | (refine wpList_row_g rfl 26 _ rfl _ rfl _ _ _ _ y6 Tryd.underlying26 rfl (by kernel_rfl) ?_))
  refine (hn1 _).mono ?_; rintro e0 V8 ⟨rfl, hb⟩
  have i8 := i7.call hb; clear hb i7 x4 y6 hq
  go_wp2_with fail
  refine (hn2 _).mono ?_; rintro e0 V9 ⟨rfl, rfl⟩
  go_wp2_with fail
  go_ret
  exact ⟨rfl, i8.2⟩
end Go.Proofs.YtgdgkgeoigljcaaDoor.Fo
