/-
  TopRound: walked.
-/
import Derived.Test.YtnoaeejdcdeanaaDoorVaL
namespace Go.Proofs.YtnoaeejdcdeanaaDoor.Va
open Go.ChangeShapes Go.WideShapes Go.ChangeAt Go.RowKit Go.Shelf
open Go.Proofs.YtnoaeejdcdeanaaDoor
open Go.Proofs.YtnoaeejdcdeanaaDoor.Wd
open Go.Proofs.YtnoaeejdcdeanaaDoor.Sr
open Go.Proofs.YtnoaeejdcdeanaaDoor.Sl
set_option linter.unusedVariables false
set_option linter.unusedSimpArgs false
open Go.Proofs.YtnoaeejdcdeanaaDoor.Civ (Tab)
open Go.Proofs.YtnoaeejdcdeanaaDoor.Ab (Tb)
open Go.Proofs.YtnoaeejdcdeanaaDoor.Lk (own_slice nmB str_eq str_ne stV lead keys Txs own_ge)
theorem eq_fl (b : ByteArray) (w : World) : (binOp .eql 39 (.agg #[.int .i64 9, .string b]) (.agg #[.int .i64 9, .string b])).run Tryd.prog w = .ok (.bool true) w := by
  rw [run_eql_struct, run_equalIn_agg w 9999 _ #[.int .i64 9, .string b] #[.int .i64 9, .string b] (by kernel_rfl) (by kernel_rfl)]
  go_simp
set_option maxRecDepth 100000 in
set_option maxHeartbeats 25600000 in
theorem round_any (h : Hd) (S : So) (n : Int) (w : World) (hT : Tab w) (hTb : Tb w) (hS : SoR w w.heap.size h S) (hn : 0 ≤ n ∧ n ≤ 255) : Calls Tryd.prog 3 #[h.V, .int .u8 n] w (OneP w) := by
  have HTb := Lib.hid hTb; have HT := Lib.hid hT; have HS := Lib.hid hS
  have x := Blk.new w 26 h.C
  have b := bal (Below.refl _ w) (.cells h.C 26)
  clear hS hTb hT
  go_enter Tryd.func3, Tryd.ntmps3
  go_upto_region 1 with fail
  generalize w.alloc (.cells h.C 26) = W at *
  obtain ⟨g0, hg⟩ : ∃ g, w.heap.size = g := ⟨_, rfl⟩
  have x0 : Blk W g0 26 h.C := by rw [← hg]; exact x
  rw [hg]
  have Hg := Lib.hid hg; clear hg x
  have hbg := begins7_any W (HT.out.below HT.out.1 b) (HTb.out.bel b)
  go_wp2_with fail
  refine hbg.mono ?_; rintro e0 W1 ⟨rfl, hb⟩
  have x2 := x0.below hb x0.lt; have b2 := bcl b hb; clear hb x0 b hbg
  go_wp2_with (refine wpList_row_g rfl 26 _ rfl _ rfl _ _ _ _ x2 Tryd.underlying26 rfl (by kernel_rfl) ?_)
  refine (small_any h S W1 ((HS.out.below b2).more b2.size)).mono ?_; rintro e0 W3 ⟨hsm, hb⟩
  have x3 := x2.below hb x2.lt; have b3 := bcl b2 hb; clear hb x2 b2
  rcases hsm with rfl | ⟨rfl, hss⟩
  · go_wp2_with fail
    go_ret
    exact ⟨rfl, b3⟩
  · have HSS := Lib.hid hss; clear hss
    have hT3 := HT.out.below HT.out.1 b3; have hTb3 := HTb.out.bel b3; have S3 := (HS.out.below b3).more b3.size
    by_cases hw : WellP S
    · have hwl := well_any h S W3 hT3 hTb3 S3 (soz_of HSS.out) true ⟨fun _ => hw, fun _ => rfl⟩
      have HW := Lib.hid hw; clear hw hT3 hTb3 S3
      go_wp2_with (refine wpList_row_g rfl 26 _ rfl _ rfl _ _ _ _ x3 Tryd.underlying26 rfl (by kernel_rfl) ?_)
      refine hwl.mono ?_; rintro e0 W4 ⟨rfl, hb⟩
      have x4 := x3.below hb x3.lt; have b4 := bcl b3 hb; clear hb x3 b3 hwl
      have hn1 := hn.1; have hn2 := hn.2
      have wn : IntKind.i64.wrap n = n := by simp [IntKind.wrap, IntKind.bits, IntKind.signed]; omega
      have wn1 : IntKind.i64.wrap (n + 1) = n + 1 := by simp [IntKind.wrap, IntKind.bits, IntKind.signed]; omega
      go_upto_region 5 with fail
      have s5 : W4.drew.cell? ⟨g0, 0, none⟩ = some (.slice h.rA h.rn h.rc) ∧ W4.drew.cell? ⟨g0, 1, none⟩ = some (.slice h.zA h.zn h.zc) ∧ W4.drew.cell? ⟨g0, 2, none⟩ = some (.slice h.lA h.ln h.lc) := ⟨x4.cell 0, x4.cell 1, x4.cell 2⟩
      have b4d := b4.drew
      have x4d := x4.drew
      have hfr := fun W (b : Below w.heap.size w W) k hk => fresh_any h S k W ((HS.out.below b).more b.size) (soz_of HSS.out) hk
      have HFR := Lib.hid hfr; clear hfr x4 b4
      refine wp_region_held_drew (S := fun w' => w'.cell? ⟨g0, 0, none⟩ = some (.slice h.rA h.rn h.rc) ∧ w'.cell? ⟨g0, 1, none⟩ = some (.slice h.zA h.zn h.zc) ∧ w'.cell? ⟨g0, 2, none⟩ = some (.slice h.lA h.ln h.lc)) (by kernel_rfl) (s5) (fun hHeld => ?_)
      refine wpAnyH_take (i := 0) (oi := { dst := some 23, op := Op.load 26 (Operand.tmp 2), type := 26, pos := "top07.go:76", after := #[], guard := none }) (v := ?_) rfl (by kernel_rfl) (by kernel_rfl) (by kernel_rfl) (fun _ _ _ h => h) (Or.inl ⟨by rfl, ?_⟩) hHeld ?_
      rotate_left
      · intro w hSw
        try dsimp only at hSw
        go_simp
        try with_reducible rfl
      try simp only [Act.put, List.setIfInBounds_toArray, List.set_cons_zero, List.set_cons_succ]
      refine wpAnyH_take (i := 1) (oi := { dst := some 24, op := Op.move (Operand.tmp 1), type := 5, pos := "top07.go:76", after := #[], guard := none }) (v := ?_) rfl (by kernel_rfl) (by kernel_rfl) (by kernel_rfl) (fun _ _ _ h => h) (Or.inl ⟨by rfl, ?_⟩) hHeld ?_
      rotate_left
      · intro w hSw
        try dsimp only at hSw
        go_simp
        try with_reducible rfl
      try simp only [Act.put, List.setIfInBounds_toArray, List.set_cons_zero, List.set_cons_succ]
      refine wpAnyH_take (i := 2) (oi := { dst := some 25, op := Op.convert 5 3 (Operand.tmp 24), type := 3, pos := "top07.go:76", after := #[{ on := 1, ground := Ground.data }], guard := none }) (v := ?_) rfl (by kernel_rfl) (by kernel_rfl) (by kernel_rfl) (fun _ _ _ h => h) (Or.inl ⟨by rfl, ?_⟩) hHeld ?_
      rotate_left
      · intro w hSw
        try dsimp only at hSw
        go_simp
        try with_reducible rfl
      try simp only [Act.put, List.setIfInBounds_toArray, List.set_cons_zero, List.set_cons_succ]
      refine wpAnyH_take (i := 4) (oi := { dst := some 27, op := Op.load 26 (Operand.tmp 2), type := 26, pos := "top07.go:76", after := #[], guard := none }) (v := ?_) rfl (by kernel_rfl) (by kernel_rfl) (by kernel_rfl) (fun _ _ _ h => h) (Or.inl ⟨by rfl, ?_⟩) hHeld ?_
      rotate_left
      · intro w hSw
        try dsimp only at hSw
        go_simp
        try with_reducible rfl
      try simp only [Act.put, List.setIfInBounds_toArray, List.set_cons_zero, List.set_cons_succ]
      refine wpAnyH_take (i := 5) (oi := { dst := some 28, op := Op.move (Operand.tmp 1), type := 5, pos := "top07.go:76", after := #[], guard := none }) (v := ?_) rfl (by kernel_rfl) (by kernel_rfl) (by kernel_rfl) (fun _ _ _ h => h) (Or.inl ⟨by rfl, ?_⟩) hHeld ?_
      rotate_left
      · intro w hSw
        try dsimp only at hSw
        go_simp
        try with_reducible rfl
      try simp only [Act.put, List.setIfInBounds_toArray, List.set_cons_zero, List.set_cons_succ]
      refine wpAnyH_take (i := 6) (oi := { dst := some 29, op := Op.convert 5 3 (Operand.tmp 28), type := 3, pos := "top07.go:76", after := #[{ on := 5, ground := Ground.data }], guard := none }) (v := ?_) rfl (by kernel_rfl) (by kernel_rfl) (by kernel_rfl) (fun _ _ _ h => h) (Or.inl ⟨by rfl, ?_⟩) hHeld ?_
      rotate_left
      · intro w hSw
        try dsimp only at hSw
        go_simp
        try with_reducible rfl
      try simp only [Act.put, List.setIfInBounds_toArray, List.set_cons_zero, List.set_cons_succ]
      refine wpAnyH_take (i := 7) (oi := { dst := some 30, op := Op.binOp BinOp.add 3 (Operand.tmp 29) (Operand.const (Value.int IntKind.i64 1)) 3, type := 3, pos := "top07.go:76", after := #[{ on := 6, ground := Ground.data }], guard := none }) (v := ?_) rfl (by kernel_rfl) (by kernel_rfl) (by kernel_rfl) (fun _ _ _ h => h) (Or.inl ⟨by rfl, ?_⟩) hHeld ?_
      rotate_left
      · intro w hSw
        try dsimp only at hSw
        go_simp
        try with_reducible rfl
      try simp only [Act.put, List.setIfInBounds_toArray, List.set_cons_zero, List.set_cons_succ]
      refine wpAnyH_ready (rs := [3]) (by kernel_rfl) (by simp) ?_
      refine AllReadyH.cons (o := { dst := some 26, op := Op.call { callee := Callee.value (Operand.func 8), args := #[Operand.tmp 23, Operand.tmp 25], argTypes := #[26, 3] }, type := 9, pos := "top07.go:76", after := #[{ on := 0, ground := Ground.data }, { on := 2, ground := Ground.data }], guard := none }) rfl (fun K hK => ?_) (AllReadyH.nil)
      go_simp
      refine (HFR.out _ b4d (n) (by omega)).mono ?_; rintro e0 V_1 ⟨a, rfl, ha1, ha2, hb_1⟩
      have Ha2 := Lib.hid ha2; clear ha2
      try go_wp2_with fail
      have b_1 := bcl b4d hb_1; have x_1 := x4d.below hb_1 x4d.lt
      refine hK.out _ _ (⟨(hb_1.cell (p := ⟨g0, 0, none⟩) x4d.lt).trans hHeld.1, (hb_1.cell (p := ⟨g0, 1, none⟩) x4d.lt).trans hHeld.2.1, (hb_1.cell (p := ⟨g0, 2, none⟩) x4d.lt).trans hHeld.2.2⟩) (fun hHeld2 => ?_)
      clear hK K hHeld; have hHeld := hHeld2; clear hHeld2
      try simp only [Act.put, List.setIfInBounds_toArray, List.set_cons_zero, List.set_cons_succ]
      refine wpAnyH_ready (rs := [8]) (by kernel_rfl) (by simp) ?_
      refine AllReadyH.cons (o := { dst := some 31, op := Op.call { callee := Callee.value (Operand.func 8), args := #[Operand.tmp 27, Operand.tmp 30], argTypes := #[26, 3] }, type := 9, pos := "top07.go:76", after := #[{ on := 4, ground := Ground.data }, { on := 7, ground := Ground.data }, { on := 3, ground := Ground.chain }], guard := none }) rfl (fun K hK => ?_) (AllReadyH.nil)
      go_simp
      refine (HFR.out _ b_1 (n + 1) (by omega)).mono ?_; rintro e0 V_2 ⟨b, rfl, hb1, hb2, hb_2⟩
      have Hb2 := Lib.hid hb2; clear hb2
      try go_wp2_with fail
      have b_2 := bcl b_1 hb_2; have x_2 := x_1.below hb_2 x_1.lt
      refine hK.out _ _ (⟨(hb_2.cell (p := ⟨g0, 0, none⟩) x_1.lt).trans hHeld.1, (hb_2.cell (p := ⟨g0, 1, none⟩) x_1.lt).trans hHeld.2.1, (hb_2.cell (p := ⟨g0, 2, none⟩) x_1.lt).trans hHeld.2.2⟩) (fun hHeld2 => ?_)
      clear hK K hHeld; have hHeld := hHeld2; clear hHeld2
      try simp only [Act.put, List.setIfInBounds_toArray, List.set_cons_zero, List.set_cons_succ]
      refine wpAnyH_take (i := 9) (oi := { dst := some 5, op := Op.assign (Operand.tmp 26), type := 9, pos := "top07.go:76", after := #[{ on := 3, ground := Ground.data }, { on := 8, ground := Ground.chain }, { on := 0, ground := Ground.phase }, { on := 1, ground := Ground.phase }, { on := 2, ground := Ground.phase }, { on := 3, ground := Ground.phase }, { on := 4, ground := Ground.textOnly Departure.lateStores }, { on := 5, ground := Ground.textOnly Departure.lateStores }, { on := 6, ground := Ground.textOnly Departure.lateStores }, { on := 7, ground := Ground.textOnly Departure.lateStores }, { on := 8, ground := Ground.textOnly Departure.lateStoresUnsure }], guard := none }) (v := ?_) rfl (by kernel_rfl) (by kernel_rfl) (by kernel_rfl) (fun _ _ _ h => h) (Or.inl ⟨by rfl, ?_⟩) hHeld ?_
      rotate_left
      · intro w hSw
        try dsimp only at hSw
        go_simp
        try with_reducible rfl
      try simp only [Act.put, List.setIfInBounds_toArray, List.set_cons_zero, List.set_cons_succ]
      refine wpAnyH_take (i := 10) (oi := { dst := some 6, op := Op.assign (Operand.tmp 31), type := 9, pos := "top07.go:76", after := #[{ on := 8, ground := Ground.data }, { on := 9, ground := Ground.chain }, { on := 0, ground := Ground.phase }, { on := 1, ground := Ground.phase }, { on := 2, ground := Ground.phase }, { on := 3, ground := Ground.phase }, { on := 4, ground := Ground.phase }, { on := 5, ground := Ground.phase }, { on := 6, ground := Ground.phase }, { on := 7, ground := Ground.phase }, { on := 8, ground := Ground.phase }, { on := 9, ground := Ground.phase }], guard := none }) (v := ?_) rfl (by kernel_rfl) (by kernel_rfl) (by kernel_rfl) (fun _ _ _ h => h) (Or.inl ⟨by rfl, ?_⟩) hHeld ?_
      rotate_left
      · intro w hSw
        try dsimp only at hSw
        go_simp
        try with_reducible rfl
      try simp only [Act.put, List.setIfInBounds_toArray, List.set_cons_zero, List.set_cons_succ]
      refine wpAnyH_done (by kernel_rfl) ?_ _
      clear hHeld
      obtain ⟨W5, rfl⟩ : ∃ W : World, W = V_2 := ⟨_, rfl⟩
      have x5 := x_2; have b5 := b_2
      clear s5 HFR wn wn1 b4d x4d
      skip
      by_cases hab : a = b
      · have e1 := str_eq hab
        clear hab
        go_wp2_with fail
        go_ret
        exact ⟨rfl, b5⟩
      · have e1 := str_ne hab
        have HAB := Lib.hid hab; clear hab
        by_cases ha60 : a.size ≤ 60
        · have hI : ¬ (60 : Int) < (a.size : Int) := by omega
          by_cases hb60 : b.size ≤ 60
          · have hI2 : ¬ (60 : Int) < (b.size : Int) := by omega
            obtain ⟨han, har⟩ := Ha2.out ha60
            obtain ⟨hbn, hbr⟩ := Hb2.out hb60
            obtain ⟨hfl, hla, hlb, hwk⟩ := round HW.out.2 han hbn HAB.out
            have hok : SoOk (moreL S [⟨a, b⟩, ⟨b, a⟩]) := sook_more HW.out.1 (fun l hl => by
              simp only [List.mem_cons, List.not_mem_nil, or_false] at hl
              rcases hl with rfl | rfl
              · exact ⟨har, hbr⟩
              · exact ⟨hbr, har⟩)
            have HFL := Lib.hid hfl; have HLA := Lib.hid hla; have HLB := Lib.hid hlb; have HWK := Lib.hid hwk; have HOK := Lib.hid hok; clear hfl hla hlb hwk hok han har hbn hbr
            obtain ⟨i0, hi0, hz1, hz2, hz3⟩ := info_parts info_lk
            have HI := Lib.hid hi0; clear hi0
            have q1 := HS.out.zm; have q2 := HS.out.lm; have q3 := HSS.out.ln; have q4 := HSS.out.zn
            have x13 := x5.alloc (.cells h.C 26); have y13 := Blk.new W5 26 h.C; have b13 := bal b5 (.cells h.C 26)
            go_upto_region 9 with (first | (refine wpList_row_g rfl 26 _ rfl _ rfl _ _ _ _ x5 Tryd.underlying26 rfl (by kernel_rfl) ?_) | (refine wpList_store_new rfl 26 _ _ rfl rfl W5.heap.size h.C rfl rfl _ #[.slice none 0 0, .slice none 0 0, .slice none 0 0] W5 rfl rfl rfl (by kernel_rfl) (by kernel_rfl) ?_))
            have xl : g0 < W5.heap.size := x5.lt
            have wl : w.heap.size ≤ W5.heap.size := b5.size
            obtain ⟨gt, hgt⟩ : ∃ gt, W5.heap.size = gt := ⟨_, rfl⟩
            rw [hgt] at y13 xl wl ⊢
            generalize W5.alloc (.cells h.C 26) = W13 at *
            have hgt13 : gt < W13.heap.size := y13.lt
            have o0 := own_lit0 (base := W13.heap.size) W13 (Nat.le_refl _)
            have c14 := (Below.refl gt W13).alloc (Nat.le_of_lt hgt13) (.cells (#[] : Array Value) 32)
            have y14 := y13.alloc (.cells (#[] : Array Value) 32); have x14 := x13.alloc (.cells (#[] : Array Value) 32)
            have d2 : (W13.alloc (.cells (#[] : Array Value) 32)).cell? ⟨g0, 2, none⟩ = some (.slice h.lA h.ln h.lc) := x14.cell 2
            have hrd := (HS.out.below (b13.trans (c14.mono wl))).l.r
            have s14 : W13.heap.size ≤ (W13.alloc (.cells (#[] : Array Value) 32)).heap.size := by rw [sz1 _ _ rfl]; omega
            go_upto_region 10 with (first
  | (at_builtin; refine wpList_append_any _ rfl (.tmp 46) (.tmp 48) 24 rfl W13.heap.size 32 i0 _ 2 32 Tryd.underlying24 HI.out hz1 hz2 hz3 rfl (by decide) _ 0 _ rfl o0 _ _ h.ln h.lc (flat Li.C S.ls) rfl hrd (flat_cells li_one _) (by unfold maxLen; omega) (by omega) s14 ?_; intro v15 w15 o15 g15 at15
     have r0 := fun g (e : _ = some g) => own_ge o0 g e
     have c15 := c14.grown g15 (Nat.le_of_lt (by rw [sz1 _ _ rfl]; omega)) (fun g e => by have := (r0 g e).1; omega)
     have y15 := y14.grown g15 (fun e => by have := (r0 _ e.symm).1; omega)
     have s15 := Nat.le_trans s14 g15.size
     rw [List.nil_append] at o15
     clear c14 y14 x14 d2 hrd s14 o0 r0 g15 at15
     have c16 := c15.alloc (Nat.le_trans (Nat.le_of_lt hgt13) s15) (.cells #[.string a, .string b, .string b, .string a] 32)
     have y16 := y15.alloc (.cells #[.string a, .string b, .string b, .string a] 32)
     have o16 := o15.alloc (.cells #[.string a, .string b, .string b, .string a] 32)
     have q16 := (Sls.of_blk (f := Li.C) (sz := 2) (L := [⟨a, b⟩, ⟨b, a⟩]) (fun _ => rfl) (Blk.new w15 32 #[.string a, .string b, .string b, .string a]) rfl).r
     have s16 : W13.heap.size ≤ (w15.alloc (.cells #[.string a, .string b, .string b, .string a] 32)).heap.size := by rw [sz1 _ _ rfl]; omega
     clear c15 y15 o15 s15)
  | (at_builtin; refine wpList_append_any _ rfl (.tmp 49) (.tmp 56) 24 rfl W13.heap.size 32 i0 _ 2 32 Tryd.underlying24 HI.out hz1 hz2 hz3 rfl (by decide) _ (0 + h.ln) _ rfl o16 _ _ 2 2 _ rfl q16 (flat_cells li_one _) (by unfold maxLen; omega) (by omega) s16 ?_; intro v17 w17 o17 g17 at17
     obtain ⟨A5, c5, rfl⟩ := own_slice o17
     have r16 := fun g (e : _ = some g) => own_ge o16 g e
     have c17 := c16.grown g17 (Nat.le_trans (Nat.le_of_lt hgt13) s16) (fun g e => by have := (r16 g e).1; omega)
     have y17 := y16.grown g17 (fun e => by have := (r16 _ e.symm).1; omega)
     have s17 := Nat.le_trans s16 g17.size
     rw [← flat_append] at o17
     simp only [Nat.zero_add] at o17
     clear c16 y16 o16 q16 s16 r16 g17 at17
     have y17c : w17.cell? ⟨gt, 2, none⟩ = some (.slice h.lA h.ln h.lc) := y17.cell 2
     have y17f := y17.frozen 2
     have c18 := c17.setCell (p := ⟨gt, 2, none⟩) (Nat.le_refl gt) (.slice A5 (h.ln + 2) c5)
     have y18 : Blk (w17.setCell ⟨gt, 2, none⟩ (.slice A5 (h.ln + 2) c5)) gt 26 (moreH h A5 (h.ln + 2) c5).C := y17.set_ 2 (.slice A5 (h.ln + 2) c5)
     have hgr := g_cell w17 ⟨gt, 2, none⟩ (.slice A5 (h.ln + 2) c5)
     have o18 := o17.kept hgr (.inr (fun e => by have := (own_ge o17 gt e).1; omega))))
            have b18 := b13.trans (c18.mono wl)
            have K : SoR (w17.setCell ⟨gt, 2, none⟩ (.slice A5 (h.ln + 2) c5)) (w17.setCell ⟨gt, 2, none⟩ (.slice A5 (h.ln + 2) c5)).heap.size (moreH h A5 (h.ln + 2) c5) (moreL S [⟨a, b⟩, ⟨b, a⟩]) := more_ok ((HS.out.below b18).more b18.size) (Sls.of_own (by rw [List.length_append, HS.out.l.len]; rfl) o18) (Below.refl _ _) (fun l hl => by
              simp only [List.mem_cons, List.not_mem_nil, or_false] at hl
              unfold LiOk maxLen
              rcases hl with rfl | rfl <;> exact ⟨by dsimp only; omega, by dsimp only; omega⟩) (by unfold maxLen; omega) (own_cap o18)
            have hZT : SoZ (moreH h A5 (h.ln + 2) c5) (moreL S [⟨a, b⟩, ⟨b, a⟩]) := soz_more HSS.out (l := [⟨a, b⟩, ⟨b, a⟩]) (show 2 ≤ 2 by decide) (fun l hl => by
              simp only [List.mem_cons, List.not_mem_nil, or_false] at hl
              unfold LiS
              rcases hl with rfl | rfl <;> exact ⟨by dsimp only; omega, by dsimp only; omega⟩)
            generalize w17.setCell ⟨gt, 2, none⟩ (.slice A5 (h.ln + 2) c5) = U at *
            clear o17 y17 y17c y17f c17 hgr o18 c18 x13 y13 b13 s17 hgt13 hz1 hz2 hz3 HI
            generalize moreL S [⟨a, b⟩, ⟨b, a⟩] = T at *
            obtain ⟨hT2, hhT⟩ : ∃ q, (moreH h A5 (h.ln + 2) c5) = q := ⟨_, rfl⟩
            rw [hhT] at K hZT y18; clear hhT
            have HZT := Lib.hid hZT; clear hZT
            have tz := HZT.out.zn; have tl := HZT.out.ln
            have hfw := flaws_any hT2 T U (HT.out.below HT.out.1 b18) K HZT.out
            go_wp2_with (refine wpList_row_g rfl 26 _ rfl _ rfl _ _ _ _ y18 Tryd.underlying26 rfl (by kernel_rfl) ?_)
            refine hfw.mono ?_; rintro e0 U1 ⟨A9, c9, rfl, hsl, hb⟩
            rw [HFL.out] at hsl ⊢
            have y1 := y18.below hb y18.lt; have b1 := bcl b18 hb; have K1 := (K.below hb).more hb.size; clear hb y18 b18 K hfw
            have hza := Lk.zone_any hT2 T a U1 K1 (by unfold maxLen; omega) (by omega) (by omega)
            rw [HLA.out] at hza
            go_wp2_with (refine wpList_row_g rfl 26 _ rfl _ rfl _ _ _ _ y1 Tryd.underlying26 rfl (by kernel_rfl) ?_)
            refine hza.mono ?_; rintro e0 U2 ⟨rfl, hb⟩
            have y2 := y1.below hb y1.lt; have b2 := bcl b1 hb; have K2 := (K1.below hb).more hb.size; replace hsl := (hsl.below hb).more hb.size; clear hb y1 b1 K1 hza
            have hzb := Lk.zone_any hT2 T b U2 K2 (by unfold maxLen; omega) (by omega) (by omega)
            rw [HLB.out] at hzb
            go_wp2_with (refine wpList_row_g rfl 26 _ rfl _ rfl _ _ _ _ y2 Tryd.underlying26 rfl (by kernel_rfl) ?_)
            refine hzb.mono ?_; rintro e0 U3 ⟨rfl, hb⟩
            have y3 := y2.below hb y2.lt; have b3' := bcl b2 hb; have K3 := (K2.below hb).more hb.size; replace hsl := (hsl.below hb).more hb.size; clear hb y2 b2 K2 hzb
            obtain ⟨ad, eA, r0⟩ := hsl.row (fun _ => rfl) Fl.nil (show 0 < 2 by decide)
            obtain ⟨ad', eA', r1⟩ := hsl.row (fun _ => rfl) Fl.nil (show 1 < 2 by decide)
            subst eA
            obtain rfl := Option.some.inj eA'
            clear eA' hsl
            have r00 : Row U3 U3.heap.size ad #[.int .i64 9, .string b] := row_0 r0
            have r10 : Row U3 U3.heap.size ⟨ad.block, ad.off + 2, none⟩ #[.int .i64 9, .string a] := row_form (by decide) r1
            have r11 : Row U3 U3.heap.size (ad.add 2) #[.int .i64 9, .string a] := r1
            have eb := eq_fl b; have ea := eq_fl a
            have hch := Lk.chain_any hT2 T a U3 K3 (by unfold maxLen; omega) (by omega) (by omega)
            go_wp2_with (first | (refine wpList_at_g rfl 39 _ rfl U3.heap.size _ #[.int .i64 9, .string b] rfl _ r00 Tryd.underlying39 rfl (by kernel_rfl) ?_) | (refine wpList_at_g rfl 39 _ rfl U3.heap.size _ #[.int .i64 9, .string a] rfl _ r11 Tryd.underlying39 rfl (by kernel_rfl) ?_) | (refine wpList_at_g rfl 39 _ rfl U3.heap.size _ #[.int .i64 9, .string a] rfl _ r10 Tryd.underlying39 rfl (by kernel_rfl) ?_) | (refine wpList_row_g rfl 26 _ rfl _ rfl _ _ _ _ y3 Tryd.underlying26 rfl (by kernel_rfl) ?_))
            refine hch.mono ?_; rintro e0 U4 ⟨A10, c10, cb, rfl, ⟨-, hc⟩, hb⟩
            have hcl : cb.length = 2 := by have h1 := hc.wk 2; rw [show 2 + (keys cb).length + 1 = (keys cb).length + 3 by omega, HWK.out] at h1; have h2 := congrArg List.length (Option.some.inj h1); have h3 : (keys cb).length = cb.length := List.length_map ..; simp at h2; omega
            rw [hcl]
            have y4 := y3.below hb y3.lt; have b4' := bcl b3' hb; have K4 := (K3.below hb).more hb.size; clear hb y3 b3' K3 hch hc hcl r00 r10 r11 r0 r1 ea eb
            have hwl := well_any hT2 T U4 (HT.out.below HT.out.1 b4') (HTb.out.bel b4') K4 HZT.out false ⟨fun q => (by cases q), fun q => by have := q.2; rw [HFL.out] at this; cases this⟩
            go_wp2_with (refine wpList_row_g rfl 26 _ rfl _ rfl _ _ _ _ y4 Tryd.underlying26 rfl (by kernel_rfl) ?_)
            refine hwl.mono ?_; rintro e0 U5 ⟨rfl, hb⟩
            have y5 := y4.below hb y4.lt; have b5' := bcl b4' hb; have K5 := (K4.below hb).more hb.size; clear hb y4 b4' K4 hwl
            have hck := src_any hT2 T U5 (HTb.out.bel b5') K5 HZT.out
            rw [soE_0.2 HOK.out] at hck
            go_wp2_with (refine wpList_row_g rfl 26 _ rfl _ rfl _ _ _ _ y5 Tryd.underlying26 rfl (by kernel_rfl) ?_)
            refine hck.mono ?_; rintro e0 U6 ⟨rfl, hb⟩
            have b6 := bcl b5' hb; clear hb y5 b5' K5 hck
            go_wp2_with fail
            go_ret
            exact ⟨rfl, b6⟩
          · have hI2 : (60 : Int) < (b.size : Int) := by omega
            go_wp2_with fail
            go_ret
            exact ⟨rfl, b5⟩
        · have hI : (60 : Int) < (a.size : Int) := by omega
          go_wp2_with fail
          go_ret
          exact ⟨rfl, b5⟩
    · have hwl := well_any h S W3 hT3 hTb3 S3 (soz_of HSS.out) false ⟨fun q => (by cases q), fun q => absurd q hw⟩
      clear hw hT3 hTb3 S3
      go_wp2_with (refine wpList_row_g rfl 26 _ rfl _ rfl _ _ _ _ x3 Tryd.underlying26 rfl (by kernel_rfl) ?_)
      refine hwl.mono ?_; rintro e0 W4 ⟨rfl, hb⟩
      have b4 := bcl b3 hb; clear hb hwl
      go_wp2_with fail
      go_ret
      exact ⟨rfl, b4⟩
end Go.Proofs.YtnoaeejdcdeanaaDoor.Va
