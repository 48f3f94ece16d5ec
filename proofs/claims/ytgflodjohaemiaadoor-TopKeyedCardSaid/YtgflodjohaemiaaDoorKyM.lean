/-
  CHARTS: HIVES: Put: walked.
-/
import Derived.Test.YtgflodjohaemiaaDoorKyL
import Derived.Deep.CutBlock
namespace Go.Proofs.YtgflodjohaemiaaDoor.Ky
open Go.ChangeShapes Go.WideShapes Go.ChangeAt Go.RowKit Go.Maps
open Go.Proofs.YtgflodjohaemiaaDoor
open Go.Proofs.YtgflodjohaemiaaDoor.Wd
open Go.Proofs.YtgflodjohaemiaaDoor.Sl
open Go.Proofs.YtgflodjohaemiaaDoor.Mp (Smap wpList_look_yes wpList_look_no wpList_mput mput mput_same mput_other kS hR)
open Go.Proofs.YtgflodjohaemiaaDoor.Mr (Rmap rk row_key rowV)
open Go.Proofs.YtgflodjohaemiaaDoor.Utf (L)
set_option linter.unusedVariables false
set_option linter.unusedSimpArgs false
theorem ky_inf : (Tryd.prog.info? 45).map (fun i => (i.zero, i.size, i.bytes)) = some (some (.agg #[.string ⟨#[]⟩, .slice none 0 0]), 2, 40) := by kernel_rfl
theorem hk_all (k : Hk) : (Hk.C k).all (·.oneCell') = true := by simp [Value.oneCell']
theorem run_copy_wp {P : Program} {w w' : World} {ops : Array Oper} {rest : List Oper} {o : Oper} {a : Act} {Q : Exit → Act → World → Prop} (hgd : o.guard = none) (d s : Operand) (t : TypeId)
    (ho : o.op = .call { callee := .builtin .copy, args := #[d, s], argTypes := #[t, t] }) (x y r : Value) (hd : a.eval d = x) (hs : a.eval s = y)
    (hrun : (Builtin.copy_ #[t, t] o.type #[x, y]).run P w = .ok r w')
    (h : wpList P ops Q rest (a.put o.dst r) w') : wpList P ops Q (o :: rest) a w := by
  refine wpList_plain hgd fun K hK => ?_
  unfold Oper.wp
  simp [execOp, ho, resolve, invoke, builtin, hd, hs, hrun, Result.andThen]
  exact hK _ _ h
theorem res_ct {fn : Func} {p q : Tmp} {T : TypeId} (h : fn.results = #[.cell p T, .tmp q]) (tmps : Array Value) (w : World) (g : Nat) (t : TypeId) (cs : Array Value) (v : Value) (d : TypeDesc)
    (hp : tmps.getD p undef = .pointer (some ⟨g, 0, none⟩)) (hq : tmps.getD q undef = v) (hg : Blk w g t cs)
    (hu : Tryd.prog.underlying T = some d) (hd : (match d with | .struct _ | .array _ _ => true | _ => false) = true) (hi : (Tryd.prog.info? T).map (·.size) = some cs.size) :
    (results fn tmps).run Tryd.prog w = .ok (.tuple #[.agg cs, v]) w := by
  have hp' : tmps[p]?.getD undef = .pointer (some ⟨g, 0, none⟩) := by simpa using hp
  have hq' : tmps[q]?.getD undef = v := by simpa using hq
  have hl : (loadVar T ⟨g, 0, none⟩).run Tryd.prog w = .ok (.agg cs) w := run_loadVar_row w g t T cs (0, 0) d hg hu (by cases d <;> first | rfl | exact hd) hi
  simp [results, h, hp', hq', asAddr, hl]
/-- right contents of a key -/
def CtGd (x : ByteArray × Nat × List Vl) : Prop := PathOk x.1 ∧ x.2.1 ≤ 1 ∧ ∀ v ∈ x.2.2, VlOk v
theorem HkGd.of_ct {k : Hk} (h : CtGd k.ct) : HkGd k := ⟨h.1, h.2.1, h.2.2⟩
/-- what Put answers at a right hive and a new path -/
def PuP (w' : World) (X0 : Nat → Prop) (cts : List (ByteArray × Nat × List Vl)) (x : Ending) : Prop :=
  ∃ A' n' c' hs', x = .returned (.tuple #[.agg #[.slice A' n' c'], .int .i64 0]) ∧ HvR w' w'.heap.size A' n' hs' ∧ hs'.map Hk.ct = cts ∧ (∀ a, A' = some a → ¬ X0 a.block) ∧ ∀ k ∈ hs', 0 < k.n → ∀ a, k.A = some a → ¬ X0 a.block
theorem mem_ct {hs : List Hk} {cts : List (ByteArray × Nat × List Vl)} {Q : ByteArray × Nat × List Vl → Prop} (h : hs.map Hk.ct = cts) (hq : ∀ x ∈ cts, Q x) : ∀ k ∈ hs, Q k.ct := fun k hk => hq _ (by rw [← h]; exact List.mem_map.2 ⟨k, hk, rfl⟩)
theorem fi_none {path : ByteArray} {hs : List Hk} (h : ∀ k ∈ hs, L k.p ≠ L path) : fiV (plP path) hs = -1 :=
  fi_no (d := Hk.nil) fun j hj => decide_eq_false (h _ (getD_mem (L := hs) Hk.nil hj))
set_option maxRecDepth 100000 in
set_option maxHeartbeats 25600000 in
theorem put_any (Ad : Option Addr) (n c B : Nat) (hs : List Hk) (path : ByteArray) (Al : Option Addr) (m cl : Nat) (vs : List Vl) (X0 : Nat → Prop) (w : World) (h0A : ∀ b, X0 b → b < w.heap.size) (h0k : ∀ k ∈ hs, 0 < k.n → ∀ a, k.A = some a → ¬ X0 a.block) (hM : MaxC w) (hR : HvR w B Ad n hs) (hB : B ≤ w.heap.size) (hn : n < 4096)
    (hg : ∀ k ∈ hs, CtGd k.ct) (hd : (hs.map fun k => L k.p).Nodup) (hp : PathOk path) (hnew : ∀ k ∈ hs, L k.p ≠ L path) (hL : Sls Vl.C 5 w B Al m vs) (hm : m ≤ 1) (hv : ∀ v ∈ vs, VlOk v) :
    Calls Tryd.prog 9 #[.agg #[.slice Ad n c], .string path, .slice Al m cl] w fun x w' => PuP w' X0 (hs.map Hk.ct ++ [(path, m, vs)]) x ∧ Below w.heap.size w w' := by
  have hlen := hR.s.len
  have hlt0 := hM.lt
  obtain ⟨i0, hi0, hz0, hz1, hz2⟩ := info_parts ky_inf
  have HI := Lib.hid hi0
  have hszk : (Tryd.prog.info? 45).map (·.size) = some 2 := by rw [hi0]; exact congrArg some hz1
  have hw1 : IntKind.i64.wrap ((n : Int) + 1) = ((n + 1 : Nat) : Int) := by simp [IntKind.wrap, IntKind.bits, IntKind.signed]; omega
  have hmk := fun W => run_makeSlice (P := Tryd.prog) W 27 45 i0 _ Tryd.underlying27 hi0 hz0 .i64 .i64 (n : Int) ((n : Int) + 1) (by omega) (by omega) (by rw [hz1]; omega) (by rw [hz2]; omega) (by omega)
  rw [hz1, show ((n : Int) + 1).toNat = n + 1 by omega, Int.toNat_natCast] at hmk
  clear hi0
  have b1 := bal (Below.refl _ w) (.cells #[.slice Ad n c] 29)
  have x1 := Blk.new w 29 #[.slice Ad n c]
  have b2 := bal b1 (.cells #[.slice none 0 0] 29)
  have x2 := Blk.new (w.alloc (.cells #[.slice Ad n c] 29)) 29 #[.slice none 0 0]
  have y1 := x1.alloc (.cells #[.slice none 0 0] 29)
  rw [size_al] at x2
  clear x1 b1
  have hck := fun W (b : Below w.heap.size w W) => hcheck_any Ad n c B hs W (hM.below b hlt0) (hR.below (b.mono hB)) (Nat.le_trans hB b.size) (by omega) (fun k hk => HkGd.of_ct (hg k hk)) hd
  have hpl := fun W (b : Below w.heap.size w W) => place_any Ad n c B hs path W (hR.s.below (b.mono hB)) (Nat.le_trans hB b.size) (by unfold maxLen; omega)
  simp only [fi_none hnew] at hpl
  have HCP := Lib.hid (fun W ty g cur (hgb : Blk W g 45 cur) T (b : Below w.heap.size w W) => run_copy_keys (P := Tryd.prog) W 27 ty 45 g (n + 1) n Ad c B hs cur T Tryd.underlying27 hszk hgb (hR.s.below (b.mono hB)))
  have HHK := Lib.hid (fun W X (b : Below w.heap.size w W) (hX : ∀ b, X b → B ≤ b ∨ X0 b) k hk => show HkX W X k from ⟨((hR.m k hk).below (b.mono hB)).more (Nat.le_trans hB b.size), fun hp0 a e => by
    obtain ⟨ad, e2, hlt, _⟩ := (hR.m k hk).r.2 hp0
    rw [e2] at e; injection e with e; subst e; exact fun h => by
      rcases hX _ h with h | h
      · omega
      · exact h0k k hk hp0 _ e2 h⟩)
  have HPU := Lib.hid (fun W (b : Below w.heap.size w W) => putm_any Al m cl B vs W (hL.below (b.mono hB)) (Nat.le_trans hB b.size) hm hv)
  have HMB := Lib.hid (fun W (b : Below w.heap.size w W) => hM.below b hlt0)
  go_enter Tryd.func9, Tryd.ntmps9
  go_upto_region 1 with fail
  obtain ⟨q, hq⟩ : ∃ q, w.heap.size = q := ⟨_, rfl⟩
  have hqw : w.heap.size ≤ q := Nat.le_of_eq hq
  have hBq : B ≤ q := by omega
  rw [hq] at x2 y1 ⊢
  generalize (w.alloc (.cells #[.slice Ad n c] 29)).alloc (.cells #[.slice none 0 0] 29) = V at *
  have hq2 := x2.lt
  go_wp2_with (refine wpList_row_g rfl 29 _ rfl _ rfl _ _ _ _ y1 Tryd.underlying29 rfl (by kernel_rfl) ?_)
  refine (hck _ b2).mono ?_; rintro x w1 ⟨rfl, b3⟩
  have x3 := x2.below b3 hq2
  have y3 := y1.below b3 y1.lt
  have b3 := bcl b2 b3
  have hq3 := x3.lt
  clear hck x2 y1 b2
  have c3 : w1.cell? ⟨q, 0, none⟩ = some (.slice Ad n c) := y3.cell 0
  have b4 := bal b3 (.cells (madeCells #[.string ⟨#[]⟩, .slice none 0 0] ((n + 1) * 2)) 45)
  have k4 := Blk.new w1 45 (madeCells #[.string ⟨#[]⟩, .slice none 0 0] ((n + 1) * 2))
  have x4 := x3.alloc (.cells (madeCells #[.string ⟨#[]⟩, .slice none 0 0] ((n + 1) * 2)) 45)
  have y4 := y3.alloc (.cells (madeCells #[.string ⟨#[]⟩, .slice none 0 0] ((n + 1) * 2)) 45)
  go_upto_region 4 with fail
  obtain ⟨g, hgd⟩ : ∃ g, w1.heap.size = g := ⟨_, rfl⟩
  rw [hgd] at k4 hq3 ⊢
  have hw1s := b3.size
  have s4 := size_al w1 (.cells (madeCells #[.string ⟨#[]⟩, .slice none 0 0] ((n + 1) * 2)) 45)
  generalize hcur : madeCells #[.string ⟨#[]⟩, .slice none 0 0] ((n + 1) * 2) = cur at *
  have hcs : cur.size = (n + 1) * 2 := by rw [← hcur]; exact size_madeCells _ _
  generalize w1.alloc (.cells cur 45) = V4 at *
  rw [hgd] at s4 hw1s
  obtain ⟨T, hT⟩ : ∃ T, cur.toList.drop (n * 2) = T := ⟨_, rfl⟩
  have hTl : T.length = 2 := by rw [← hT, List.length_drop, Array.length_toList, hcs]; omega
  obtain ⟨w5, hrun, k5, -, s5, b5⟩ := HCP.out V4 3 g cur k4 T b4 hcs hT
  have x5 := x4.below b5 hq3
  have y5 := y4.below b5 (by omega)
  have hb5 : Below w.heap.size w w5 := b4.trans (b5.mono (by omega))
  have c4 : V4.cell? ⟨q, 0, none⟩ = some (.slice Ad n c) := y4.cell 0
  clear HCP hT hcur
  go_upto_region 5 with (at_builtin; refine run_copy_wp rfl (.tmp 24) (.tmp 26) 27 rfl _ _ _ rfl rfl hrun ?_)
  clear k4 x4 y4 b5 b4 c4 hrun c3 y3 x3 b3 hmk
  have hXX : ∀ k ∈ hs, HkX w5 (fun b => b = g ∨ b = q + 1 ∨ X0 b) k := HHK.out w5 _ hb5 (fun b hb => by
    rcases hb with e | e | e
    · exact .inl (by omega)
    · exact .inl (by omega)
    · exact .inr e)
  have h5s : g < w5.heap.size := by omega
  clear HHK s5 s4
  go_upto_region 6 with fail
  go_loopw [30] (fun i wr => ∃ (j : Nat) (hs2 : List Hk), i = .int .i64 (j : Int) ∧ j ≤ n ∧ hs2.map Hk.ct = hs.map Hk.ct ∧ (∀ k ∈ hs2, HkX wr (fun b => b = g ∨ b = q + 1 ∨ X0 b) k) ∧ Blk wr g 45 (flat Hk.C hs2 ++ T).toArray ∧ Blk wr q 29 #[.slice Ad n c] ∧ Blk wr (q + 1) 29 #[.slice none 0 0] ∧ Below w.heap.size w wr) (fun i _ => n - (intOf i).toNat)
  case atStart => exact ⟨0, hs, rfl, Nat.zero_le _, rfl, hXX, k5, y5, x5, hb5⟩
  case round =>
    clear hXX k5 y5 x5 hb5 h5s
    obtain ⟨j, hs2, rfl, hj, hct, hX, kb, yb, xb, b⟩ := hrel
    have HX := Lib.hid hX; have HCT := Lib.hid hct
    have hl2 : hs2.length = n := by have := congrArg List.length hct; simpa [hlen] using this
    by_cases hlt : j < n
    · have hltI : (j : Int) < (n : Int) := by omega
      have hjl : j < hs2.length := by omega
      have hmem := getD_mem (L := hs2) Hk.nil hjl
      have hkx := hX _ hmem
      have hn1 : (hs2.getD j Hk.nil).n ≤ 1 := by
        have : (hs2.getD j Hk.nil).ct ∈ hs.map Hk.ct := by rw [← hct]; exact List.mem_map.2 ⟨_, hmem, rfl⟩
        obtain ⟨k0, hk0, e0⟩ := List.mem_map.1 this
        have := (hg k0 hk0).2.1; rw [e0] at this; exact this
      have cj := (hk_cells hs2 T hjl).2
      have hsk := fun k hp => flat_setK hs2 j T k hjl hp
      have HSC := Lib.hid (fun k h => ct_set (hs := hs2) (k := k) hjl h)
      have hst := fun (k : Hk) (x : Hk) (hx : x ∈ hs2.set j k) => List.mem_or_eq_of_mem_set hx
      clear hX hct hmem
      obtain ⟨kj, hkj⟩ : ∃ k, hs2.getD j Hk.nil = k := ⟨_, rfl⟩
      rw [hkj] at hkx hn1 cj hsk HSC
      have dj : wr.cell? ⟨g, j * 2 + 1, none⟩ = some (.slice kj.A kj.n kj.c) := by rw [kb.cell, List.getElem?_toArray]; exact cj
      have hcl := clone_any kj.A kj.n kj.c wr.heap.size kj.vs wr hkx.1 (Nat.le_refl _) hn1
      go_wp2_with fail
      refine hcl.mono ?_; rintro x w2 ⟨⟨A', c', rfl, hs', hne'⟩, b2⟩
      have k2 := kb.below b2 kb.lt
      have y2 := yb.below b2 yb.lt
      have x2 := xb.below b2 xb.lt
      have hqg : q ≠ g := by omega
      have hqg1 : q + 1 ≠ g := by omega
      have hgr := kb.lt
      have hqr := xb.lt
      have ej : w2.cell? ⟨g, j * 2 + 1, none⟩ = some (.slice kj.A kj.n kj.c) := by rw [k2.cell, List.getElem?_toArray]; exact cj
      have fj : w2.frozen? ⟨g, j * 2 + 1, none⟩ = false := k2.frozen _
      have b3 : Below w.heap.size w (w2.setCell ⟨g, j * 2 + 1, none⟩ (.slice A' kj.n c')) := by
        rw [setCell_eq_setRow w2 g (j * 2 + 1) _ _ _ _ k2]; exact below_row (bcl b b2) (by omega) _
      have k3 : Blk (w2.setCell ⟨g, j * 2 + 1, none⟩ (.slice A' kj.n c')) g 45 (flat Hk.C (hs2.set j ⟨kj.p, A', kj.n, c', kj.vs⟩) ++ T).toArray := by
        rw [← hsk ⟨kj.p, A', kj.n, c', kj.vs⟩ rfl, ← List.setIfInBounds_toArray]; exact k2.set_ _ _
      have y3 := y2.far (p := ⟨g, j * 2 + 1, none⟩) hqg (.slice A' kj.n c')
      have x3 := x2.far (p := ⟨g, j * 2 + 1, none⟩) hqg1 (.slice A' kj.n c')
      have HX3 := Lib.hid (show ∀ k ∈ hs2.set j ⟨kj.p, A', kj.n, c', kj.vs⟩, HkX (w2.setCell ⟨g, j * 2 + 1, none⟩ (.slice A' kj.n c')) (fun b => b = g ∨ b = q + 1 ∨ X0 b) k from fun k hk => by
        rcases hst _ k hk with h | h
        · exact ((HX.out k h).below b2).set_ (.inl rfl) _ _
        · subst h
          exact HkX.set_ (show HkX w2 (fun b => b = g ∨ b = q + 1 ∨ X0 b) ⟨kj.p, A', kj.n, c', kj.vs⟩ from ⟨hs', fun hp a e hx => by
            have := hne' hp a e
            have := b.size
            rcases hx with h | h | h
            · omega
            · omega
            · have := h0A _ h; omega⟩) (.inl rfl) _ _)
      have HC3 := Lib.hid ((HSC.out ⟨kj.p, A', kj.n, c', kj.vs⟩ rfl).trans HCT.out)
      clear hcl hsk hst k2 y2 x2 hs' hne' hkx cj dj kb yb xb b b2
      go_wp2_with fail
      go_roundw
      case rel => exact ⟨j + 1, _, by go_num, by omega, HC3.out, HX3.out, k3, y3, x3, b3⟩
      case measure => simp [intOf]; omega
    · obtain rfl : j = n := by omega
      have hltI : ¬ (j : Int) < (j : Int) := by omega
      have c0 : wr.cell? ⟨q, 0, none⟩ = some (.slice Ad j c) := yb.cell 0
      have hpp := hpl wr b
      clear hpl hX hct
      go_wp2_with (refine wpList_row_g rfl 29 _ rfl _ rfl _ _ _ _ yb Tryd.underlying29 rfl (by kernel_rfl) ?_)
      refine hpp.mono ?_; rintro x w2 ⟨rfl, b2⟩
      have k2 := kb.below b2 kb.lt
      have x2 := xb.below b2 xb.lt
      have HX2 := Lib.hid (fun k hk => (HX.out k hk).below b2)
      have hgw : g < w2.heap.size := k2.lt
      have b3 := bcl b b2
      clear hpp kb yb xb b b2 HX c0
      obtain ⟨nk, hnk⟩ : ∃ nk : Hk, nk = ⟨path, none, 0, 0, []⟩ := ⟨_, rfl⟩
      have hnkC : nk.C = #[.string path, .slice none 0 0] := by rw [hnk]
      have k3 := k2.alloc (.cells nk.C 45); have x3 := x2.alloc (.cells nk.C 45); have b4 := bal b3 (.cells nk.C 45)
      have s3 := size_al w2 (.cells nk.C 45)
      have HX3 := Lib.hid (fun k hk => (HX2.out k hk).below (bal (Below.refl _ w2) (.cells nk.C 45)))
      have rd := (Sls.of_blk (f := Hk.C) (sz := 2) (L := [nk]) (fun _ => rfl) (Blk.new w2 45 nk.C) (by simp [flat])).r
      have hfl := flat_hk_len hs2
      have o5 : (w2.alloc (.cells nk.C 45)).ownsRow g 45 2 (.slice (some ⟨g, 0, none⟩) j (j + 1)) j (flat Hk.C hs2) :=
        ⟨by omega, .inr ⟨g, j + 1, _, rfl, Nat.le_refl _, k3, by omega, by unfold maxLen; omega, by simp [hfl, hl2, hTl]; omega, by simp [List.take_append, hfl, hl2]⟩⟩
      rw [hnkC] at k3 x3 b4 s3 HX3 rd o5
      clear k2 x2 b3 HX2
      go_upto_region 14 with (at_builtin; refine wpList_append_any _ rfl (.tmp 51) (.tmp 54) 27 rfl g 45 i0 _ 2 40 Tryd.underlying27 HI.out hz0 hz1 hz2 rfl (by decide) _ j (flat Hk.C hs2) rfl o5 _ _ 1 1 (flat Hk.C [nk]) rfl rd (flat_cells hk_all _) (by unfold maxLen; omega) (by omega) (by omega) ?_; intro v1 w6 o6 g6 at6)
      rcases o6.2 with ⟨-, h0⟩ | ⟨g2, cap, cur2, hv1, hge2, hb2, hc1, hc2, hsz2, htk⟩
      · omega
      subst hv1
      have hg2 : g2 = g ∨ g2 = (w2.alloc (.cells #[.string path, .slice none 0 0] 45)).heap.size := by
        rcases at6 with e | e
        · exact .inl (by injection e)
        · exact .inr (by injection e)
      obtain ⟨T2, hT2⟩ : ∃ T2, cur2.toList.drop ((j + 1) * 2) = T2 := ⟨_, rfl⟩
      have ecur : cur2 = (flat Hk.C (hs2 ++ [nk]) ++ T2).toArray := by
        have e := List.take_append_drop ((j + 1) * 2) cur2.toList
        rw [htk, hT2] at e
        rw [flat_append, e]
      have k6 : Blk w6 g2 45 (flat Hk.C (hs2 ++ [nk]) ++ T2).toArray := by rw [← ecur]; exact hb2
      have hjl3 : j < (hs2 ++ [nk]).length := by rw [List.length_append, hl2]; simp
      have hgj : (hs2 ++ [nk]).getD j Hk.nil = nk := by
        rw [List.getD_eq_getElem?_getD, List.getElem?_append_right (by omega), hl2, Nat.sub_self]; rfl
      have b6 := b4.grown g6 b4.size (fun b hb => by have e : some g = some b := hb; injection e with e; omega)
      have x6 := x3.grown g6 (fun e => by have e2 : some (q + 1) = some g := e; injection e2 with e2; omega)
      have HX6 := Lib.hid (show ∀ k ∈ hs2, HkX w6 (fun b => b = g2 ∨ b = q + 1 ∨ X0 b) k from fun k hk => (HX3.out k hk).to ((HX3.out k hk).grown g6 (.inl rfl)) (fun b hb => by
        rcases hb with e | e
        · rcases hg2 with e2 | e2
          · exact .inl (.inl (by omega))
          · exact .inr (by omega)
        · exact .inl (.inr e)))
      have hqg2 : q + 1 ≠ g2 := by omega
      have hs6 := g6.size
      have cj := (hk_cells (hs2 ++ [nk]) T2 hjl3).2
      rw [hgj] at cj
      have hsk := fun k hp => flat_setK (hs2 ++ [nk]) j T2 k hjl3 hp
      rw [hgj] at hsk
      have hwg2 : w.heap.size ≤ g2 := by omega
      have hpu := HPU.out w6 b6
      have cap1 : j + 1 ≤ cap := hc1
      clear o6 g6 at6 hb2 htk hT2 hsz2 ecur k3 x3 b4 rd o5 HX3 hg2 hgj HPU
      have dj : w6.cell? ⟨g2, j * 2 + 1, none⟩ = some (.slice none 0 0) := by rw [k6.cell, List.getElem?_toArray, cj, hnk]
      have hjI : (j : Int) < ((j + 1 : Nat) : Int) := by omega
      have hjI2 : (j : Int) < (j : Int) + 1 := by omega
      go_wp2_with fail
      refine hpu.mono ?_; rintro x w7 ⟨⟨A', c', rfl, hs', hne'⟩, b7⟩
      have k7 := k6.below b7 k6.lt
      have x7 := x6.below b7 x6.lt
      have h6g := k6.lt
      have h6q := x6.lt
      have b8 := bcl b6 b7
      have HX7 := Lib.hid (fun k hk => (HX6.out k hk).below b7)
      have ej : w7.cell? ⟨g2, j * 2 + 1, none⟩ = some (.slice none 0 0) := by rw [k7.cell, List.getElem?_toArray, cj, hnk]
      have fj : w7.frozen? ⟨g2, j * 2 + 1, none⟩ = false := k7.frozen _
      have k8 : Blk (w7.setCell ⟨g2, j * 2 + 1, none⟩ (.slice A' m c')) g2 45 (flat Hk.C (hs2 ++ [⟨path, A', m, c', vs⟩]) ++ T2).toArray := by
        have e : (hs2 ++ [nk]).set j ⟨path, A', m, c', vs⟩ = hs2 ++ [⟨path, A', m, c', vs⟩] := by rw [List.set_append_right _ _ (by omega), hl2, Nat.sub_self]; rfl
        rw [← e, ← hsk ⟨path, A', m, c', vs⟩ (by rw [hnk]), ← List.setIfInBounds_toArray]; exact k7.set_ _ _
      have x8 := x7.far (p := ⟨g2, j * 2 + 1, none⟩) hqg2 (.slice A' m c')
      have b9 := b8.setCell (p := ⟨g2, j * 2 + 1, none⟩) hwg2 (.slice A' m c')
      have HX8 := Lib.hid (show ∀ k ∈ hs2 ++ [⟨path, A', m, c', vs⟩], HkX (w7.setCell ⟨g2, j * 2 + 1, none⟩ (.slice A' m c')) (fun b => b = g2 ∨ b = q + 1 ∨ X0 b) k from fun k hk => by
        rcases List.mem_append.1 hk with h | h
        · exact (HX7.out k h).set_ (.inl rfl) _ _
        · rw [List.mem_singleton.1 h]
          exact HkX.set_ (show HkX w7 (fun b => b = g2 ∨ b = q + 1 ∨ X0 b) ⟨path, A', m, c', vs⟩ from ⟨hs', fun hp a e hx => by
            have := hne' hp a e
            have := b6.size
            rcases hx with h | h | h
            · omega
            · omega
            · have := h0A _ h; omega⟩) (.inl rfl) _ _)
      clear hpu hsk k7 x7 hs' hne' HX7 b8 b7 k6 x6 dj
      go_upto_region 15 with fail
      clear ej fj HX6 b6
      generalize w7.setCell ⟨g2, j * 2 + 1, none⟩ (.slice A' m c') = w8 at *
      have HXQ := Lib.hid (show ∀ k ∈ hs2 ++ [(⟨path, A', m, c', vs⟩ : Hk)], 0 < k.n → ∀ a, k.A = some a → ¬ a.block = q + 1 from fun k hk hp a e h => (HX8.out k hk).2 hp a e (.inr (.inl h)))
      have HX0 := Lib.hid (show ∀ k ∈ hs2 ++ [(⟨path, A', m, c', vs⟩ : Hk)], 0 < k.n → ∀ a, k.A = some a → ¬ X0 a.block from fun k hk hp a e h => (HX8.out k hk).2 hp a e (.inr (.inr h)))
      have HV8 := Lib.hid (show HvR w8 w8.heap.size (some ⟨g2, 0, none⟩) (j + 1) (hs2 ++ [⟨path, A', m, c', vs⟩]) from ⟨by
        have := sls_keys k8
        rwa [show (hs2 ++ [(⟨path, A', m, c', vs⟩ : Hk)]).length = j + 1 by rw [List.length_append, hl2]; rfl] at this, fun k hk => (HX8.out k hk).1⟩)
      have HCTS := Lib.hid (show (hs2 ++ [(⟨path, A', m, c', vs⟩ : Hk)]).map Hk.ct = hs.map Hk.ct ++ [(path, m, vs)] from by rw [List.map_append, HCT.out]; rfl)
      have b10 := bal b9 (.cells #[.slice (some ⟨g2, 0, none⟩) (j + 1) cap] 29)
      have x10 := x8.alloc (.cells #[.slice (some ⟨g2, 0, none⟩) (j + 1) cap] 29)
      have z10 := Blk.new w8 29 #[.slice (some ⟨g2, 0, none⟩) (j + 1) cap]
      have hgd4 : ∀ k ∈ hs2 ++ [(⟨path, A', m, c', vs⟩ : Hk)], HkGd k := fun k hk => HkGd.of_ct (mem_ct HCTS.out (fun x hx => by
        rcases List.mem_append.1 hx with h | h
        · obtain ⟨k0, hk0, e0⟩ := List.mem_map.1 h
          rw [← e0]; exact hg k0 hk0
        · rw [List.mem_singleton.1 h]; exact ⟨hp, hm, hv⟩) k hk)
      have hdd : ((hs2 ++ [(⟨path, A', m, c', vs⟩ : Hk)]).map fun k => L k.p).Nodup := by
        have e : ((hs2 ++ [(⟨path, A', m, c', vs⟩ : Hk)]).map fun k => L k.p) = (hs.map fun k => L k.p) ++ [L path] := by
          have h2 : (hs2.map fun k => L k.p) = hs.map fun k => L k.p := by
            have := congrArg (List.map fun x : ByteArray × Nat × List Vl => L x.1) HCT.out
            rw [List.map_map, List.map_map] at this
            exact this
          rw [List.map_append, h2]; rfl
        rw [e]
        refine List.nodup_append.2 ⟨hd, by simp, fun a ha b hb => ?_⟩
        rw [List.mem_singleton.1 hb]
        obtain ⟨k0, hk0, e0⟩ := List.mem_map.1 ha
        rw [← e0]; exact hnew k0 hk0
      have hck := hcheck_any (some ⟨g2, 0, none⟩) (j + 1) cap w8.heap.size _ (w8.alloc (.cells #[.slice (some ⟨g2, 0, none⟩) (j + 1) cap] 29)) (HMB.out _ b10) (HV8.out.below (bal (Below.refl _ w8) _)) (by rw [size_al]; omega) (by omega) hgd4 hdd
      have hg8 := k8.lt
      clear hgd4 hdd HX8
      go_upto_region 16 with (refine wpList_store_new rfl 29 _ _ rfl rfl w8.heap.size #[.slice (some ⟨g2, 0, none⟩) (j + 1) cap] rfl rfl _ #[.slice none 0 0] w8 rfl rfl rfl (by kernel_rfl) (by kernel_rfl) ?_)
      have s10 := size_al w8 (.cells #[.slice (some ⟨g2, 0, none⟩) (j + 1) cap] 29)
      have bW := bal (Below.refl _ w8) (.cells #[.slice (some ⟨g2, 0, none⟩) (j + 1) cap] 29)
      have k10 := k8.below bW hg8
      have HX10 := Lib.hid (fun k hk => (show HkX w8 (fun b => b = q + 1) k from ⟨(HV8.out.m k hk), (HXQ.out k hk)⟩).below bW)
      generalize w8.alloc (.cells #[.slice (some ⟨g2, 0, none⟩) (j + 1) cap] 29) = W10 at *
      go_wp2_with (refine wpList_row_g rfl 29 _ rfl _ rfl _ _ _ _ z10 Tryd.underlying29 rfl (by kernel_rfl) ?_)
      refine hck.mono ?_; rintro x w11 ⟨rfl, b11⟩
      have z11 := z10.below b11 z10.lt
      have x11 := x10.below b11 x10.lt
      have k11 := k10.below b11 k10.lt
      have HX11 := Lib.hid (fun k hk => (HX10.out k hk).below b11)
      have b12 := bcl b10 b11
      clear hck z10 x10 k10 b11 b10 HX10 bW
      have HFIN := Lib.hid (show PuP (w11.setRow (q + 1) #[.slice (some ⟨g2, 0, none⟩) (j + 1) cap]) X0 (hs.map Hk.ct ++ [(path, m, vs)]) (.returned (.tuple #[.agg #[.slice (some ⟨g2, 0, none⟩) (j + 1) cap], .int .i64 0])) from
        ⟨some ⟨g2, 0, none⟩, j + 1, cap, _, rfl, ⟨by
          have := sls_keys (k11.rowFar (Ne.symm hqg2) #[.slice (some ⟨g2, 0, none⟩) (j + 1) cap])
          rwa [show (hs2 ++ [(⟨path, A', m, c', vs⟩ : Hk)]).length = j + 1 by rw [List.length_append, hl2]; rfl] at this, fun k hk => ((HX11.out k hk).row rfl _).1⟩, HCTS.out, (fun a e h => by injection e with e; subst e; have h2 : g2 < w.heap.size := h0A _ h; omega), HX0.out⟩)
      go_wp2_with (first | (refine wpList_row_g rfl 29 _ rfl _ rfl _ _ _ _ z11 Tryd.underlying29 rfl (by kernel_rfl) ?_) | (refine wpList_store_g rfl 29 _ _ rfl rfl (q + 1) 0 #[.slice (some ⟨g2, 0, none⟩) (j + 1) cap] #[.slice (some ⟨g2, 0, none⟩) (j + 1) cap] rfl rfl _ _ x11 (by show 0 + 1 ≤ 1; decide) (by kernel_rfl) (by kernel_rfl) (by kernel_rfl) ?_))
      exact bodyPost_ret (res_ct rfl _ _ _ _ _ (.int .i64 0) _ rfl rfl (Blk.row x11 _) Tryd.underlying29 rfl (by kernel_rfl)) rfl ⟨HFIN.out, below_row b12 (by omega) _⟩
end Go.Proofs.YtgflodjohaemiaaDoor.Ky
