/-
  What reads a footer: a stamp: walked.
-/
import Derived.Test.YtgdgkgeoigljcaaDoorFo7
namespace Go.Proofs.YtgdgkgeoigljcaaDoor.Fo
open Go.ChangeShapes Go.WideShapes Go.ChangeAt Go.RowKit Go.Shelf
open Go.Proofs.YtgdgkgeoigljcaaDoor
open Go.Proofs.YtgdgkgeoigljcaaDoor.Wd
open Go.Proofs.YtgdgkgeoigljcaaDoor.Rec
open Go.Proofs.YtgdgkgeoigljcaaDoor.Tb (Rc)
open Go.Proofs.YtgdgkgeoigljcaaDoor.Civ (Tab)
open Go.Lib (byteCells)
set_option linter.unusedVariables false
set_option linter.unusedSimpArgs false
def stR (x : Rs) : St × Rs :=
  let n1 := numR 2 (mustR 77 x); let n2 := numR 1 (mustR 46 n1.2); let n3 := numR 1 (mustR 46 n2.2); let m := mayR 47 n3.2
  if m.1 = true then
    let h := numR 2 m.2; let c := mayR 58 h.2
    if c.1 = true then
      let i := numR 2 c.2; let d := mayR 58 i.2
      if d.1 = true then (⟨0, (n1.1 : Int), (n3.1 : Int), (n2.1 : Int), (h.1 : Int), (i.1 : Int), ((numR 2 d.2).1 : Int), 0⟩, (numR 2 d.2).2)
      else (⟨0, (n1.1 : Int), (n3.1 : Int), (n2.1 : Int), (h.1 : Int), (i.1 : Int), 0, 0⟩, d.2)
    else (⟨0, (n1.1 : Int), (n3.1 : Int), (n2.1 : Int), (h.1 : Int), 0, 0, 0⟩, c.2)
  else (⟨0, (n1.1 : Int), (n3.1 : Int), (n2.1 : Int), 2, 0, 0, 0⟩, m.2)
theorem blk_at' (w : World) (t : TypeId) (cs : Array Value) {n : Nat} (h : w.heap.size = n) : Blk (w.alloc (.cells cs t)) n t cs := by subst h; exact Blk.new w t cs
theorem KB.setN {g gs : Nat} {w w' : World} (h : KB g w w') (hs : w.heap.size ≤ gs) (i : Nat) (v : Value) : KB g w (w'.setCell ⟨gs, i, none⟩ v) :=
  ⟨h.b.setCell (Nat.zero_le _) v, fun j hj hn => (Below.heap_setCell _ _ _ _ (fun e => by have e2 : j = gs := e; omega)).trans (h.k j hj hn)⟩
theorem KB.rowN {g gs : Nat} {w w' : World} (h : KB g w w') (hs : w.heap.size ≤ gs) (cs : Array Value) : KB g w (w'.setRow gs cs) :=
  ⟨Go.below_setRow h.b (Nat.zero_le _) cs, fun j hj hn => (setRow_other _ gs j cs (by omega)).trans (h.k j hj hn)⟩
theorem results_c1 {fn : Func} {p : Tmp} (h : fn.results = #[.cell p 24]) (tmps : Array Value) (w : World) (g : Nat) (t : TypeId) (cs : Array Value)
    (hp : tmps.getD p undef = .pointer (some ⟨g, 0, none⟩)) (hg : w.heap[g]? = some (.cells cs t (0, 0))) (hs : cs.size = 8) :
    (results fn tmps).run Tryd.prog w = .ok (.agg cs) w := by
  have hp' : tmps[p]?.getD undef = .pointer (some ⟨g, 0, none⟩) := by simpa using hp
  have hi : (Tryd.prog.info? 24).map (·.size) = some cs.size := by rw [hs]; kernel_rfl
  have hl := run_loadVar_row w g t 24 cs (0, 0) _ hg Tryd.underlying24 rfl hi
  simp [results, h, hp', asAddr, hl]
set_option maxRecDepth 40000 in
set_option maxHeartbeats 12800000 in
theorem rst_any (g : Nat) (x0 : Rs) (w : World) (hh : Rd w g x0) (len0 : x0.s.length ≤ 100000) :
    Calls Tryd.prog 31 #[.pointer (some ⟨g, 0, none⟩)] w fun e w' => e = .returned (.agg (sA (stR x0).1)) ∧ Rd w' g (stR x0).2 ∧ KB g w w' := by
  have hgl : g < w.heap.size := hh.lt
  have h0 : Rd ((w.alloc (.cells #[.int .u16 0, .int .u16 0, .int .u16 0, .int .u16 0, .int .u16 0, .int .u16 0, .int .u16 0, .int .u16 0] 24)).alloc (.cells #[.int .u16 0, .int .u16 0, .int .u16 0, .int .u16 0, .int .u16 0, .int .u16 0, .int .u16 0, .int .u16 0] 24)) g x0 := (hh.alloc _).alloc _
  have kk0 : KB g w ((w.alloc (.cells #[.int .u16 0, .int .u16 0, .int .u16 0, .int .u16 0, .int .u16 0, .int .u16 0, .int .u16 0, .int .u16 0] 24)).alloc (.cells #[.int .u16 0, .int .u16 0, .int .u16 0, .int .u16 0, .int .u16 0, .int .u16 0, .int .u16 0, .int .u16 0] 24)) := KB.of (((Below.refl _ w).alloc (Nat.le_refl _) _).alloc (by rw [sz1 _ _ rfl]; exact Nat.le_succ _) _)
  have y := (Blk.new w 24 #[.int .u16 0, .int .u16 0, .int .u16 0, .int .u16 0, .int .u16 0, .int .u16 0, .int .u16 0, .int .u16 0]).alloc (.cells #[.int .u16 0, .int .u16 0, .int .u16 0, .int .u16 0, .int .u16 0, .int .u16 0, .int .u16 0, .int .u16 0] 24)
  have z := blk_at' (w.alloc (.cells #[.int .u16 0, .int .u16 0, .int .u16 0, .int .u16 0, .int .u16 0, .int .u16 0, .int .u16 0, .int .u16 0] 24)) 24 #[.int .u16 0, .int .u16 0, .int .u16 0, .int .u16 0, .int .u16 0, .int .u16 0, .int .u16 0, .int .u16 0] (sz1 w (.cells #[.int .u16 0, .int .u16 0, .int .u16 0, .int .u16 0, .int .u16 0, .int .u16 0, .int .u16 0, .int .u16 0] 24) rfl)
  clear hh
  go_enter Tryd.func31, Tryd.ntmps31
  obtain ⟨x1, E1⟩ : ∃ y, mustR 77 x0 = y := ⟨_, rfl⟩
  have hr := must_any g 77 x0 _ h0
  rw [E1] at hr
  have len1 := must_len 77 x0; rw [E1] at len1; replace len1 : x1.s.length ≤ 100000 := Nat.le_trans len1 len0
  have HE1 := Lib.hid E1; clear E1
  go_wp2_with fail
  refine hr.mono ?_; rintro e W1 ⟨rfl, h1, kq⟩
  have kk1 := kk0.trans kq
  replace y := kq.blk y (by omega)
  replace z := kq.blk z (by omega)
  clear hr kq kk0 h0 len0
  obtain ⟨v2, x2, E2⟩ : ∃ v y, numR 2 x1 = (v, y) := ⟨_, _, rfl⟩
  have hr := rnum_any g 2 (by decide) x1 _ h1 len1
  rw [E2] at hr
  have len2 := numr_len 2 x1; have vb2 := numr_le 2 (by decide) x1; rw [E2] at len2 vb2; replace len2 : x2.s.length ≤ 100000 := Nat.le_trans len2 len1; replace vb2 : v2 ≤ 99 := vb2
  have wq2 : IntKind.u16.wrap (v2 : Int) = (v2 : Int) := by simp [IntKind.wrap, IntKind.bits, IntKind.signed]; omega
  have HE2 := Lib.hid E2; clear E2
  go_wp2_with fail
  refine hr.mono ?_; rintro e W2 ⟨rfl, h2, kq⟩
  have kk2 := kk1.trans kq
  replace y := kq.blk y (by omega)
  replace z := kq.blk z (by omega)
  clear hr kq kk1 h1 len1
  have cc : (W2).cell? ⟨w.heap.size + 1, 1, none⟩ = some (.int .u16 0) := z.cell 1
  have ff : (W2).frozen? ⟨w.heap.size + 1, 1, none⟩ = false := z.frozen 1
  replace h2 : Rd ((W2).setCell ⟨w.heap.size + 1, 1, none⟩ (.int .u16 (v2 : Int))) g x2 := h2.far (p := ⟨w.heap.size + 1, 1, none⟩) (by show g ≠ w.heap.size + 1; omega) _
  replace kk2 : KB g w ((W2).setCell ⟨w.heap.size + 1, 1, none⟩ (.int .u16 (v2 : Int))) := kk2.setN (by omega) 1 _
  replace y : Blk ((W2).setCell ⟨w.heap.size + 1, 1, none⟩ (.int .u16 (v2 : Int))) w.heap.size 24 #[.int .u16 0, .int .u16 0, .int .u16 0, .int .u16 0, .int .u16 0, .int .u16 0, .int .u16 0, .int .u16 0] := y.far (p := ⟨w.heap.size + 1, 1, none⟩) (by show w.heap.size ≠ w.heap.size + 1; omega) _
  replace z : Blk ((W2).setCell ⟨w.heap.size + 1, 1, none⟩ (.int .u16 (v2 : Int))) (w.heap.size + 1) 24 #[.int .u16 0, .int .u16 (v2 : Int), .int .u16 0, .int .u16 0, .int .u16 0, .int .u16 0, .int .u16 0, .int .u16 0] := by simpa using z.set_ 1 (.int .u16 (v2 : Int))
  obtain ⟨x3, E3⟩ : ∃ y, mustR 46 x2 = y := ⟨_, rfl⟩
  have hr := must_any g 46 x2 _ h2
  rw [E3] at hr
  have len3 := must_len 46 x2; rw [E3] at len3; replace len3 : x3.s.length ≤ 100000 := Nat.le_trans len3 len2
  have HE3 := Lib.hid E3; clear E3
  go_wp2_with fail
  refine hr.mono ?_; rintro e W3 ⟨rfl, h3, kq⟩
  have kk3 := kk2.trans kq
  replace y := kq.blk y (by omega)
  replace z := kq.blk z (by omega)
  clear hr kq kk2 h2 len2
  clear cc ff
  obtain ⟨v4, x4, E4⟩ : ∃ v y, numR 1 x3 = (v, y) := ⟨_, _, rfl⟩
  have hr := rnum_any g 1 (by decide) x3 _ h3 len3
  rw [E4] at hr
  have len4 := numr_len 1 x3; have vb4 := numr_le 1 (by decide) x3; rw [E4] at len4 vb4; replace len4 : x4.s.length ≤ 100000 := Nat.le_trans len4 len3; replace vb4 : v4 ≤ 99 := vb4
  have wq4 : IntKind.u16.wrap (v4 : Int) = (v4 : Int) := by simp [IntKind.wrap, IntKind.bits, IntKind.signed]; omega
  have HE4 := Lib.hid E4; clear E4
  go_wp2_with fail
  refine hr.mono ?_; rintro e W4 ⟨rfl, h4, kq⟩
  have kk4 := kk3.trans kq
  replace y := kq.blk y (by omega)
  replace z := kq.blk z (by omega)
  clear hr kq kk3 h3 len3
  have cc : (W4).cell? ⟨w.heap.size + 1, 3, none⟩ = some (.int .u16 0) := z.cell 3
  have ff : (W4).frozen? ⟨w.heap.size + 1, 3, none⟩ = false := z.frozen 3
  replace h4 : Rd ((W4).setCell ⟨w.heap.size + 1, 3, none⟩ (.int .u16 (v4 : Int))) g x4 := h4.far (p := ⟨w.heap.size + 1, 3, none⟩) (by show g ≠ w.heap.size + 1; omega) _
  replace kk4 : KB g w ((W4).setCell ⟨w.heap.size + 1, 3, none⟩ (.int .u16 (v4 : Int))) := kk4.setN (by omega) 3 _
  replace y : Blk ((W4).setCell ⟨w.heap.size + 1, 3, none⟩ (.int .u16 (v4 : Int))) w.heap.size 24 #[.int .u16 0, .int .u16 0, .int .u16 0, .int .u16 0, .int .u16 0, .int .u16 0, .int .u16 0, .int .u16 0] := y.far (p := ⟨w.heap.size + 1, 3, none⟩) (by show w.heap.size ≠ w.heap.size + 1; omega) _
  replace z : Blk ((W4).setCell ⟨w.heap.size + 1, 3, none⟩ (.int .u16 (v4 : Int))) (w.heap.size + 1) 24 #[.int .u16 0, .int .u16 (v2 : Int), .int .u16 0, .int .u16 (v4 : Int), .int .u16 0, .int .u16 0, .int .u16 0, .int .u16 0] := by simpa using z.set_ 3 (.int .u16 (v4 : Int))
  obtain ⟨x5, E5⟩ : ∃ y, mustR 46 x4 = y := ⟨_, rfl⟩
  have hr := must_any g 46 x4 _ h4
  rw [E5] at hr
  have len5 := must_len 46 x4; rw [E5] at len5; replace len5 : x5.s.length ≤ 100000 := Nat.le_trans len5 len4
  have HE5 := Lib.hid E5; clear E5
  go_wp2_with fail
  refine hr.mono ?_; rintro e W5 ⟨rfl, h5, kq⟩
  have kk5 := kk4.trans kq
  replace y := kq.blk y (by omega)
  replace z := kq.blk z (by omega)
  clear hr kq kk4 h4 len4
  clear cc ff
  obtain ⟨v6, x6, E6⟩ : ∃ v y, numR 1 x5 = (v, y) := ⟨_, _, rfl⟩
  have hr := rnum_any g 1 (by decide) x5 _ h5 len5
  rw [E6] at hr
  have len6 := numr_len 1 x5; have vb6 := numr_le 1 (by decide) x5; rw [E6] at len6 vb6; replace len6 : x6.s.length ≤ 100000 := Nat.le_trans len6 len5; replace vb6 : v6 ≤ 99 := vb6
  have wq6 : IntKind.u16.wrap (v6 : Int) = (v6 : Int) := by simp [IntKind.wrap, IntKind.bits, IntKind.signed]; omega
  have HE6 := Lib.hid E6; clear E6
  go_wp2_with fail
  refine hr.mono ?_; rintro e W6 ⟨rfl, h6, kq⟩
  have kk6 := kk5.trans kq
  replace y := kq.blk y (by omega)
  replace z := kq.blk z (by omega)
  clear hr kq kk5 h5 len5
  have cc : (W6).cell? ⟨w.heap.size + 1, 2, none⟩ = some (.int .u16 0) := z.cell 2
  have ff : (W6).frozen? ⟨w.heap.size + 1, 2, none⟩ = false := z.frozen 2
  replace h6 : Rd ((W6).setCell ⟨w.heap.size + 1, 2, none⟩ (.int .u16 (v6 : Int))) g x6 := h6.far (p := ⟨w.heap.size + 1, 2, none⟩) (by show g ≠ w.heap.size + 1; omega) _
  replace kk6 : KB g w ((W6).setCell ⟨w.heap.size + 1, 2, none⟩ (.int .u16 (v6 : Int))) := kk6.setN (by omega) 2 _
  replace y : Blk ((W6).setCell ⟨w.heap.size + 1, 2, none⟩ (.int .u16 (v6 : Int))) w.heap.size 24 #[.int .u16 0, .int .u16 0, .int .u16 0, .int .u16 0, .int .u16 0, .int .u16 0, .int .u16 0, .int .u16 0] := y.far (p := ⟨w.heap.size + 1, 2, none⟩) (by show w.heap.size ≠ w.heap.size + 1; omega) _
  replace z : Blk ((W6).setCell ⟨w.heap.size + 1, 2, none⟩ (.int .u16 (v6 : Int))) (w.heap.size + 1) 24 #[.int .u16 0, .int .u16 (v2 : Int), .int .u16 (v6 : Int), .int .u16 (v4 : Int), .int .u16 0, .int .u16 0, .int .u16 0, .int .u16 0] := by simpa using z.set_ 2 (.int .u16 (v6 : Int))
  have cc2 : ((W6).setCell ⟨w.heap.size + 1, 2, none⟩ (.int .u16 (v6 : Int))).cell? ⟨w.heap.size + 1, 4, none⟩ = some (.int .u16 0) := z.cell 4
  have ff2 : ((W6).setCell ⟨w.heap.size + 1, 2, none⟩ (.int .u16 (v6 : Int))).frozen? ⟨w.heap.size + 1, 4, none⟩ = false := z.frozen 4
  replace h6 : Rd (((W6).setCell ⟨w.heap.size + 1, 2, none⟩ (.int .u16 (v6 : Int))).setCell ⟨w.heap.size + 1, 4, none⟩ (.int .u16 2)) g x6 := h6.far (p := ⟨w.heap.size + 1, 4, none⟩) (by show g ≠ w.heap.size + 1; omega) _
  replace kk6 : KB g w (((W6).setCell ⟨w.heap.size + 1, 2, none⟩ (.int .u16 (v6 : Int))).setCell ⟨w.heap.size + 1, 4, none⟩ (.int .u16 2)) := kk6.setN (by omega) 4 _
  replace y : Blk (((W6).setCell ⟨w.heap.size + 1, 2, none⟩ (.int .u16 (v6 : Int))).setCell ⟨w.heap.size + 1, 4, none⟩ (.int .u16 2)) w.heap.size 24 #[.int .u16 0, .int .u16 0, .int .u16 0, .int .u16 0, .int .u16 0, .int .u16 0, .int .u16 0, .int .u16 0] := y.far (p := ⟨w.heap.size + 1, 4, none⟩) (by show w.heap.size ≠ w.heap.size + 1; omega) _
  replace z : Blk (((W6).setCell ⟨w.heap.size + 1, 2, none⟩ (.int .u16 (v6 : Int))).setCell ⟨w.heap.size + 1, 4, none⟩ (.int .u16 2)) (w.heap.size + 1) 24 #[.int .u16 0, .int .u16 (v2 : Int), .int .u16 (v6 : Int), .int .u16 (v4 : Int), .int .u16 2, .int .u16 0, .int .u16 0, .int .u16 0] := by simpa using z.set_ 4 (.int .u16 2)
  obtain ⟨b7, x7, E7⟩ : ∃ b y, mayR 47 x6 = (b, y) := ⟨_, _, rfl⟩
  have hr := may_any g 47 x6 _ h6
  rw [E7] at hr
  have len7 := may_len 47 x6; rw [E7] at len7; replace len7 : x7.s.length ≤ 100000 := Nat.le_trans len7 len6
  have HE7 := Lib.hid E7; clear E7
  go_wp2_with fail
  refine hr.mono ?_; rintro e W7 ⟨rfl, h7, kq⟩
  have kk7 := kk6.trans kq
  replace y := kq.blk y (by omega)
  replace z := kq.blk z (by omega)
  clear hr kq kk6 h6 len6
  clear cc ff
  clear cc2 ff2
  cases b7 with
  | false =>
    have HF := Lib.hid (show stR x0 = ((⟨0, (v2 : Int), (v6 : Int), (v4 : Int), 2, 0, 0, 0⟩ : St), x7) by unfold stR; simp only [HE1.out, HE2.out, HE3.out, HE4.out, HE5.out, HE6.out, HE7.out]; simp)
    go_wp2_with (first | (refine wpList_row_g rfl 24 _ rfl _ rfl _ _ _ _ z Tryd.underlying24 rfl (by kernel_rfl) ?_) | (refine wpList_store_seg rfl 24 _ _ rfl rfl _ 0 #[.int .u16 0, .int .u16 (v2 : Int), .int .u16 (v6 : Int), .int .u16 (v4 : Int), .int .u16 2, .int .u16 0, .int .u16 0, .int .u16 0] #[.int .u16 0, .int .u16 (v2 : Int), .int .u16 (v6 : Int), .int .u16 (v4 : Int), .int .u16 2, .int .u16 0, .int .u16 0, .int .u16 0] rfl rfl _ _ y (Nat.le_refl 8) (by kernel_rfl) (by kernel_rfl) (by kernel_rfl) ?_))
    try simp only [Exit.inBlock, Exit.then]
    refine bodyPost_ret (results_c1 (p := 2) rfl _ _ _ _ _ rfl (Blk.row y #[.int .u16 0, .int .u16 (v2 : Int), .int .u16 (v6 : Int), .int .u16 (v4 : Int), .int .u16 2, .int .u16 0, .int .u16 0, .int .u16 0]) rfl) rfl ?_
    rw [HF.out]
    exact ⟨rfl, Blk.rowFar h7 (by omega) _, kk7.rowN (Nat.le_refl _) _⟩
  | true =>
    obtain ⟨v8, x8, E8⟩ : ∃ v y, numR 2 x7 = (v, y) := ⟨_, _, rfl⟩
    have hr := rnum_any g 2 (by decide) x7 _ h7 len7
    rw [E8] at hr
    have len8 := numr_len 2 x7; have vb8 := numr_le 2 (by decide) x7; rw [E8] at len8 vb8; replace len8 : x8.s.length ≤ 100000 := Nat.le_trans len8 len7; replace vb8 : v8 ≤ 99 := vb8
    have wq8 : IntKind.u16.wrap (v8 : Int) = (v8 : Int) := by simp [IntKind.wrap, IntKind.bits, IntKind.signed]; omega
    have HE8 := Lib.hid E8; clear E8
    go_wp2_with fail
    refine hr.mono ?_; rintro e W8 ⟨rfl, h8, kq⟩
    have kk8 := kk7.trans kq
    replace y := kq.blk y (by omega)
    replace z := kq.blk z (by omega)
    clear hr kq kk7 h7 len7
    have cc : (W8).cell? ⟨w.heap.size + 1, 4, none⟩ = some (.int .u16 2) := z.cell 4
    have ff : (W8).frozen? ⟨w.heap.size + 1, 4, none⟩ = false := z.frozen 4
    replace h8 : Rd ((W8).setCell ⟨w.heap.size + 1, 4, none⟩ (.int .u16 (v8 : Int))) g x8 := h8.far (p := ⟨w.heap.size + 1, 4, none⟩) (by show g ≠ w.heap.size + 1; omega) _
    replace kk8 : KB g w ((W8).setCell ⟨w.heap.size + 1, 4, none⟩ (.int .u16 (v8 : Int))) := kk8.setN (by omega) 4 _
    replace y : Blk ((W8).setCell ⟨w.heap.size + 1, 4, none⟩ (.int .u16 (v8 : Int))) w.heap.size 24 #[.int .u16 0, .int .u16 0, .int .u16 0, .int .u16 0, .int .u16 0, .int .u16 0, .int .u16 0, .int .u16 0] := y.far (p := ⟨w.heap.size + 1, 4, none⟩) (by show w.heap.size ≠ w.heap.size + 1; omega) _
    replace z : Blk ((W8).setCell ⟨w.heap.size + 1, 4, none⟩ (.int .u16 (v8 : Int))) (w.heap.size + 1) 24 #[.int .u16 0, .int .u16 (v2 : Int), .int .u16 (v6 : Int), .int .u16 (v4 : Int), .int .u16 (v8 : Int), .int .u16 0, .int .u16 0, .int .u16 0] := by simpa using z.set_ 4 (.int .u16 (v8 : Int))
    obtain ⟨b9, x9, E9⟩ : ∃ b y, mayR 58 x8 = (b, y) := ⟨_, _, rfl⟩
    have hr := may_any g 58 x8 _ h8
    rw [E9] at hr
    have len9 := may_len 58 x8; rw [E9] at len9; replace len9 : x9.s.length ≤ 100000 := Nat.le_trans len9 len8
    have HE9 := Lib.hid E9; clear E9
    go_wp2_with fail
    refine hr.mono ?_; rintro e W9 ⟨rfl, h9, kq⟩
    have kk9 := kk8.trans kq
    replace y := kq.blk y (by omega)
    replace z := kq.blk z (by omega)
    clear hr kq kk8 h8 len8
    clear cc ff
    cases b9 with
    | false =>
      have HF := Lib.hid (show stR x0 = ((⟨0, (v2 : Int), (v6 : Int), (v4 : Int), (v8 : Int), 0, 0, 0⟩ : St), x9) by unfold stR; simp only [HE1.out, HE2.out, HE3.out, HE4.out, HE5.out, HE6.out, HE7.out, HE8.out, HE9.out]; simp)
      go_wp2_with (first | (refine wpList_row_g rfl 24 _ rfl _ rfl _ _ _ _ z Tryd.underlying24 rfl (by kernel_rfl) ?_) | (refine wpList_store_seg rfl 24 _ _ rfl rfl _ 0 #[.int .u16 0, .int .u16 (v2 : Int), .int .u16 (v6 : Int), .int .u16 (v4 : Int), .int .u16 (v8 : Int), .int .u16 0, .int .u16 0, .int .u16 0] #[.int .u16 0, .int .u16 (v2 : Int), .int .u16 (v6 : Int), .int .u16 (v4 : Int), .int .u16 (v8 : Int), .int .u16 0, .int .u16 0, .int .u16 0] rfl rfl _ _ y (Nat.le_refl 8) (by kernel_rfl) (by kernel_rfl) (by kernel_rfl) ?_))
      try simp only [Exit.inBlock, Exit.then]
      refine bodyPost_ret (results_c1 (p := 2) rfl _ _ _ _ _ rfl (Blk.row y #[.int .u16 0, .int .u16 (v2 : Int), .int .u16 (v6 : Int), .int .u16 (v4 : Int), .int .u16 (v8 : Int), .int .u16 0, .int .u16 0, .int .u16 0]) rfl) rfl ?_
      rw [HF.out]
      exact ⟨rfl, Blk.rowFar h9 (by omega) _, kk9.rowN (Nat.le_refl _) _⟩
    | true =>
      obtain ⟨v10, x10, E10⟩ : ∃ v y, numR 2 x9 = (v, y) := ⟨_, _, rfl⟩
      have hr := rnum_any g 2 (by decide) x9 _ h9 len9
      rw [E10] at hr
      have len10 := numr_len 2 x9; have vb10 := numr_le 2 (by decide) x9; rw [E10] at len10 vb10; replace len10 : x10.s.length ≤ 100000 := Nat.le_trans len10 len9; replace vb10 : v10 ≤ 99 := vb10
      have wq10 : IntKind.u16.wrap (v10 : Int) = (v10 : Int) := by simp [IntKind.wrap, IntKind.bits, IntKind.signed]; omega
      have HE10 := Lib.hid E10; clear E10
      go_wp2_with fail
      refine hr.mono ?_; rintro e W10 ⟨rfl, h10, kq⟩
      have kk10 := kk9.trans kq
      replace y := kq.blk y (by omega)
      replace z := kq.blk z (by omega)
      clear hr kq kk9 h9 len9
      have cc : (W10).cell? ⟨w.heap.size + 1, 5, none⟩ = some (.int .u16 0) := z.cell 5
      have ff : (W10).frozen? ⟨w.heap.size + 1, 5, none⟩ = false := z.frozen 5
      replace h10 : Rd ((W10).setCell ⟨w.heap.size + 1, 5, none⟩ (.int .u16 (v10 : Int))) g x10 := h10.far (p := ⟨w.heap.size + 1, 5, none⟩) (by show g ≠ w.heap.size + 1; omega) _
      replace kk10 : KB g w ((W10).setCell ⟨w.heap.size + 1, 5, none⟩ (.int .u16 (v10 : Int))) := kk10.setN (by omega) 5 _
      replace y : Blk ((W10).setCell ⟨w.heap.size + 1, 5, none⟩ (.int .u16 (v10 : Int))) w.heap.size 24 #[.int .u16 0, .int .u16 0, .int .u16 0, .int .u16 0, .int .u16 0, .int .u16 0, .int .u16 0, .int .u16 0] := y.far (p := ⟨w.heap.size + 1, 5, none⟩) (by show w.heap.size ≠ w.heap.size + 1; omega) _
      replace z : Blk ((W10).setCell ⟨w.heap.size + 1, 5, none⟩ (.int .u16 (v10 : Int))) (w.heap.size + 1) 24 #[.int .u16 0, .int .u16 (v2 : Int), .int .u16 (v6 : Int), .int .u16 (v4 : Int), .int .u16 (v8 : Int), .int .u16 (v10 : Int), .int .u16 0, .int .u16 0] := by simpa using z.set_ 5 (.int .u16 (v10 : Int))
      obtain ⟨b11, x11, E11⟩ : ∃ b y, mayR 58 x10 = (b, y) := ⟨_, _, rfl⟩
      have hr := may_any g 58 x10 _ h10
      rw [E11] at hr
      have len11 := may_len 58 x10; rw [E11] at len11; replace len11 : x11.s.length ≤ 100000 := Nat.le_trans len11 len10
      have HE11 := Lib.hid E11; clear E11
      go_wp2_with fail
      refine hr.mono ?_; rintro e W11 ⟨rfl, h11, kq⟩
      have kk11 := kk10.trans kq
      replace y := kq.blk y (by omega)
      replace z := kq.blk z (by omega)
      clear hr kq kk10 h10 len10
      clear cc ff
      cases b11 with
      | false =>
        have HF := Lib.hid (show stR x0 = ((⟨0, (v2 : Int), (v6 : Int), (v4 : Int), (v8 : Int), (v10 : Int), 0, 0⟩ : St), x11) by unfold stR; simp only [HE1.out, HE2.out, HE3.out, HE4.out, HE5.out, HE6.out, HE7.out, HE8.out, HE9.out, HE10.out, HE11.out]; simp)
        go_wp2_with (first | (refine wpList_row_g rfl 24 _ rfl _ rfl _ _ _ _ z Tryd.underlying24 rfl (by kernel_rfl) ?_) | (refine wpList_store_seg rfl 24 _ _ rfl rfl _ 0 #[.int .u16 0, .int .u16 (v2 : Int), .int .u16 (v6 : Int), .int .u16 (v4 : Int), .int .u16 (v8 : Int), .int .u16 (v10 : Int), .int .u16 0, .int .u16 0] #[.int .u16 0, .int .u16 (v2 : Int), .int .u16 (v6 : Int), .int .u16 (v4 : Int), .int .u16 (v8 : Int), .int .u16 (v10 : Int), .int .u16 0, .int .u16 0] rfl rfl _ _ y (Nat.le_refl 8) (by kernel_rfl) (by kernel_rfl) (by kernel_rfl) ?_))
        try simp only [Exit.inBlock, Exit.then]
        refine bodyPost_ret (results_c1 (p := 2) rfl _ _ _ _ _ rfl (Blk.row y #[.int .u16 0, .int .u16 (v2 : Int), .int .u16 (v6 : Int), .int .u16 (v4 : Int), .int .u16 (v8 : Int), .int .u16 (v10 : Int), .int .u16 0, .int .u16 0]) rfl) rfl ?_
        rw [HF.out]
        exact ⟨rfl, Blk.rowFar h11 (by omega) _, kk11.rowN (Nat.le_refl _) _⟩
      | true =>
        obtain ⟨v12, x12, E12⟩ : ∃ v y, numR 2 x11 = (v, y) := ⟨_, _, rfl⟩
        have hr := rnum_any g 2 (by decide) x11 _ h11 len11
        rw [E12] at hr
        have len12 := numr_len 2 x11; have vb12 := numr_le 2 (by decide) x11; rw [E12] at len12 vb12; replace len12 : x12.s.length ≤ 100000 := Nat.le_trans len12 len11; replace vb12 : v12 ≤ 99 := vb12
        have wq12 : IntKind.u16.wrap (v12 : Int) = (v12 : Int) := by simp [IntKind.wrap, IntKind.bits, IntKind.signed]; omega
        have HE12 := Lib.hid E12; clear E12
        go_wp2_with fail
        refine hr.mono ?_; rintro e W12 ⟨rfl, h12, kq⟩
        have kk12 := kk11.trans kq
        replace y := kq.blk y (by omega)
        replace z := kq.blk z (by omega)
        clear hr kq kk11 h11 len11
        have cc : (W12).cell? ⟨w.heap.size + 1, 6, none⟩ = some (.int .u16 0) := z.cell 6
        have ff : (W12).frozen? ⟨w.heap.size + 1, 6, none⟩ = false := z.frozen 6
        replace h12 : Rd ((W12).setCell ⟨w.heap.size + 1, 6, none⟩ (.int .u16 (v12 : Int))) g x12 := h12.far (p := ⟨w.heap.size + 1, 6, none⟩) (by show g ≠ w.heap.size + 1; omega) _
        replace kk12 : KB g w ((W12).setCell ⟨w.heap.size + 1, 6, none⟩ (.int .u16 (v12 : Int))) := kk12.setN (by omega) 6 _
        replace y : Blk ((W12).setCell ⟨w.heap.size + 1, 6, none⟩ (.int .u16 (v12 : Int))) w.heap.size 24 #[.int .u16 0, .int .u16 0, .int .u16 0, .int .u16 0, .int .u16 0, .int .u16 0, .int .u16 0, .int .u16 0] := y.far (p := ⟨w.heap.size + 1, 6, none⟩) (by show w.heap.size ≠ w.heap.size + 1; omega) _
        replace z : Blk ((W12).setCell ⟨w.heap.size + 1, 6, none⟩ (.int .u16 (v12 : Int))) (w.heap.size + 1) 24 #[.int .u16 0, .int .u16 (v2 : Int), .int .u16 (v6 : Int), .int .u16 (v4 : Int), .int .u16 (v8 : Int), .int .u16 (v10 : Int), .int .u16 (v12 : Int), .int .u16 0] := by simpa using z.set_ 6 (.int .u16 (v12 : Int))
        have HF := Lib.hid (show stR x0 = ((⟨0, (v2 : Int), (v6 : Int), (v4 : Int), (v8 : Int), (v10 : Int), (v12 : Int), 0⟩ : St), x12) by unfold stR; simp only [HE1.out, HE2.out, HE3.out, HE4.out, HE5.out, HE6.out, HE7.out, HE8.out, HE9.out, HE10.out, HE11.out, HE12.out]; simp)
        go_wp2_with (first | (refine wpList_row_g rfl 24 _ rfl _ rfl _ _ _ _ z Tryd.underlying24 rfl (by kernel_rfl) ?_) | (refine wpList_store_seg rfl 24 _ _ rfl rfl _ 0 #[.int .u16 0, .int .u16 (v2 : Int), .int .u16 (v6 : Int), .int .u16 (v4 : Int), .int .u16 (v8 : Int), .int .u16 (v10 : Int), .int .u16 (v12 : Int), .int .u16 0] #[.int .u16 0, .int .u16 (v2 : Int), .int .u16 (v6 : Int), .int .u16 (v4 : Int), .int .u16 (v8 : Int), .int .u16 (v10 : Int), .int .u16 (v12 : Int), .int .u16 0] rfl rfl _ _ y (Nat.le_refl 8) (by kernel_rfl) (by kernel_rfl) (by kernel_rfl) ?_))
        try simp only [Exit.inBlock, Exit.then]
        refine bodyPost_ret (results_c1 (p := 2) rfl _ _ _ _ _ rfl (Blk.row y #[.int .u16 0, .int .u16 (v2 : Int), .int .u16 (v6 : Int), .int .u16 (v4 : Int), .int .u16 (v8 : Int), .int .u16 (v10 : Int), .int .u16 (v12 : Int), .int .u16 0]) rfl) rfl ?_
        rw [HF.out]
        exact ⟨rfl, Blk.rowFar h12 (by omega) _, kk12.rowN (Nat.le_refl _) _⟩
end Go.Proofs.YtgdgkgeoigljcaaDoor.Fo
