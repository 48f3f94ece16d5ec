/-
  What writes a footer's stamp; whether a stamp is of each year: walked.
-/
import Derived.Test.YtgdgkgeoigljcaaDoorFo2
namespace Go.Proofs.YtgdgkgeoigljcaaDoor.Fo
open Go.ChangeShapes Go.WideShapes Go.ChangeAt Go.RowKit Go.Shelf
open Go.Proofs.YtgdgkgeoigljcaaDoor
open Go.Proofs.YtgdgkgeoigljcaaDoor.Wd
open Go.Proofs.YtgdgkgeoigljcaaDoor.Rec
open Go.Proofs.YtgdgkgeoigljcaaDoor.Tb (Rc)
open Go.Proofs.YtgdgkgeoigljcaaDoor.Civ (Tab)
open Go.Lib (byteCells)
set_option linter.unusedVariables false
set_option linter.unusedSimpArgs false
/-- a stamp's numbers are short -/
structure Sh (x : St) : Prop where
  m : 0 ≤ x.m ∧ x.m < 100
  d : 0 ≤ x.d ∧ x.d < 100
  v : 0 ≤ x.v ∧ x.v < 100
  h : 0 ≤ x.h ∧ x.h < 100
  i : 0 ≤ x.i ∧ x.i < 100
  s : 0 ≤ x.s ∧ x.s < 100
/-- the text so far, and the stamp that is written -/
structure Ws (w W : World) (B0 g gb : Nat) (x : St) (l : List UInt8) : Prop where
  hW : Wo W B0 g l
  b : Below B0 w W
  k : OK g w W
  p : Pw B0 W
  s : B0 ≤ W.heap.size
  x : Blk W gb 24 (sA x)
  n : gb ≠ g
theorem Ws.step {w W W' : World} {B0 g gb : Nat} {x : St} {l l' : List UInt8} (h : Ws w W B0 g gb x l) (q1 : Wo W' B0 g l') (q2 : Below B0 W W') (q3 : OK g W W') : Ws w W' B0 g gb x l' :=
  ⟨q1, h.b.trans q2, h.k.trans q3, h.p.on q2, Nat.le_trans h.s q2.size, q3.blk h.x h.n (by decide), h.n⟩
theorem Ws.cells {w W : World} {B0 g gb : Nat} {x : St} {l : List UInt8} (h : Ws w W B0 g gb x l) :
    W.cell? ⟨gb, 1, none⟩ = some (.int .u16 x.m) ∧ W.cell? ⟨gb, 3, none⟩ = some (.int .u16 x.d) ∧ W.cell? ⟨gb, 2, none⟩ = some (.int .u16 x.v) ∧ W.cell? ⟨gb, 4, none⟩ = some (.int .u16 x.h) ∧ W.cell? ⟨gb, 5, none⟩ = some (.int .u16 x.i) ∧ W.cell? ⟨gb, 6, none⟩ = some (.int .u16 x.s) :=
  ⟨h.x.cell 1, h.x.cell 3, h.x.cell 2, h.x.cell 4, h.x.cell 5, h.x.cell 6⟩
theorem wr64 {z : Int} (h : 0 ≤ z ∧ z < 100) : IntKind.i64.wrap z = z := by simp [IntKind.wrap, IntKind.bits, IntKind.signed]; omega
set_option maxRecDepth 40000 in
set_option maxHeartbeats 12800000 in
theorem ost_any (B0 g : Nat) (l0 : List UInt8) (x : St) (w : World) (h : Wo w B0 g l0) (hx : Sh x) (hl : l0.length ≤ 10000) (hB : B0 ≤ w.heap.size) (hP : Pw B0 w) :
    Calls Tryd.prog 20 #[.pointer (some ⟨g, 0, none⟩), .agg (sA x)] w fun e w' => e = .returned (.tuple #[]) ∧ Wo w' B0 g (l0 ++ stT x) ∧ Below B0 w w' ∧ OK g w w' := by
  obtain ⟨xm, xd, xv, xh, xi, xs⟩ := hx
  have wm := wr64 xm; have wd := wr64 xd; have wv := wr64 xv; have wh := wr64 xh; have wi := wr64 xi; have ws := wr64 xs
  have n0 := hl
  have hS0 : Ws w (w.alloc (.cells (sA x) 24)) B0 g w.heap.size x l0 := ⟨h.alloc _, (Below.refl B0 w).alloc hB _, (Lib.OthersKept.refl _ _ w).alloc _, hP.on ((Below.refl B0 w).alloc hB _), Nat.le_trans hB (by rw [sz1 _ _ rfl]; exact Nat.le_succ _), Blk.new w _ _, by obtain ⟨_, _, q, _⟩ := h; have := q.lt; omega⟩
  obtain ⟨cm, cd, cv, ch, ci, cs⟩ := hS0.cells
  clear h hP hl hB
  go_enter Tryd.func20, Tryd.ntmps20
  have hr := raw_any B0 g l0 ⟨#[77]⟩ _ hS0.hW (by show l0.length + 1 ≤ _; omega) hS0.s
  go_wp2_with fail
  refine hr.mono ?_; rintro e W1 ⟨rfl, q1, q2, q3⟩
  replace q1 : Wo W1 B0 g (l0 ++ [77]) := q1
  have n1 : (l0 ++ [77]).length ≤ 10003 := by rw [List.length_append]; show l0.length + 1 ≤ _; omega
  obtain ⟨l1, hl1⟩ : ∃ q, l0 ++ [77] = q := ⟨_, rfl⟩
  rw [hl1] at q1 n1
  have HL1 := Lib.hid hl1
  have hS1 := hS0.step q1 q2 q3
  clear hr hl1 q1 q2 q3 hS0 n0 cm cd cv ch ci cs
  obtain ⟨cm, cd, cv, ch, ci, cs⟩ := hS1.cells
  have hr := num_any B0 g l1 x.m _ hS1.hW (by omega) (by omega) hS1.s hS1.p
  go_wp2_with fail
  refine hr.mono ?_; rintro e W2 ⟨rfl, q1, q2, q3⟩
  replace q1 : Wo W2 B0 g (l1 ++ numT x.m.toNat) := q1
  have n2 : (l1 ++ numT x.m.toNat).length ≤ 10006 := by rw [List.length_append]; have := num_len x.m.toNat; omega
  obtain ⟨l2, hl2⟩ : ∃ q, l1 ++ numT x.m.toNat = q := ⟨_, rfl⟩
  rw [hl2] at q1 n2
  have HL2 := Lib.hid hl2
  have hS2 := hS1.step q1 q2 q3
  clear hr hl2 q1 q2 q3 hS1 n1 cm cd cv ch ci cs
  obtain ⟨cm, cd, cv, ch, ci, cs⟩ := hS2.cells
  have hr := raw_any B0 g l2 ⟨#[46]⟩ _ hS2.hW (by show l2.length + 1 ≤ _; omega) hS2.s
  go_wp2_with fail
  refine hr.mono ?_; rintro e W3 ⟨rfl, q1, q2, q3⟩
  replace q1 : Wo W3 B0 g (l2 ++ [46]) := q1
  have n3 : (l2 ++ [46]).length ≤ 10009 := by rw [List.length_append]; show l2.length + 1 ≤ _; omega
  obtain ⟨l3, hl3⟩ : ∃ q, l2 ++ [46] = q := ⟨_, rfl⟩
  rw [hl3] at q1 n3
  have HL3 := Lib.hid hl3
  have hS3 := hS2.step q1 q2 q3
  clear hr hl3 q1 q2 q3 hS2 n2 cm cd cv ch ci cs
  obtain ⟨cm, cd, cv, ch, ci, cs⟩ := hS3.cells
  have hr := num_any B0 g l3 x.d _ hS3.hW (by omega) (by omega) hS3.s hS3.p
  go_wp2_with fail
  refine hr.mono ?_; rintro e W4 ⟨rfl, q1, q2, q3⟩
  replace q1 : Wo W4 B0 g (l3 ++ numT x.d.toNat) := q1
  have n4 : (l3 ++ numT x.d.toNat).length ≤ 10012 := by rw [List.length_append]; have := num_len x.d.toNat; omega
  obtain ⟨l4, hl4⟩ : ∃ q, l3 ++ numT x.d.toNat = q := ⟨_, rfl⟩
  rw [hl4] at q1 n4
  have HL4 := Lib.hid hl4
  have hS4 := hS3.step q1 q2 q3
  clear hr hl4 q1 q2 q3 hS3 n3 cm cd cv ch ci cs
  obtain ⟨cm, cd, cv, ch, ci, cs⟩ := hS4.cells
  have hr := raw_any B0 g l4 ⟨#[46]⟩ _ hS4.hW (by show l4.length + 1 ≤ _; omega) hS4.s
  go_wp2_with fail
  refine hr.mono ?_; rintro e W5 ⟨rfl, q1, q2, q3⟩
  replace q1 : Wo W5 B0 g (l4 ++ [46]) := q1
  have n5 : (l4 ++ [46]).length ≤ 10015 := by rw [List.length_append]; show l4.length + 1 ≤ _; omega
  obtain ⟨l5, hl5⟩ : ∃ q, l4 ++ [46] = q := ⟨_, rfl⟩
  rw [hl5] at q1 n5
  have HL5 := Lib.hid hl5
  have hS5 := hS4.step q1 q2 q3
  clear hr hl5 q1 q2 q3 hS4 n4 cm cd cv ch ci cs
  obtain ⟨cm, cd, cv, ch, ci, cs⟩ := hS5.cells
  have hr := num_any B0 g l5 x.v _ hS5.hW (by omega) (by omega) hS5.s hS5.p
  go_wp2_with fail
  refine hr.mono ?_; rintro e W6 ⟨rfl, q1, q2, q3⟩
  replace q1 : Wo W6 B0 g (l5 ++ numT x.v.toNat) := q1
  have n6 : (l5 ++ numT x.v.toNat).length ≤ 10018 := by rw [List.length_append]; have := num_len x.v.toNat; omega
  obtain ⟨l6, hl6⟩ : ∃ q, l5 ++ numT x.v.toNat = q := ⟨_, rfl⟩
  rw [hl6] at q1 n6
  have HL6 := Lib.hid hl6
  have hS6 := hS5.step q1 q2 q3
  clear hr hl6 q1 q2 q3 hS5 n5 cm cd cv ch ci cs
  obtain ⟨cm, cd, cv, ch, ci, cs⟩ := hS6.cells
  by_cases gh : x.h = 2
  · skip
    have eh : (x.h == 2) = true := by simp [gh]
    have dh : (x.h != 2) = false := by simp [gh]
    by_cases gi : x.i = 0
    · skip
      have ei : (x.i == 0) = true := by simp [gi]
      have di : (x.i != 0) = false := by simp [gi]
      by_cases gs : x.s = 0
      · skip
        have es : (x.s == 0) = true := by simp [gs]
        have ds : (x.s != 0) = false := by simp [gs]
        have HST := Lib.hid (show stT x = 77 :: (numT x.m.toNat ++ 46 :: (numT x.d.toNat ++ 46 :: numT x.v.toNat)) by unfold stT clT; rw [if_pos ⟨gh, gi, gs⟩]; simp)
        clear gh gi gs
        have HE : l0 ++ stT x = l6 := by
          rw [← HL6.out, ← HL5.out, ← HL4.out, ← HL3.out, ← HL2.out, ← HL1.out]
          rw [HST.out]; simp only [List.append_assoc, List.singleton_append, List.cons_append, List.nil_append, List.append_nil]
        have HE2 := Lib.hid HE; clear HE
        clear HL1 HL2 HL3 HL4 HL5 HL6
        go_wp2_with fail
        try simp only [Exit.inBlock, Exit.then]
        refine bodyPost_ret (results_none rfl _ _ _) rfl ?_
        exact ⟨rfl, by rw [HE2.out]; exact hS6.hW, hS6.b, hS6.k⟩
      · skip
        have es : (x.s == 0) = false := by simp [gs]
        have ds : (x.s != 0) = true := by simp [gs]
        have HST := Lib.hid (show stT x = 77 :: (numT x.m.toNat ++ 46 :: (numT x.d.toNat ++ 46 :: (numT x.v.toNat ++ 47 :: (numT x.h.toNat ++ (twoT x.i.toNat ++ twoT x.s.toNat))))) by unfold stT clT; rw [if_neg (by rintro ⟨q1, q2, q3⟩; omega), if_neg (by rintro ⟨q1, q2⟩; omega), if_neg gs])
        clear gh gi gs
        have hr := raw_any B0 g l6 ⟨#[47]⟩ _ hS6.hW (by show l6.length + 1 ≤ _; omega) hS6.s
        go_wp2_with fail
        refine hr.mono ?_; rintro e W7 ⟨rfl, q1, q2, q3⟩
        replace q1 : Wo W7 B0 g (l6 ++ [47]) := q1
        have n7 : (l6 ++ [47]).length ≤ 10021 := by rw [List.length_append]; show l6.length + 1 ≤ _; omega
        obtain ⟨l7, hl7⟩ : ∃ q, l6 ++ [47] = q := ⟨_, rfl⟩
        rw [hl7] at q1 n7
        have HL7 := Lib.hid hl7
        have hS7 := hS6.step q1 q2 q3
        clear hr hl7 q1 q2 q3 hS6 n6 cm cd cv ch ci cs
        obtain ⟨cm, cd, cv, ch, ci, cs⟩ := hS7.cells
        have hr := num_any B0 g l7 x.h _ hS7.hW (by omega) (by omega) hS7.s hS7.p
        go_wp2_with fail
        refine hr.mono ?_; rintro e W8 ⟨rfl, q1, q2, q3⟩
        replace q1 : Wo W8 B0 g (l7 ++ numT x.h.toNat) := q1
        have n8 : (l7 ++ numT x.h.toNat).length ≤ 10024 := by rw [List.length_append]; have := num_len x.h.toNat; omega
        obtain ⟨l8, hl8⟩ : ∃ q, l7 ++ numT x.h.toNat = q := ⟨_, rfl⟩
        rw [hl8] at q1 n8
        have HL8 := Lib.hid hl8
        have hS8 := hS7.step q1 q2 q3
        clear hr hl8 q1 q2 q3 hS7 n7 cm cd cv ch ci cs
        obtain ⟨cm, cd, cv, ch, ci, cs⟩ := hS8.cells
        have hr := two_any B0 g l8 x.i.toNat _ hS8.hW (by omega) (by omega) hS8.s
        rw [show ((x.i.toNat : Nat) : Int) = x.i by omega] at hr
        go_wp2_with fail
        refine hr.mono ?_; rintro e W9 ⟨rfl, q1, q2, q3⟩
        replace q1 : Wo W9 B0 g (l8 ++ twoT x.i.toNat) := q1
        have n9 : (l8 ++ twoT x.i.toNat).length ≤ 10027 := by rw [List.length_append]; rw [two_len]; omega
        obtain ⟨l9, hl9⟩ : ∃ q, l8 ++ twoT x.i.toNat = q := ⟨_, rfl⟩
        rw [hl9] at q1 n9
        have HL9 := Lib.hid hl9
        have hS9 := hS8.step q1 q2 q3
        clear hr hl9 q1 q2 q3 hS8 n8 cm cd cv ch ci cs
        obtain ⟨cm, cd, cv, ch, ci, cs⟩ := hS9.cells
        have hr := two_any B0 g l9 x.s.toNat _ hS9.hW (by omega) (by omega) hS9.s
        rw [show ((x.s.toNat : Nat) : Int) = x.s by omega] at hr
        go_wp2_with fail
        refine hr.mono ?_; rintro e W10 ⟨rfl, q1, q2, q3⟩
        replace q1 : Wo W10 B0 g (l9 ++ twoT x.s.toNat) := q1
        have n10 : (l9 ++ twoT x.s.toNat).length ≤ 10030 := by rw [List.length_append]; rw [two_len]; omega
        obtain ⟨l10, hl10⟩ : ∃ q, l9 ++ twoT x.s.toNat = q := ⟨_, rfl⟩
        rw [hl10] at q1 n10
        have HL10 := Lib.hid hl10
        have hS10 := hS9.step q1 q2 q3
        clear hr hl10 q1 q2 q3 hS9 n9 cm cd cv ch ci cs
        obtain ⟨cm, cd, cv, ch, ci, cs⟩ := hS10.cells
        have HE : l0 ++ stT x = l10 := by
          rw [← HL10.out, ← HL9.out, ← HL8.out, ← HL7.out, ← HL6.out, ← HL5.out, ← HL4.out, ← HL3.out, ← HL2.out, ← HL1.out]
          rw [HST.out]; simp only [List.append_assoc, List.singleton_append, List.cons_append, List.nil_append, List.append_nil]
        have HE2 := Lib.hid HE; clear HE
        clear HL1 HL2 HL3 HL4 HL5 HL6 HL7 HL8 HL9 HL10
        go_wp2_with fail
        go_end0
        exact ⟨rfl, by rw [HE2.out]; exact hS10.hW, hS10.b, hS10.k⟩
    · skip
      have ei : (x.i == 0) = false := by simp [gi]
      have di : (x.i != 0) = true := by simp [gi]
      by_cases gs : x.s = 0
      · skip
        have es : (x.s == 0) = true := by simp [gs]
        have ds : (x.s != 0) = false := by simp [gs]
        have HST := Lib.hid (show stT x = 77 :: (numT x.m.toNat ++ 46 :: (numT x.d.toNat ++ 46 :: (numT x.v.toNat ++ 47 :: (numT x.h.toNat ++ (twoT x.i.toNat ++ []))))) by unfold stT clT; rw [if_neg (by rintro ⟨q1, q2, q3⟩; omega), if_neg (by rintro ⟨q1, q2⟩; omega), if_pos gs])
        clear gh gi gs
        have hr := raw_any B0 g l6 ⟨#[47]⟩ _ hS6.hW (by show l6.length + 1 ≤ _; omega) hS6.s
        go_wp2_with fail
        refine hr.mono ?_; rintro e W7 ⟨rfl, q1, q2, q3⟩
        replace q1 : Wo W7 B0 g (l6 ++ [47]) := q1
        have n7 : (l6 ++ [47]).length ≤ 10021 := by rw [List.length_append]; show l6.length + 1 ≤ _; omega
        obtain ⟨l7, hl7⟩ : ∃ q, l6 ++ [47] = q := ⟨_, rfl⟩
        rw [hl7] at q1 n7
        have HL7 := Lib.hid hl7
        have hS7 := hS6.step q1 q2 q3
        clear hr hl7 q1 q2 q3 hS6 n6 cm cd cv ch ci cs
        obtain ⟨cm, cd, cv, ch, ci, cs⟩ := hS7.cells
        have hr := num_any B0 g l7 x.h _ hS7.hW (by omega) (by omega) hS7.s hS7.p
        go_wp2_with fail
        refine hr.mono ?_; rintro e W8 ⟨rfl, q1, q2, q3⟩
        replace q1 : Wo W8 B0 g (l7 ++ numT x.h.toNat) := q1
        have n8 : (l7 ++ numT x.h.toNat).length ≤ 10024 := by rw [List.length_append]; have := num_len x.h.toNat; omega
        obtain ⟨l8, hl8⟩ : ∃ q, l7 ++ numT x.h.toNat = q := ⟨_, rfl⟩
        rw [hl8] at q1 n8
        have HL8 := Lib.hid hl8
        have hS8 := hS7.step q1 q2 q3
        clear hr hl8 q1 q2 q3 hS7 n7 cm cd cv ch ci cs
        obtain ⟨cm, cd, cv, ch, ci, cs⟩ := hS8.cells
        have hr := two_any B0 g l8 x.i.toNat _ hS8.hW (by omega) (by omega) hS8.s
        rw [show ((x.i.toNat : Nat) : Int) = x.i by omega] at hr
        go_wp2_with fail
        refine hr.mono ?_; rintro e W9 ⟨rfl, q1, q2, q3⟩
        replace q1 : Wo W9 B0 g (l8 ++ twoT x.i.toNat) := q1
        have n9 : (l8 ++ twoT x.i.toNat).length ≤ 10027 := by rw [List.length_append]; rw [two_len]; omega
        obtain ⟨l9, hl9⟩ : ∃ q, l8 ++ twoT x.i.toNat = q := ⟨_, rfl⟩
        rw [hl9] at q1 n9
        have HL9 := Lib.hid hl9
        have hS9 := hS8.step q1 q2 q3
        clear hr hl9 q1 q2 q3 hS8 n8 cm cd cv ch ci cs
        obtain ⟨cm, cd, cv, ch, ci, cs⟩ := hS9.cells
        have HE : l0 ++ stT x = l9 := by
          rw [← HL9.out, ← HL8.out, ← HL7.out, ← HL6.out, ← HL5.out, ← HL4.out, ← HL3.out, ← HL2.out, ← HL1.out]
          rw [HST.out]; simp only [List.append_assoc, List.singleton_append, List.cons_append, List.nil_append, List.append_nil]
        have HE2 := Lib.hid HE; clear HE
        clear HL1 HL2 HL3 HL4 HL5 HL6 HL7 HL8 HL9
        go_wp2_with fail
        go_end0
        exact ⟨rfl, by rw [HE2.out]; exact hS9.hW, hS9.b, hS9.k⟩
      · skip
        have es : (x.s == 0) = false := by simp [gs]
        have ds : (x.s != 0) = true := by simp [gs]
        have HST := Lib.hid (show stT x = 77 :: (numT x.m.toNat ++ 46 :: (numT x.d.toNat ++ 46 :: (numT x.v.toNat ++ 47 :: (numT x.h.toNat ++ (twoT x.i.toNat ++ twoT x.s.toNat))))) by unfold stT clT; rw [if_neg (by rintro ⟨q1, q2, q3⟩; omega), if_neg (by rintro ⟨q1, q2⟩; omega), if_neg gs])
        clear gh gi gs
        have hr := raw_any B0 g l6 ⟨#[47]⟩ _ hS6.hW (by show l6.length + 1 ≤ _; omega) hS6.s
        go_wp2_with fail
        refine hr.mono ?_; rintro e W7 ⟨rfl, q1, q2, q3⟩
        replace q1 : Wo W7 B0 g (l6 ++ [47]) := q1
        have n7 : (l6 ++ [47]).length ≤ 10021 := by rw [List.length_append]; show l6.length + 1 ≤ _; omega
        obtain ⟨l7, hl7⟩ : ∃ q, l6 ++ [47] = q := ⟨_, rfl⟩
        rw [hl7] at q1 n7
        have HL7 := Lib.hid hl7
        have hS7 := hS6.step q1 q2 q3
        clear hr hl7 q1 q2 q3 hS6 n6 cm cd cv ch ci cs
        obtain ⟨cm, cd, cv, ch, ci, cs⟩ := hS7.cells
        have hr := num_any B0 g l7 x.h _ hS7.hW (by omega) (by omega) hS7.s hS7.p
        go_wp2_with fail
        refine hr.mono ?_; rintro e W8 ⟨rfl, q1, q2, q3⟩
        replace q1 : Wo W8 B0 g (l7 ++ numT x.h.toNat) := q1
        have n8 : (l7 ++ numT x.h.toNat).length ≤ 10024 := by rw [List.length_append]; have := num_len x.h.toNat; omega
        obtain ⟨l8, hl8⟩ : ∃ q, l7 ++ numT x.h.toNat = q := ⟨_, rfl⟩
        rw [hl8] at q1 n8
        have HL8 := Lib.hid hl8
        have hS8 := hS7.step q1 q2 q3
        clear hr hl8 q1 q2 q3 hS7 n7 cm cd cv ch ci cs
        obtain ⟨cm, cd, cv, ch, ci, cs⟩ := hS8.cells
        have hr := two_any B0 g l8 x.i.toNat _ hS8.hW (by omega) (by omega) hS8.s
        rw [show ((x.i.toNat : Nat) : Int) = x.i by omega] at hr
        go_wp2_with fail
        refine hr.mono ?_; rintro e W9 ⟨rfl, q1, q2, q3⟩
        replace q1 : Wo W9 B0 g (l8 ++ twoT x.i.toNat) := q1
        have n9 : (l8 ++ twoT x.i.toNat).length ≤ 10027 := by rw [List.length_append]; rw [two_len]; omega
        obtain ⟨l9, hl9⟩ : ∃ q, l8 ++ twoT x.i.toNat = q := ⟨_, rfl⟩
        rw [hl9] at q1 n9
        have HL9 := Lib.hid hl9
        have hS9 := hS8.step q1 q2 q3
        clear hr hl9 q1 q2 q3 hS8 n8 cm cd cv ch ci cs
        obtain ⟨cm, cd, cv, ch, ci, cs⟩ := hS9.cells
        have hr := two_any B0 g l9 x.s.toNat _ hS9.hW (by omega) (by omega) hS9.s
        rw [show ((x.s.toNat : Nat) : Int) = x.s by omega] at hr
        go_wp2_with fail
        refine hr.mono ?_; rintro e W10 ⟨rfl, q1, q2, q3⟩
        replace q1 : Wo W10 B0 g (l9 ++ twoT x.s.toNat) := q1
        have n10 : (l9 ++ twoT x.s.toNat).length ≤ 10030 := by rw [List.length_append]; rw [two_len]; omega
        obtain ⟨l10, hl10⟩ : ∃ q, l9 ++ twoT x.s.toNat = q := ⟨_, rfl⟩
        rw [hl10] at q1 n10
        have HL10 := Lib.hid hl10
        have hS10 := hS9.step q1 q2 q3
        clear hr hl10 q1 q2 q3 hS9 n9 cm cd cv ch ci cs
        obtain ⟨cm, cd, cv, ch, ci, cs⟩ := hS10.cells
        have HE : l0 ++ stT x = l10 := by
          rw [← HL10.out, ← HL9.out, ← HL8.out, ← HL7.out, ← HL6.out, ← HL5.out, ← HL4.out, ← HL3.out, ← HL2.out, ← HL1.out]
          rw [HST.out]; simp only [List.append_assoc, List.singleton_append, List.cons_append, List.nil_append, List.append_nil]
        have HE2 := Lib.hid HE; clear HE
        clear HL1 HL2 HL3 HL4 HL5 HL6 HL7 HL8 HL9 HL10
        go_wp2_with fail
        go_end0
        exact ⟨rfl, by rw [HE2.out]; exact hS10.hW, hS10.b, hS10.k⟩
  · skip
    have eh : (x.h == 2) = false := by simp [gh]
    have dh : (x.h != 2) = true := by simp [gh]
    by_cases gi : x.i = 0
    · skip
      have ei : (x.i == 0) = true := by simp [gi]
      have di : (x.i != 0) = false := by simp [gi]
      by_cases gs : x.s = 0
      · skip
        have es : (x.s == 0) = true := by simp [gs]
        have ds : (x.s != 0) = false := by simp [gs]
        have HST := Lib.hid (show stT x = 77 :: (numT x.m.toNat ++ 46 :: (numT x.d.toNat ++ 46 :: (numT x.v.toNat ++ 47 :: (numT x.h.toNat ++ ([] ++ []))))) by unfold stT clT; rw [if_neg (by rintro ⟨q1, q2, q3⟩; omega), if_pos ⟨gi, gs⟩, if_pos gs])
        clear gh gi gs
        have hr := raw_any B0 g l6 ⟨#[47]⟩ _ hS6.hW (by show l6.length + 1 ≤ _; omega) hS6.s
        go_wp2_with fail
        refine hr.mono ?_; rintro e W7 ⟨rfl, q1, q2, q3⟩
        replace q1 : Wo W7 B0 g (l6 ++ [47]) := q1
        have n7 : (l6 ++ [47]).length ≤ 10021 := by rw [List.length_append]; show l6.length + 1 ≤ _; omega
        obtain ⟨l7, hl7⟩ : ∃ q, l6 ++ [47] = q := ⟨_, rfl⟩
        rw [hl7] at q1 n7
        have HL7 := Lib.hid hl7
        have hS7 := hS6.step q1 q2 q3
        clear hr hl7 q1 q2 q3 hS6 n6 cm cd cv ch ci cs
        obtain ⟨cm, cd, cv, ch, ci, cs⟩ := hS7.cells
        have hr := num_any B0 g l7 x.h _ hS7.hW (by omega) (by omega) hS7.s hS7.p
        go_wp2_with fail
        refine hr.mono ?_; rintro e W8 ⟨rfl, q1, q2, q3⟩
        replace q1 : Wo W8 B0 g (l7 ++ numT x.h.toNat) := q1
        have n8 : (l7 ++ numT x.h.toNat).length ≤ 10024 := by rw [List.length_append]; have := num_len x.h.toNat; omega
        obtain ⟨l8, hl8⟩ : ∃ q, l7 ++ numT x.h.toNat = q := ⟨_, rfl⟩
        rw [hl8] at q1 n8
        have HL8 := Lib.hid hl8
        have hS8 := hS7.step q1 q2 q3
        clear hr hl8 q1 q2 q3 hS7 n7 cm cd cv ch ci cs
        obtain ⟨cm, cd, cv, ch, ci, cs⟩ := hS8.cells
        have HE : l0 ++ stT x = l8 := by
          rw [← HL8.out, ← HL7.out, ← HL6.out, ← HL5.out, ← HL4.out, ← HL3.out, ← HL2.out, ← HL1.out]
          rw [HST.out]; simp only [List.append_assoc, List.singleton_append, List.cons_append, List.nil_append, List.append_nil]
        have HE2 := Lib.hid HE; clear HE
        clear HL1 HL2 HL3 HL4 HL5 HL6 HL7 HL8
        go_wp2_with fail
        go_end0
        exact ⟨rfl, by rw [HE2.out]; exact hS8.hW, hS8.b, hS8.k⟩
      · skip
        have es : (x.s == 0) = false := by simp [gs]
        have ds : (x.s != 0) = true := by simp [gs]
        have HST := Lib.hid (show stT x = 77 :: (numT x.m.toNat ++ 46 :: (numT x.d.toNat ++ 46 :: (numT x.v.toNat ++ 47 :: (numT x.h.toNat ++ (twoT x.i.toNat ++ twoT x.s.toNat))))) by unfold stT clT; rw [if_neg (by rintro ⟨q1, q2, q3⟩; omega), if_neg (by rintro ⟨q1, q2⟩; omega), if_neg gs])
        clear gh gi gs
        have hr := raw_any B0 g l6 ⟨#[47]⟩ _ hS6.hW (by show l6.length + 1 ≤ _; omega) hS6.s
        go_wp2_with fail
        refine hr.mono ?_; rintro e W7 ⟨rfl, q1, q2, q3⟩
        replace q1 : Wo W7 B0 g (l6 ++ [47]) := q1
        have n7 : (l6 ++ [47]).length ≤ 10021 := by rw [List.length_append]; show l6.length + 1 ≤ _; omega
        obtain ⟨l7, hl7⟩ : ∃ q, l6 ++ [47] = q := ⟨_, rfl⟩
        rw [hl7] at q1 n7
        have HL7 := Lib.hid hl7
        have hS7 := hS6.step q1 q2 q3
        clear hr hl7 q1 q2 q3 hS6 n6 cm cd cv ch ci cs
        obtain ⟨cm, cd, cv, ch, ci, cs⟩ := hS7.cells
        have hr := num_any B0 g l7 x.h _ hS7.hW (by omega) (by omega) hS7.s hS7.p
        go_wp2_with fail
        refine hr.mono ?_; rintro e W8 ⟨rfl, q1, q2, q3⟩
        replace q1 : Wo W8 B0 g (l7 ++ numT x.h.toNat) := q1
        have n8 : (l7 ++ numT x.h.toNat).length ≤ 10024 := by rw [List.length_append]; have := num_len x.h.toNat; omega
        obtain ⟨l8, hl8⟩ : ∃ q, l7 ++ numT x.h.toNat = q := ⟨_, rfl⟩
        rw [hl8] at q1 n8
        have HL8 := Lib.hid hl8
        have hS8 := hS7.step q1 q2 q3
        clear hr hl8 q1 q2 q3 hS7 n7 cm cd cv ch ci cs
        obtain ⟨cm, cd, cv, ch, ci, cs⟩ := hS8.cells
        have hr := two_any B0 g l8 x.i.toNat _ hS8.hW (by omega) (by omega) hS8.s
        rw [show ((x.i.toNat : Nat) : Int) = x.i by omega] at hr
        go_wp2_with fail
        refine hr.mono ?_; rintro e W9 ⟨rfl, q1, q2, q3⟩
        replace q1 : Wo W9 B0 g (l8 ++ twoT x.i.toNat) := q1
        have n9 : (l8 ++ twoT x.i.toNat).length ≤ 10027 := by rw [List.length_append]; rw [two_len]; omega
        obtain ⟨l9, hl9⟩ : ∃ q, l8 ++ twoT x.i.toNat = q := ⟨_, rfl⟩
        rw [hl9] at q1 n9
        have HL9 := Lib.hid hl9
        have hS9 := hS8.step q1 q2 q3
        clear hr hl9 q1 q2 q3 hS8 n8 cm cd cv ch ci cs
        obtain ⟨cm, cd, cv, ch, ci, cs⟩ := hS9.cells
        have hr := two_any B0 g l9 x.s.toNat _ hS9.hW (by omega) (by omega) hS9.s
        rw [show ((x.s.toNat : Nat) : Int) = x.s by omega] at hr
        go_wp2_with fail
        refine hr.mono ?_; rintro e W10 ⟨rfl, q1, q2, q3⟩
        replace q1 : Wo W10 B0 g (l9 ++ twoT x.s.toNat) := q1
        have n10 : (l9 ++ twoT x.s.toNat).length ≤ 10030 := by rw [List.length_append]; rw [two_len]; omega
        obtain ⟨l10, hl10⟩ : ∃ q, l9 ++ twoT x.s.toNat = q := ⟨_, rfl⟩
        rw [hl10] at q1 n10
        have HL10 := Lib.hid hl10
        have hS10 := hS9.step q1 q2 q3
        clear hr hl10 q1 q2 q3 hS9 n9 cm cd cv ch ci cs
        obtain ⟨cm, cd, cv, ch, ci, cs⟩ := hS10.cells
        have HE : l0 ++ stT x = l10 := by
          rw [← HL10.out, ← HL9.out, ← HL8.out, ← HL7.out, ← HL6.out, ← HL5.out, ← HL4.out, ← HL3.out, ← HL2.out, ← HL1.out]
          rw [HST.out]; simp only [List.append_assoc, List.singleton_append, List.cons_append, List.nil_append, List.append_nil]
        have HE2 := Lib.hid HE; clear HE
        clear HL1 HL2 HL3 HL4 HL5 HL6 HL7 HL8 HL9 HL10
        go_wp2_with fail
        go_end0
        exact ⟨rfl, by rw [HE2.out]; exact hS10.hW, hS10.b, hS10.k⟩
    · skip
      have ei : (x.i == 0) = false := by simp [gi]
      have di : (x.i != 0) = true := by simp [gi]
      by_cases gs : x.s = 0
      · skip
        have es : (x.s == 0) = true := by simp [gs]
        have ds : (x.s != 0) = false := by simp [gs]
        have HST := Lib.hid (show stT x = 77 :: (numT x.m.toNat ++ 46 :: (numT x.d.toNat ++ 46 :: (numT x.v.toNat ++ 47 :: (numT x.h.toNat ++ (twoT x.i.toNat ++ []))))) by unfold stT clT; rw [if_neg (by rintro ⟨q1, q2, q3⟩; omega), if_neg (by rintro ⟨q1, q2⟩; omega), if_pos gs])
        clear gh gi gs
        have hr := raw_any B0 g l6 ⟨#[47]⟩ _ hS6.hW (by show l6.length + 1 ≤ _; omega) hS6.s
        go_wp2_with fail
        refine hr.mono ?_; rintro e W7 ⟨rfl, q1, q2, q3⟩
        replace q1 : Wo W7 B0 g (l6 ++ [47]) := q1
        have n7 : (l6 ++ [47]).length ≤ 10021 := by rw [List.length_append]; show l6.length + 1 ≤ _; omega
        obtain ⟨l7, hl7⟩ : ∃ q, l6 ++ [47] = q := ⟨_, rfl⟩
        rw [hl7] at q1 n7
        have HL7 := Lib.hid hl7
        have hS7 := hS6.step q1 q2 q3
        clear hr hl7 q1 q2 q3 hS6 n6 cm cd cv ch ci cs
        obtain ⟨cm, cd, cv, ch, ci, cs⟩ := hS7.cells
        have hr := num_any B0 g l7 x.h _ hS7.hW (by omega) (by omega) hS7.s hS7.p
        go_wp2_with fail
        refine hr.mono ?_; rintro e W8 ⟨rfl, q1, q2, q3⟩
        replace q1 : Wo W8 B0 g (l7 ++ numT x.h.toNat) := q1
        have n8 : (l7 ++ numT x.h.toNat).length ≤ 10024 := by rw [List.length_append]; have := num_len x.h.toNat; omega
        obtain ⟨l8, hl8⟩ : ∃ q, l7 ++ numT x.h.toNat = q := ⟨_, rfl⟩
        rw [hl8] at q1 n8
        have HL8 := Lib.hid hl8
        have hS8 := hS7.step q1 q2 q3
        clear hr hl8 q1 q2 q3 hS7 n7 cm cd cv ch ci cs
        obtain ⟨cm, cd, cv, ch, ci, cs⟩ := hS8.cells
        have hr := two_any B0 g l8 x.i.toNat _ hS8.hW (by omega) (by omega) hS8.s
        rw [show ((x.i.toNat : Nat) : Int) = x.i by omega] at hr
        go_wp2_with fail
        refine hr.mono ?_; rintro e W9 ⟨rfl, q1, q2, q3⟩
        replace q1 : Wo W9 B0 g (l8 ++ twoT x.i.toNat) := q1
        have n9 : (l8 ++ twoT x.i.toNat).length ≤ 10027 := by rw [List.length_append]; rw [two_len]; omega
        obtain ⟨l9, hl9⟩ : ∃ q, l8 ++ twoT x.i.toNat = q := ⟨_, rfl⟩
        rw [hl9] at q1 n9
        have HL9 := Lib.hid hl9
        have hS9 := hS8.step q1 q2 q3
        clear hr hl9 q1 q2 q3 hS8 n8 cm cd cv ch ci cs
        obtain ⟨cm, cd, cv, ch, ci, cs⟩ := hS9.cells
        have HE : l0 ++ stT x = l9 := by
          rw [← HL9.out, ← HL8.out, ← HL7.out, ← HL6.out, ← HL5.out, ← HL4.out, ← HL3.out, ← HL2.out, ← HL1.out]
          rw [HST.out]; simp only [List.append_assoc, List.singleton_append, List.cons_append, List.nil_append, List.append_nil]
        have HE2 := Lib.hid HE; clear HE
        clear HL1 HL2 HL3 HL4 HL5 HL6 HL7 HL8 HL9
        go_wp2_with fail
        go_end0
        exact ⟨rfl, by rw [HE2.out]; exact hS9.hW, hS9.b, hS9.k⟩
      · skip
        have es : (x.s == 0) = false := by simp [gs]
        have ds : (x.s != 0) = true := by simp [gs]
        have HST := Lib.hid (show stT x = 77 :: (numT x.m.toNat ++ 46 :: (numT x.d.toNat ++ 46 :: (numT x.v.toNat ++ 47 :: (numT x.h.toNat ++ (twoT x.i.toNat ++ twoT x.s.toNat))))) by unfold stT clT; rw [if_neg (by rintro ⟨q1, q2, q3⟩; omega), if_neg (by rintro ⟨q1, q2⟩; omega), if_neg gs])
        clear gh gi gs
        have hr := raw_any B0 g l6 ⟨#[47]⟩ _ hS6.hW (by show l6.length + 1 ≤ _; omega) hS6.s
        go_wp2_with fail
        refine hr.mono ?_; rintro e W7 ⟨rfl, q1, q2, q3⟩
        replace q1 : Wo W7 B0 g (l6 ++ [47]) := q1
        have n7 : (l6 ++ [47]).length ≤ 10021 := by rw [List.length_append]; show l6.length + 1 ≤ _; omega
        obtain ⟨l7, hl7⟩ : ∃ q, l6 ++ [47] = q := ⟨_, rfl⟩
        rw [hl7] at q1 n7
        have HL7 := Lib.hid hl7
        have hS7 := hS6.step q1 q2 q3
        clear hr hl7 q1 q2 q3 hS6 n6 cm cd cv ch ci cs
        obtain ⟨cm, cd, cv, ch, ci, cs⟩ := hS7.cells
        have hr := num_any B0 g l7 x.h _ hS7.hW (by omega) (by omega) hS7.s hS7.p
        go_wp2_with fail
        refine hr.mono ?_; rintro e W8 ⟨rfl, q1, q2, q3⟩
        replace q1 : Wo W8 B0 g (l7 ++ numT x.h.toNat) := q1
        have n8 : (l7 ++ numT x.h.toNat).length ≤ 10024 := by rw [List.length_append]; have := num_len x.h.toNat; omega
        obtain ⟨l8, hl8⟩ : ∃ q, l7 ++ numT x.h.toNat = q := ⟨_, rfl⟩
        rw [hl8] at q1 n8
        have HL8 := Lib.hid hl8
        have hS8 := hS7.step q1 q2 q3
        clear hr hl8 q1 q2 q3 hS7 n7 cm cd cv ch ci cs
        obtain ⟨cm, cd, cv, ch, ci, cs⟩ := hS8.cells
        have hr := two_any B0 g l8 x.i.toNat _ hS8.hW (by omega) (by omega) hS8.s
        rw [show ((x.i.toNat : Nat) : Int) = x.i by omega] at hr
        go_wp2_with fail
        refine hr.mono ?_; rintro e W9 ⟨rfl, q1, q2, q3⟩
        replace q1 : Wo W9 B0 g (l8 ++ twoT x.i.toNat) := q1
        have n9 : (l8 ++ twoT x.i.toNat).length ≤ 10027 := by rw [List.length_append]; rw [two_len]; omega
        obtain ⟨l9, hl9⟩ : ∃ q, l8 ++ twoT x.i.toNat = q := ⟨_, rfl⟩
        rw [hl9] at q1 n9
        have HL9 := Lib.hid hl9
        have hS9 := hS8.step q1 q2 q3
        clear hr hl9 q1 q2 q3 hS8 n8 cm cd cv ch ci cs
        obtain ⟨cm, cd, cv, ch, ci, cs⟩ := hS9.cells
        have hr := two_any B0 g l9 x.s.toNat _ hS9.hW (by omega) (by omega) hS9.s
        rw [show ((x.s.toNat : Nat) : Int) = x.s by omega] at hr
        go_wp2_with fail
        refine hr.mono ?_; rintro e W10 ⟨rfl, q1, q2, q3⟩
        replace q1 : Wo W10 B0 g (l9 ++ twoT x.s.toNat) := q1
        have n10 : (l9 ++ twoT x.s.toNat).length ≤ 10030 := by rw [List.length_append]; rw [two_len]; omega
        obtain ⟨l10, hl10⟩ : ∃ q, l9 ++ twoT x.s.toNat = q := ⟨_, rfl⟩
        rw [hl10] at q1 n10
        have HL10 := Lib.hid hl10
        have hS10 := hS9.step q1 q2 q3
        clear hr hl10 q1 q2 q3 hS9 n9 cm cd cv ch ci cs
        obtain ⟨cm, cd, cv, ch, ci, cs⟩ := hS10.cells
        have HE : l0 ++ stT x = l10 := by
          rw [← HL10.out, ← HL9.out, ← HL8.out, ← HL7.out, ← HL6.out, ← HL5.out, ← HL4.out, ← HL3.out, ← HL2.out, ← HL1.out]
          rw [HST.out]; simp only [List.append_assoc, List.singleton_append, List.cons_append, List.nil_append, List.append_nil]
        have HE2 := Lib.hid HE; clear HE
        clear HL1 HL2 HL3 HL4 HL5 HL6 HL7 HL8 HL9 HL10
        go_wp2_with fail
        go_end0
        exact ⟨rfl, by rw [HE2.out]; exact hS10.hW, hS10.b, hS10.k⟩
set_option maxRecDepth 20000 in
set_option maxHeartbeats 3200000 in
theorem each_any (x : St) (w : World) : Calls Tryd.prog 15 #[.agg (sA x)] w fun e w' => e = .returned (.bool (each x)) ∧ Below w.heap.size w w' := by
  have z1 := Blk.new w 24 (sA x)
  have d0 : (w.alloc (.cells (sA x) 24)).cell? ⟨w.heap.size, 0, none⟩ = some (.int .u16 x.y) := z1.cell 0
  have d7 : (w.alloc (.cells (sA x) 24)).cell? ⟨w.heap.size, 7, none⟩ = some (.int .u16 x.u) := z1.cell 7
  have b1 := (Below.refl w.heap.size w).alloc (Nat.le_refl _) (.cells (sA x) 24)
  have HE := Lib.hid (show each x = (x.y == 0 && x.u == 0) from rfl)
  generalize each x = R at *
  cases hy : (x.y == 0) with
  | false =>
    rw [hy] at HE
    go_enter Tryd.func15, Tryd.ntmps15
    go_wp2_with fail
    go_ret
    exact ⟨by rw [HE.out]; rfl, b1⟩
  | true =>
    cases hu : (x.u == 0) with
    | false =>
      rw [hy, hu] at HE
      go_enter Tryd.func15, Tryd.ntmps15
      go_wp2_with fail
      go_ret
      exact ⟨by rw [HE.out]; rfl, b1⟩
    | true =>
      rw [hy, hu] at HE
      go_enter Tryd.func15, Tryd.ntmps15
      go_wp2_with fail
      go_ret
      exact ⟨by rw [HE.out]; rfl, b1⟩
end Go.Proofs.YtgdgkgeoigljcaaDoor.Fo
