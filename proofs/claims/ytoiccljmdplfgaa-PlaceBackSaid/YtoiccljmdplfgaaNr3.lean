/-
  near.Nearest, and 'begins22', walked.
-/
import Derived.Test.YtoiccljmdplfgaaNr2
import Derived.Test.YtoiccljmdplfgaaAr5
namespace Go.Proofs.Ytoiccljmdplfgaa.Nr
open Go.ChangeShapes Go.WideShapes Go.ChangeAt Go.RowKit Go.Shelf
open Go.Proofs.Ytoiccljmdplfgaa
open Go.Proofs.Ytoiccljmdplfgaa.Wd
open Go.Proofs.Ytoiccljmdplfgaa.Pl
open Go.Proofs.Ytoiccljmdplfgaa.Nv
open Go.Proofs.Ytoiccljmdplfgaa.Ar
set_option linter.unusedVariables false
set_option maxRecDepth 100000 in
set_option maxHeartbeats 1600000 in
theorem near_no (A : Option Addr) (n c : Nat) (L : List Pc) (p : P2) (w : World) (hR : Pcs w w.heap.size A n L) (hm : n ≤ maxLen) (hn : ncE L p ≠ 0) :
    Calls Try.prog 47 #[.slice A n c, p.V] w fun e w' => e = .returned (.tuple #[.int .i64 0, .int .i64 (ncE L p)]) ∧ Below w.heap.size w w' := by
  have i1 := (BI.start w).alloc (.cells p.A 23)
  have y1 := Blk.new w 23 p.A
  have hck := order_no A n c L p _ ((hR.below i1.b).more i1.b.size) hm hn
  generalize ncE L p = E at *
  have hv : (E != 0) = true := by simp [hn]
  clear hn
  go_enter Try.func47, Try.ntmps47
  go_wp2_with (first | refine wpList_row_g rfl 23 _ rfl _ rfl _ _ _ _ y1 Try.underlying23 rfl (by kernel_rfl) ?_)
  refine hck.mono ?_; rintro e w2 ⟨rfl, hb2⟩
  have i2 := i1.call hb2
  go_wp2_with fail
  go_ret2
  exact ⟨rfl, i2⟩
set_option maxRecDepth 100000 in
set_option maxHeartbeats 1600000 in
theorem near_ok (A : Option Addr) (n c : Nat) (L : List Pc) (p : P2) (w : World) (hR : Pcs w w.heap.size A n L) (hm : n ≤ maxLen) (hn : ncE L p = 0) (ord : Nat → Nat) (hS : SortC (far_ L p) n ord) :
    Calls Try.prog 47 #[.slice A n c, p.V] w fun e w' => e = .returned (.tuple #[.int .i64 (if n = 0 then 0 else (ord 0 : Int)), .int .i64 (if n = 0 then 3 else 0)]) ∧ Below w.heap.size w w' := by
  have i1 := (BI.start w).alloc (.cells p.A 23)
  have y1 := Blk.new w 23 p.A
  have hck := order_ok A n c L p _ ((hR.below i1.b).more i1.b.size) hm hn ord hS
  clear hn hS
  go_enter Try.func47, Try.ntmps47
  go_wp2_with (first | refine wpList_row_g rfl 23 _ rfl _ rfl _ _ _ _ y1 Try.underlying23 rfl (by kernel_rfl) ?_)
  refine hck.mono ?_; rintro e w2 ⟨g, rfl, hb2, hr⟩
  have i2 := i1.call hb2
  clear i1 y1 hb2 hck
  by_cases h0 : n = 0
  · subst h0
    go_wp2_with fail
    go_ret2
    exact ⟨rfl, i2⟩
  · have hn0 : ((n : Int) == 0) = false := by simp; omega
    have hnI : (0 : Int) < (n : Int) := by omega
    have c0 := hr.cell (i := 0) (by omega)
    clear hr h0
    go_wp2_with fail
    go_ret2
    exact ⟨rfl, i2⟩
set_option maxRecDepth 100000 in
theorem ins_01 (gO gT : Nat) (W : World) :
    Calls Try.prog 101 #[.slice (some ⟨gO, 0, none⟩) 1 1, .int .i64 0, .int .i64 1, cmpF gT] W fun e w' => e = .returned (.tuple #[]) ∧ w' = W := by
  go_enter Try.func101, Try.ntmps101
  go_wp2_with fail
  go_loop [8] (fun i => i = .int .i64 1) (fun i => 0)
  case atStart => exact rfl
  case round =>
    obtain rfl := hrel
    go_wp2_with fail
    go_end0
    exact ⟨rfl, rfl⟩
set_option maxRecDepth 100000 in
theorem stc_1 (gO gT : Nat) (W : World) :
    Calls Try.prog 92 #[.slice (some ⟨gO, 0, none⟩) 1 1, .int .i64 1, cmpF gT] W fun e w' => e = .returned (.tuple #[]) ∧ w' = W := by
  have hi := fun W => ins_01 gO gT W
  go_enter Try.func92, Try.ntmps92
  go_wp2_with fail
  go_loop [7, 8] (fun a b => a = .int .i64 0 ∧ b = .int .i64 20) (fun _ _ => 0)
  case atStart => exact ⟨rfl, rfl⟩
  case round =>
    obtain ⟨rfl, rfl⟩ := hrel
    go_wp2_with fail
    refine (hi _).mono ?_; rintro e w2 ⟨rfl, h2⟩; obtain rfl := h2
    go_wp2_with fail
    go_loop [6] (fun b => b = .int .i64 20) (fun _ => 0)
    case atStart => exact rfl
    case round =>
      obtain rfl := hrel
      go_wp2_with fail
      go_end0
      exact ⟨rfl, rfl⟩
theorem sort_one (far : Nat → Int) : SortC far 1 (fun j => j) := by
  intro W gO gT gF hO hT hF h1 h2
  have hs := fun W => stc_1 gO gT W
  have ho := Only.refl gO W
  clear hT hF h1 h2
  go_enter Try.func74, Try.ntmps74
  go_wp2_with fail
  refine (hs _).mono ?_; rintro e w2 ⟨rfl, h2⟩; obtain rfl := h2
  go_wp2_with fail
  go_end0
  exact ⟨rfl, ho, hO⟩
theorem pcs_of {w : World} {g : Nat} {t : TypeId} {cs : Array Value} {L : List Pc} (x : Blk w g t cs) (h : cs.toList = flatC L) (hp : ∀ a ∈ L, a.t.size ≤ maxLen ∧ a.z.size ≤ maxLen) : Pcs w w.heap.size (some ⟨g, 0, none⟩) L.length L := by
  refine ⟨rfl, ⟨flatC_len L, fun _ => ⟨_, rfl, x.lt, fun j u hu => ?_⟩⟩, hp⟩
  have e : (⟨g, 0, none⟩ : Addr).add j = ⟨g, j, none⟩ := by unfold Addr.add; split <;> simp_all
  rw [e, x.cell, ← Array.getElem?_toList, h]; exact hu
abbrev l1 : List Pc := [⟨⟨#[65]⟩, ⟨0, 0⟩, ⟨#[65]⟩⟩]
abbrev l3 : List P2 := [⟨0, 0⟩, ⟨0, 9⟩, ⟨9, 0⟩]
theorem l1_p : ∀ a ∈ l1, a.t.size ≤ maxLen ∧ a.z.size ≤ maxLen := by
  intro a ha
  obtain rfl := List.mem_singleton.1 ha
  exact ⟨(show 1 ≤ maxLen by decide), (show 1 ≤ maxLen by decide)⟩
theorem b22_near {w : World} {g : Nat} {t : TypeId} (x : Blk w g t #[.string ⟨#[65]⟩, .int .i64 0, .int .i64 0, .string ⟨#[65]⟩]) :
    Calls Try.prog 47 #[.slice (some ⟨g, 0, none⟩) 1 1, .agg #[.int .i64 0, .int .i64 5]] w fun e w' => e = .returned (.tuple #[.int .i64 0, .int .i64 0]) ∧ Below w.heap.size w w' :=
  near_ok (some ⟨g, 0, none⟩) 1 1 l1 ⟨0, 5⟩ w (pcs_of (L := l1) x rfl l1_p) (by decide) (by kernel_rfl) (fun j => j) (sort_one _)
theorem b22_chk {w : World} {g : Nat} {t : TypeId} (x : Blk w g t #[.string ⟨#[65]⟩, .int .i64 0, .int .i64 0, .string ⟨#[65]⟩]) :
    Calls Try.prog 40 #[.slice (some ⟨g, 0, none⟩) 1 1] w fun e w' => e = .returned (.int .i64 0) ∧ Below w.heap.size w w' := by
  have := pcheck_any (some ⟨g, 0, none⟩) 1 1 l1 w (pcs_of (L := l1) x rfl l1_p) (by decide)
  rwa [show pcE l1 = 0 by kernel_rfl] at this
theorem b22_in {w : World} {ga : Nat} {t : TypeId} (x : Blk w ga t #[.int .i64 0, .int .i64 0, .int .i64 0, .int .i64 9, .int .i64 9, .int .i64 0]) :
    Calls Try.prog 27 #[arV ⟨#[65]⟩ (some ⟨ga, 0, none⟩) 3 3, .agg #[.int .i64 1, .int .i64 1]] w fun e w' => e = .returned (.bool true) ∧ Below w.heap.size w w' := by
  have := Inside_any ⟨#[65]⟩ (some ⟨ga, 0, none⟩) 3 3 l3 ⟨1, 1⟩ w (by decide) (pts_of (l := l3) x rfl) (by decide)
  rwa [show (rtB ⟨#[65]⟩ l3 ⟨1, 1⟩ && inB l3 ⟨1, 1⟩) = true by kernel_rfl] at this
set_option maxRecDepth 100000 in
set_option maxHeartbeats 3200000 in
theorem begins22_any (w : World) : Calls Try.prog 48 #[] w fun e w' => e = .returned (.bool true) ∧ Below w.heap.size w w' := by
  have i1 := (BI.start w).alloc (.cells #[.string ⟨#[65]⟩, .int .i64 0, .int .i64 0, .string ⟨#[65]⟩] 67)
  have x1 := Blk.new w 67 #[.string ⟨#[65]⟩, .int .i64 0, .int .i64 0, .string ⟨#[65]⟩]
  go_enter Try.func48, Try.ntmps48
  go_wp2_with fail
  refine (b22_near x1).mono ?_; rintro e w2 ⟨rfl, hb2⟩
  have i2 := i1.call hb2
  have x2 := x1.below hb2 x1.lt
  clear i1 x1 hb2
  have i3 := (i2.alloc (.cells #[.int .i64 0, .int .i64 0, .int .i64 0, .int .i64 9, .int .i64 9, .int .i64 0] 23)).alloc (.cells (arA ⟨#[65]⟩ (some ⟨w2.heap.size, 0, none⟩) 3 3) 34)
  have x3 := (x2.alloc (.cells #[.int .i64 0, .int .i64 0, .int .i64 0, .int .i64 9, .int .i64 9, .int .i64 0] 23)).alloc (.cells (arA ⟨#[65]⟩ (some ⟨w2.heap.size, 0, none⟩) 3 3) 34)
  have p3 := (Blk.new w2 23 #[.int .i64 0, .int .i64 0, .int .i64 0, .int .i64 9, .int .i64 9, .int .i64 0]).alloc (.cells (arA ⟨#[65]⟩ (some ⟨w2.heap.size, 0, none⟩) 3 3) 34)
  have a3 := blk_at (w2.alloc (.cells #[.int .i64 0, .int .i64 0, .int .i64 0, .int .i64 9, .int .i64 9, .int .i64 0] 23)) 34 (arA ⟨#[65]⟩ (some ⟨w2.heap.size, 0, none⟩) 3 3) (sz1 _ _ rfl)
  go_wp2_with (first | refine wpList_store_new rfl 34 _ _ rfl rfl (w2.heap.size + 1) (arA ⟨#[65]⟩ (some ⟨w2.heap.size, 0, none⟩) 3 3) rfl rfl _ #[.string ByteArray.empty, .slice none 0 0] (w2.alloc (.cells #[.int .i64 0, .int .i64 0, .int .i64 0, .int .i64 9, .int .i64 9, .int .i64 0] 23)) rfl (sz1 _ _ rfl).symm rfl (by kernel_rfl) (by kernel_rfl) ?_ | refine wpList_row_g rfl 34 _ rfl _ rfl _ _ _ _ a3 Try.underlying34 rfl (by kernel_rfl) ?_)
  refine (b22_in p3).mono ?_; rintro e w4 ⟨rfl, hb4⟩
  have i4 := i3.call hb4
  have x4 := x3.below hb4 x3.lt
  clear i3 x3 p3 a3 hb4 i2 x2
  go_wp2_with fail
  refine (b22_chk x4).mono ?_; rintro e w5 ⟨rfl, hb5⟩
  have i5 := i4.call hb5
  go_wp2_with fail
  go_ret
  exact ⟨rfl, i5⟩
end Go.Proofs.Ytoiccljmdplfgaa.Nr
