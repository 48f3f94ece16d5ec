/-
  AREAS: parts of slices of points, appended; a struct stored in a drawn region.
-/
import Derived.Test.YtoiccljmdplfgaaAr6
import Derived.Test.YtoiccljmdplfgaaArP
import Derived.Test.YtoiccljmdplfgaaLdA
import Derived.Deep.RegionHeld3
import Derived.Deep.DrawnRows
namespace Go.Proofs.Ytoiccljmdplfgaa.Ar
open Go.ChangeShapes Go.WideShapes Go.ChangeAt Go.RowKit Go.Shelf
open Go.Proofs.Ytoiccljmdplfgaa
open Go.Proofs.Ytoiccljmdplfgaa.Wd
open Go.Proofs.Ytoiccljmdplfgaa.Pl
open Go.Proofs.Ytoiccljmdplfgaa.Nv
open Go.Proofs.Ytoiccljmdplfgaa.Ld
set_option linter.unusedVariables false
set_option linter.unusedSimpArgs false
theorem pt_info : (Try.prog.info? 23).map (fun i => (i.zero, i.size, i.bytes)) = some (some (.agg #[.int .i64 0, .int .i64 0]), 2, 16) := by kernel_rfl
theorem flatP_app (l m : List P2) : flatP (l ++ m) = flatP l ++ flatP m := by
  induction l with
  | nil => rfl
  | cons r t ih => show r.A.toList ++ flatP (t ++ m) = (r.A.toList ++ flatP t) ++ flatP m; rw [ih, List.append_assoc]
theorem flatP_one (l : List P2) : ∀ u ∈ flatP l, u.oneCell' = true := by
  induction l with
  | nil => intro u hu; cases hu
  | cons r t ih =>
    intro u hu
    rcases List.mem_append.1 (show u ∈ r.A.toList ++ flatP t from hu) with h | h
    · simp at h; rcases h with rfl | rfl <;> rfl
    · exact ih u h
theorem pts_sub {w : World} {B n i m : Nat} {ad : Addr} {l : List P2} (h : Pts w B (some ad) n l) (hi : i + m ≤ n) : Pts w B (some (ad.add (i * 2))) m ((l.drop i).take m) := by
  have hl := h.1
  have hlen : ((l.drop i).take m).length = m := by rw [List.length_take, List.length_drop]; omega
  refine ⟨hlen, ⟨by rw [flatP_len, hlen], fun hp => ?_⟩⟩
  obtain ⟨ad', e, hb, -⟩ := h.2.2 (by omega)
  obtain rfl := Option.some.inj e
  refine ⟨_, rfl, by rw [block_of_add]; exact hb, fun j v hv => ?_⟩
  have hj : j < (flatP ((l.drop i).take m)).length := by
    rcases Nat.lt_or_ge j (flatP ((l.drop i).take m)).length with g | g
    · exact g
    · rw [List.getElem?_eq_none g] at hv; cases hv
  rw [flatP_len, hlen] at hj
  obtain ⟨ad', e, hr⟩ := h.row (k := i + j / 2) (by omega) (by omega)
  obtain rfl := Option.some.inj e
  have q1 := flatP_at ((l.drop i).take m) (j / 2) (j % 2) (by rw [hlen]; omega) (Nat.mod_lt _ (by decide))
  rw [show 2 * (j / 2) + j % 2 = j by omega] at q1
  rw [q1, List.getElem_take, List.getElem_drop] at hv
  have := hr.2 (j % 2) v hv
  rw [add_of_add] at this ⊢
  rw [← this]; congr 2; omega
theorem pts_drop {w : World} {B n i : Nat} {ad : Addr} {l : List P2} (h : Pts w B (some ad) n l) (hi : i ≤ n) : Pts w B (some (ad.add (i * 2))) (n - i) (l.drop i) := by
  have := pts_sub (i := i) (m := n - i) h (by omega)
  rwa [List.take_of_length_le (by rw [List.length_drop, h.1]; exact Nat.le_refl _)] at this
theorem pts_take {w : World} {B n m : Nat} {ad : Addr} {l : List P2} (h : Pts w B (some ad) n l) (hm : m ≤ n) : Pts w B (some ad) m (l.take m) := by
  have := pts_sub (i := 0) h (show 0 + m ≤ n by omega)
  have e : ad.add (0 * 2) = ad := by unfold Addr.add; simp
  rwa [e] at this
theorem own_setRow {w : World} {base : Nat} {e : TypeId} {size : Nat} {v : Value} {n : Nat} {xs : List Value} (h : w.ownsRow base e size v n xs) (g : Nat) (cs : Array Value) (hne : v.ownBlock ≠ some g) : (w.setRow g cs).ownsRow base e size v n xs := by
  refine ⟨h.1, ?_⟩
  rcases h.2 with h' | ⟨b, cap, cur, h1, h2, h3, h4⟩
  · exact .inl h'
  · refine .inr ⟨b, cap, cur, h1, h2, ?_, h4⟩
    have hb : b ≠ g := fun e => hne (by rw [h1, e]; rfl)
    exact (setRow_other w g b cs hb).trans h3
theorem own_formg {w : World} {base size n : Nat} {e : TypeId} {v : Value} {xs : List Value} (h : w.ownsRow base e size v n xs) (hn : 0 < n) : ∃ g c, v = .slice (some ⟨g, 0, none⟩) n c ∧ n ≤ c := by
  rcases h.2 with ⟨_, h1⟩ | ⟨g, cap, cur, hv, h2, h3, h4, h5⟩
  · omega
  · exact ⟨g, cap, hv, h4⟩
theorem own_lt9 {w : World} {base : Nat} {e : TypeId} {size n : Nat} {v : Value} {xs : List Value} (h : w.ownsRow base e size v n xs) : ∀ g, v.ownBlock = some g → base ≤ g ∧ g < w.heap.size := by
  intro g hg
  rcases h.2 with ⟨rfl, _⟩ | ⟨g', cap, cur, rfl, h2, h3, _⟩
  · simp [Value.ownBlock] at hg
  · simp [Value.ownBlock] at hg; subst hg; exact ⟨h2, (Array.getElem?_eq_some_iff.1 h3).1⟩
theorem own_x (w : World) {base : Nat} (hb : base ≤ w.heap.size) : (w.alloc (.cells (#[] : Array Value) 23)).ownsRow base 23 2 (.slice (some ⟨w.heap.size, 0, none⟩) 0 0) 0 [] :=
  World.ownsRow_lit (base := base) (e := 23) (size := 2) w (#[] : Array Value) 0 hb (by unfold maxLen; omega) rfl
theorem wp_store_g {P : Program} {o : Oper} {a : Act} {w : World} {K : Act → World → Prop} {Q : Exit → Act → World → Prop} (ty : TypeId) (x y : Operand) (ho : o.op = .store ty x y) (hd : o.dst = none)
    (g k : Nat) (cells new : Array Value) (hx : a.eval x = .pointer (some ⟨g, k, none⟩)) (hy : a.eval y = .agg cells) (t : TypeId) (old : Array Value) (hg : Blk w g t old)
    (hl : k + cells.size ≤ old.size) (hi : (P.info? ty).map (·.size) = some cells.size) (h1 : cells.all (·.oneCell') = true) (hn : (old.toList.take k ++ cells.toList ++ old.toList.drop (k + cells.size)).toArray = new)
    (h : K (a.put o.dst undef) (w.setRow g new)) : o.wp P a w K Q := by
  have := run_storeCells_at (P := P) g k t cells.toList 0 old w hg (by simpa using hl) (fun v hv => (Array.all_eq_true_iff_forall_mem.1 h1) v (by simpa using hv))
  simp only [Nat.add_zero, Array.length_toList] at this
  rw [hn] at this
  have hs : (storeVar ty ⟨g, k, none⟩ (.agg cells)).run P w = .ok () (w.setRow g new) := by
    cases hq : P.info? ty with
    | none => simp [hq] at hi
    | some i =>
      have hsz : cells.size = i.size := by simp [hq] at hi; omega
      simp [storeVar, sizeOf, typeInfo, hq, Value.cells, hsz, this]
  unfold Oper.wp execOp
  simp only [ho, hx, hy, Instr.storeAt, Instr.sureAddr, Sem.run_bind, Sem.run_pure, Result.andThen_ok, hs]
  exact h
theorem run_sub (ad : Addr) (n c i j : Nat) (h1 : i ≤ j) (h2 : j ≤ c) (h3 : i < c) (W : World) : (Instr.slice 32 (.slice (some ad) n c) (some (.int .i64 i)) (some (.int .i64 ((j : Int)))) none).run Try.prog W = .ok (.slice (some (ad.add (i * 2))) (j - i) (c - i)) W := by
  rw [run_slice_lh W 32 (some ad) n c (by kernel_rfl) .i64 .i64 (i : Int) (j : Int) (by omega) (by omega) (by omega)]
  have hs : (sizeOf (Try.prog.elem 32)).run Try.prog W = .ok 2 W := by kernel_rfl
  rw [hs]
  show Result.ok (sliced (some ad) (i : Int).toNat (j : Int).toNat c 2) W = _
  rw [Int.toNat_natCast, Int.toNat_natCast]
  unfold sliced; rw [if_neg (by omega)]; rfl
theorem run_from (ad : Addr) (n c i : Nat) (h1 : i ≤ n) (h3 : i < c) (W : World) : (Instr.slice 32 (.slice (some ad) n c) (some (.int .i64 i)) none none).run Try.prog W = .ok (.slice (some (ad.add (i * 2))) (n - i) (c - i)) W := by
  rw [run_slice_l W 32 (some ad) n c (by kernel_rfl) .i64 (i : Int) (by omega) (by omega)]
  have hs : (sizeOf (Try.prog.elem 32)).run Try.prog W = .ok 2 W := by kernel_rfl
  rw [hs]
  show Result.ok (sliced (some ad) (i : Int).toNat n c 2) W = _
  rw [Int.toNat_natCast]
  unfold sliced; rw [if_neg (by omega)]; rfl
theorem run_to (ad : Addr) (n c j : Nat) (h2 : j ≤ c) (W : World) : (Instr.slice 32 (.slice (some ad) n c) none (some (.int .i64 ((j : Int)))) none).run Try.prog W = .ok (.slice (some ad) j c) W := by
  rw [run_slice_h W 32 (some ad) n c (by kernel_rfl) .i64 (j : Int) (by omega) (by omega)]
  have hs : (sizeOf (Try.prog.elem 32)).run Try.prog W = .ok 2 W := by kernel_rfl
  rw [hs]
  show Result.ok (sliced (some ad) 0 (j : Int).toNat c 2) W = _
  rw [Int.toNat_natCast]
  have e : ad.add (0 * 2) = ad := by unfold Addr.add; simp
  unfold sliced
  split
  · rfl
  · show Result.ok (Value.slice (some (ad.add (0 * 2))) j c) W = _; rw [e]
theorem bi_row {w W : World} {gz : Nat} (h : BI w W) (hz : w.heap.size ≤ gz) (cs : Array Value) : BI w (W.setRow gz cs) := below_row h.b hz cs
end Go.Proofs.Ytoiccljmdplfgaa.Ar
