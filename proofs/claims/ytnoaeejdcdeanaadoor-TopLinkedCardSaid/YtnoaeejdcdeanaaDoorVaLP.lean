/-
  TopLinked holds: for every source and two numbers; the tables are as the program lays them.
-/
import Derived.Test.YtnoaeejdcdeanaaDoorCards
import Derived.Test.YtnoaeejdcdeanaaDoorTie
import Derived.Deep.DeepHandedRow
import Derived.Deep.DeepWitnessRowRef
import Derived.Lib.LaidTab
import Derived.SevenTiedAt
import Derived.WalkKit
import Derived.ProofKit
import Derived.OpenShut
import Derived.ShutString
import Derived.ChangeOld
import Derived.Below
import Derived.JoinedCond
import Derived.Lib.SmallJoins
import Derived.Test.YtnoaeejdcdeanaaDoorVaL
import Derived.Test.YtnoaeejdcdeanaaDoorSrcO
import Derived.Test.YtnoaeejdcdeanaaDoorTab
import Derived.LaidSub
import Derived.Shelf.Vars
import Derived.SizedLaws
namespace Go.Proofs.YtnoaeejdcdeanaaDoor.topLinked
open Go.ChangeShapes Go.WideShapes Go.ChangeAt Go.RowKit
open Go.ChangeMaps (open_string shut_string)
set_option linter.unusedVariables false
set_option maxRecDepth 20000

theorem own : ownKnob Tryd.prog.godebug = none := by kernel_rfl
theorem laidOut : laidOutB Tryd.prog = true := by kernel_rfl
theorem g0N : Tryd.prog.globalNamed "solstice/civil.lengths" = some 0 := by kernel_rfl
theorem g0T : (Tryd.prog.globals[0]?).map (·.type) = some 121 := by kernel_rfl
theorem g0C : Tryd.prog.cellsOf 121 = (Civ.lens).length := by kernel_rfl
theorem g0E : Tryd.prog.cellsOf 3 = 1 := by kernel_rfl
theorem tab0 {W : World} (h : laidMetH Tryd.prog Rows.topLinkedRow.laid W) : Lib.TabIs Tryd.prog W "solstice/civil.lengths" .i64 Civ.lens := by
  have e : Rows.topLinkedRow.laid.filter (fun x => x.1 == "solstice/civil.lengths") = [("solstice/civil.lengths", Rows.laid_solstice_civil_lengths)] := by kernel_rfl
  have h1 := laidMetH.filter (fun x => x.1 == "solstice/civil.lengths") h
  rw [e] at h1
  exact Lib.tabIs_of_head (rest := []) g0N g0T Tryd.underlying121 Tryd.underlying3 g0E g0C h1
theorem table {W : World} (h : laidMetH Tryd.prog Rows.topLinkedRow.laid W) : Civ.Tab W := by
  have t := tab0 h
  have c : ∀ i, i < 12 → W.cell? ⟨0, i, none⟩ = some (.int .i64 (Civ.lens.getD i 0)) := fun i hi => t.cell g0N i (by simpa [Civ.lens] using hi)
  exact ⟨by have := World.block_lt_of_cell? W _ (c 0 (by decide)); exact Nat.lt_of_le_of_lt (Nat.zero_le _) this, c⟩
theorem gPl : Tryd.prog.globalNamed "solstice/abbr.places" = some 1 := by kernel_rfl
theorem gPlT : (Tryd.prog.globals[1]?).map (·.type) = some 124 := by kernel_rfl
theorem cellsP : Tryd.prog.cellsOf 124 = 2 := by kernel_rfl
theorem cellsS : Tryd.prog.cellsOf 9 = 1 := by kernel_rfl
theorem tableB {W : World} (h : laidMetH Tryd.prog Rows.topLinkedRow.laid W) (hsh : W.ShapedOpen Tryd.prog) : Ab.Tb W := by
  have e : Rows.topLinkedRow.laid.filter (fun x => x.1 == "solstice/abbr.places") = [("solstice/abbr.places", Rows.laid_solstice_abbr_places)] := by kernel_rfl
  have h1 := laidMetH.filter (fun x => x.1 == "solstice/abbr.places") h
  rw [e] at h1
  have c := fun i hi => Wd.strs_of_head (zs := [[37, 115], [37, 122]]) (rest := []) gPl gPlT Tryd.underlying124 Tryd.underlying9 cellsS cellsP h1 i hi
  exact ⟨c 0 (by decide), c 1 (by decide), cell_of_shapedOpen_int (P := Tryd.prog) (g := 2) (t := 3) (zero := #[.int .i64 0]) hsh (of_decide_eq_true (by kernel_rfl)) (by kernel_rfl) rfl (by kernel_rfl) (by kernel_rfl) Tryd.underlying3⟩
open Go.Proofs.YtnoaeejdcdeanaaDoor.Sr in
/-- the slices of a source that came in are not too long for a machine -/
theorem src_room {H : Type} {enc : TypeId × Value → H} {W : World} {spare : Nat → Bool} {held : Bool} {h : Hd} {d : DataW H} {pl : List MemPlace} (hT : DataW.Trod enc Tryd.prog W 0 spare held 26 h.V d pl) (hz : ∀ n ∈ d.weights Tryd.prog 26, n ≤ reachBytes) : h.zn * 40 ≤ reachBytes ∧ h.ln * 32 ≤ reachBytes := by
  obtain ⟨fuel, hf⟩ := hT
  obtain ⟨xs, k, hk, hx, hcl, hxl, hf⟩ := DataW.trod_struct Tryd.underlying26 hf
  have hl : xs.length = 3 := hxl
  match xs, hl with
  | [y0, y1, y2], _ =>
    have k1 : Tryd.prog.cellsOf 23 = 1 := by kernel_rfl
    have k2 : Tryd.prog.cellsOf 24 = 1 := by kernel_rfl
    have g1 := hf 1 _ rfl
    have g2 := hf 2 _ rfl
    simp [Value.cells, k1, k2] at g1 g2
    have e : d = .agg [y0.1, y1.1, y2.1] := congrArg Prod.fst hx
    subst e
    have w1 : ∀ n ∈ y1.1.weights Tryd.prog 23, n ≤ reachBytes := fun n hn => hz n (by
      rw [DataW.weights, Tryd.underlying26]
      simp only [List.map_cons, List.map_nil, DataW.weightsEach, List.mem_append]
      exact .inr (.inl hn))
    have w2 : ∀ n ∈ y2.1.weights Tryd.prog 24, n ≤ reachBytes := fun n hn => hz n (by
      rw [DataW.weights, Tryd.underlying26]
      simp only [List.map_cons, List.map_nil, DataW.weightsEach, List.mem_append]
      exact .inr (.inr (.inl hn)))
    refine ⟨?_, ?_⟩
    · rcases Deep.open_slice Tryd.underlying23 g1 with ⟨hcs, _⟩ | ⟨a, len, cap, m, n, D, Pl, hcs, _, _, _, _, hx1, _⟩
      · simp at hcs; rw [hcs.2.1]; omega
      · simp at hcs
        have := w1 ((len + (m - len)) * Tryd.prog.bytesOf 59) (by rw [hx1]; simp [DataW.weights, Tryd.underlying23])
        rw [show Tryd.prog.bytesOf 59 = 40 by kernel_rfl] at this
        rw [hcs.2.1]
        have h2 : len * 40 ≤ (len + (m - len)) * 40 := Nat.mul_le_mul_right _ (Nat.le_add_right _ _)
        omega
    · rcases Deep.open_slice Tryd.underlying24 g2 with ⟨hcs, _⟩ | ⟨a, len, cap, m, n, D, Pl, hcs, _, _, _, _, hx1, _⟩
      · simp at hcs; rw [hcs.2.1]; omega
      · simp at hcs
        have := w2 ((len + (m - len)) * Tryd.prog.bytesOf 32) (by rw [hx1]; simp [DataW.weights, Tryd.underlying24])
        rw [show Tryd.prog.bytesOf 32 = 32 by kernel_rfl] at this
        rw [hcs.2.1]
        have h2 : len * 32 ≤ (len + (m - len)) * 32 := Nat.mul_le_mul_right _ (Nat.le_add_right _ _)
        omega

/-- WHAT THE WALK GIVES, FOR EVERY ARGUMENT -/
theorem contract (H : Type) (enc : TypeId × Value → H) (W : World) (base : Nat) (args : Array Value) (ds gs : List (DataW H)) (before : List MemPlace)
    (hval : ∀ (j : Nat) t v, Tryd.f4.params[j]? = some t → args[j]? = some v → Value.okWide Tryd.prog W .any base t v)
    (hW : DataW.Whole enc Tryd.prog Tryd.f4.params.toList Rows.topLinkedSpec.vars false W args.toList ds gs before) (hL : laidMetH Tryd.prog Rows.topLinkedRow.laid W) (hsh : W.ShapedOpen Tryd.prog) (hsz : (DataW.weightsEach Tryd.prog (Tryd.f4.params.toList ++ (OpenSpec.ofChange Rows.topLinkedSpec).bare.plain.varTypes Tryd.prog) (ds ++ gs)).all (· ≤ reachBytes) = true) :
    Calls Tryd.prog 4 args W fun e W' => ∃ v, e = .returned v ∧ Rows.topLinkedSpec.post enc Tryd.prog Tryd.f4 false true false false W args v W' := by
  have hW' := hW
  obtain ⟨p, q, hA0, hV, rfl, hfz, hnd⟩ := hW
  have hA : DataW.TrodAll enc Tryd.prog W 0 (fun _ => true) true Tryd.f4.params.toList args.toList ds p := hA0
  rw [Tryd.params4] at hA hval
  obtain ⟨v0, vs0, d0, ds0, p0, q0, hargs, rfl, rfl, h0, r0⟩ := trodAll_cons hA
  obtain ⟨v1, vs1, d1, ds1, p1, q1, rfl, rfl, rfl, h1, r1⟩ := trodAll_cons r0
  obtain ⟨v2, vs2, d2, ds2, p2, q2, rfl, rfl, rfl, h2, r2⟩ := trodAll_cons r1
  obtain ⟨rfl, rfl, rfl⟩ := trodAll_nil r2
  obtain rfl : args = #[v0, v1, v2] := by cases args; simp_all
  obtain ⟨rfl, rfl⟩ := trodVars_none hV
  have k0 := h0
  have lt0 : ∀ x ∈ p0, x.block < W.heap.size := by obtain ⟨m, hm⟩ := k0; exact DataW.trod_lt m _ _ _ hm
  obtain ⟨h0_, S0, rfl, R0⟩ := Sr.src_of (hval 0 26 v0 rfl rfl) h0
  obtain ⟨zb0, lb0⟩ := src_room h0 (fun n hn => by
    have := List.all_eq_true.1 hsz _ (DataW.weights_mem_each (j := 0) (t := 26) (by rfl) (by rfl) n hn)
    simpa using this)
  have k1 := h1
  have lt1 : ∀ x ∈ p1, x.block < W.heap.size := by obtain ⟨m, hm⟩ := k1; exact DataW.trod_lt m _ _ _ hm
  obtain ⟨a1, rfl, rfl, rfl, w1⟩ := open_int Tryd.underlying5 (hval 1 5 v1 rfl rfl) h1
  have k2 := h2
  have lt2 : ∀ x ∈ p2, x.block < W.heap.size := by obtain ⟨m, hm⟩ := k2; exact DataW.trod_lt m _ _ _ hm
  obtain ⟨a2, rfl, rfl, rfl, w2⟩ := open_int Tryd.underlying5 (hval 2 5 v2 rfl rfl) h2
  refine (Va.linked_any h0_ S0 a1 a2 W (table hL) (tableB hL hsh) R0 (by unfold reachBytes at zb0; omega) (by unfold reachBytes at lb0; omega) (Sr.u8b w1) (Sr.u8b w2)).mono fun e W' ⟨he, bel⟩ => ?_
  subst he
  exact ⟨_, rfl, _, _, _, [], _, [], hW', trodAll_mk1 (shut_bool Tryd.underlying4 _), (trodAll_cons_mk (Below.trod laidOut (by kernel_rfl) (of_decide_eq_true (by kernel_rfl)) k0 bel lt0) (trodAll_cons_mk (Below.trod laidOut (by kernel_rfl) (of_decide_eq_true (by kernel_rfl)) k1 bel lt1) (trodAll_cons_mk (Below.trod laidOut (by kernel_rfl) (of_decide_eq_true (by kernel_rfl)) k2 bel lt2) trodAll_mk0))), rfl, bel.frame _, fun h => by cases h⟩

/-- A WORLD FOR THE WITNESS: the settled one, the tables holding what their initialisers lay. -/
noncomputable def laidWorld (os : Os) : World :=
  { World.holding Tryd.prog os ⟨#[], #[], []⟩ with heap := ((((World.holding Tryd.prog os ⟨#[], #[], []⟩).heap).modify 0 fun
      | .cells _ t frozen => .cells #[.int .i64 31, .int .i64 28, .int .i64 31, .int .i64 30, .int .i64 31, .int .i64 30, .int .i64 31, .int .i64 31, .int .i64 30, .int .i64 31, .int .i64 30, .int .i64 31] t frozen
      | o => o).modify 1 fun
      | .cells _ t frozen => .cells #[.string ⟨#[37, 115]⟩, .string ⟨#[37, 122]⟩] t frozen
      | o => o) }
theorem laid_met (os : Os) : laidMet Tryd.prog Rows.topLinkedRow.laid ((laidWorld os).forCall (fun _ _ => 0) ⟨#[], #[.agg #[.slice none 0 0, .slice none 0 0, .slice none 0 0], .int .u8 0, .int .u8 0], []⟩).memory :=
  laidMet_of_run' 8 (by kernel_rfl) (by kernel_rfl)
theorem reads (os : Os) {H : Type} (enc : TypeId × Value → H) : ∃ places, DataW.whole enc Tryd.prog ((laidWorld os).forCall (fun _ _ => 0) ⟨#[], #[.agg #[.slice none 0 0, .slice none 0 0, .slice none 0 0], .int .u8 0, .int .u8 0], []⟩).memory Tryd.f4.params.toList Rows.topLinkedSpec.vars false (#[.agg #[.slice none 0 0, .slice none 0 0, .slice none 0 0], .int .u8 0, .int .u8 0] : Array Value).toList 8 = some ([.agg [.nil, .nil, .nil], .lit (.int .u8 0), .lit (.int .u8 0)], [], places) :=
  ⟨[], by kernel_rfl⟩

set_option maxRecDepth 100000 in
theorem lifted (os : Os) (started : os.Started) (H : Type) (enc : TypeId × Value → H) (F : Stop.Interp) :
    ReturnsInHanded {} Tryd.checked os 4 .any ((OpenSpec.ofChange Rows.topLinkedSpec).preRow enc Tryd.prog Tryd.f4 Rows.topLinkedRow.domain false Rows.topLinkedRow.laid) (((OpenSpec.ofChange Rows.topLinkedSpec).at F).post enc Tryd.prog Tryd.f4 false true false false) := by
  obtain ⟨places, hx⟩ := reads os enc
  refine returnsInHanded_of_row (C := Tryd.checked) (s := OpenSpec.ofChange Rows.topLinkedSpec) own started (by kernel_rfl) Tryd.func4
    (witness_row_at (enc := enc) (C := Tryd.checked) false (laidWorld os) #[.agg #[.slice none 0 0, .slice none 0 0, .slice none 0 0], .int .u8 0, .int .u8 0] rfl (by kernel_rfl) (by kernel_rfl) (by kernel_rfl)
      (OpenSpec.preRow_of_cond 8 hx (by kernel_rfl) (fun k hk => by cases hk) (by kernel_rfl) (laid_met os))) ?_
  intro W base args ds gs before hval hW _ hcond hsz hL hsh _
  exact contract H enc W base args ds gs before hval hW hL hsh hsz
theorem said : Rows.TopLinkedSaid :=
  OpenClaim.holds_of_cond 4 Tryd.f4 rfl rfl rfl rfl rfl rfl rfl ⟨rfl, rfl, rfl, rfl, rfl⟩ rfl rfl rfl rfl rfl (by kernel_rfl) Tryd.func4 (by kernel_rfl)
    (of_decide_eq_true (by kernel_rfl)) (by unfold Func.isWrapper; first | (rw [if_pos (by decide +kernel)]; kernel_rfl) | (rw [if_neg (by decide +kernel)]; exact ⟨rfl, rfl⟩))
    (fun os started H enc _ F => by rw [OpenClaim.pre_eq_preRow]; exact lifted os started H enc F)
theorem plain (f : FuncId) (fn : Func) (hf : Tryd.pinned.checked.prog.funcNamed "solstice/solsticetop.TopLinked" = some f) (hfn : Tryd.pinned.checked.prog.funcs[f]? = some fn) :
    false = Tryd.pinned.checked.prog.looks [] ∧ ∀ (j : Nat) t, fn.params[j]? = some t → Tryd.pinned.checked.prog.wantsStandIn t = false := by
  obtain rfl : f = 4 := Option.some.inj ((show Tryd.prog.funcNamed "solstice/solsticetop.TopLinked" = some 4 by kernel_rfl).symm.trans hf) |>.symm
  obtain rfl : fn = Tryd.f4 := (Option.some.inj (Tryd.func4.symm.trans hfn)).symm
  refine ⟨by kernel_rfl, fun j t ht => ?_⟩
  rw [Tryd.params4] at ht
  have hm : t ∈ [26, 5, 5] := by simpa using Array.mem_of_getElem? ht
  have hall : ([26, 5, 5].all fun u => !Tryd.prog.wantsStandIn u) = true := by kernel_rfl
  exact (show Tryd.prog.wantsStandIn t = false by simpa using List.all_eq_true.1 hall t hm)
/-- THE CARD -/
theorem card : Rows.TopLinkedCardSaid :=
  Claim7.holds_tied_plain_at .later [] _ _ _ _ said (fun _ h => by cases h) (by kernel_rfl) (fun _ h => by cases h) topLinked_row_tie rfl ⟨rfl, rfl⟩ (by kernel_rfl) rfl plain (by kernel_rfl)
end Go.Proofs.YtnoaeejdcdeanaaDoor.topLinked
