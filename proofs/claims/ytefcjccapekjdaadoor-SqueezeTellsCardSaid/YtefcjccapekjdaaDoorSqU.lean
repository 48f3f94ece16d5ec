/-
  'lives' of the statements of plans: what each call answers.
-/
import Derived.Test.YtefcjccapekjdaaDoorSqT
import Derived.Test.YtefcjccapekjdaaDoorSqN
import Derived.Test.YtefcjccapekjdaaDoorSqQ
import Derived.Test.YtefcjccapekjdaaDoorTcV
namespace Go.Proofs.YtefcjccapekjdaaDoor.Sq
open Go.ChangeShapes Go.WideShapes Go.ChangeAt Go.RowKit
open Go.Proofs.YtefcjccapekjdaaDoor
open Go.Proofs.YtefcjccapekjdaaDoor.Wd
open Go.Proofs.YtefcjccapekjdaaDoor.Rec
open Go.Proofs.YtefcjccapekjdaaDoor.Yr
open Go.Proofs.YtefcjccapekjdaaDoor.Clk (yrV yrE)
open Go.Proofs.YtefcjccapekjdaaDoor.Civ (Tab Inv)
set_option linter.unusedVariables false
open Go.Proofs.YtefcjccapekjdaaDoor.Tb
open Go.Proofs.YtefcjccapekjdaaDoor.Ld
theorem sqt_uniq {l : List Rc} {a b a' b' : Nat} (h : SqT l a b) (h' : SqT l a' b') : a = a' ∧ b = b' := by
  obtain ⟨p1, p2, p3, p4, p5, p6, p7⟩ := h
  obtain ⟨q1, q2, q3, q4, q5, q6, q7⟩ := h'
  by_cases e : a = b
  · have e0 := p5 e
    have hall : ∀ j, j < l.length → ra_ l j = ra_ l 0 := fun j hj => (p4 j (by omega) hj).trans (p4 0 (by omega) (by omega)).symm
    by_cases e' : a' = b'
    · have := q5 e'; omega
    · exact absurd (hall (a' + 1) (by omega)) (q6 e')
  · by_cases e' : a' = b'
    · have e0 := q5 e'
      have hall : ∀ j, j < l.length → ra_ l j = ra_ l 0 := fun j hj => (q4 j (by omega) hj).trans (q4 0 (by omega) (by omega)).symm
      exact absurd (hall (a + 1) (by omega)) (p6 e)
    · have e1 : a = a' := by
        rcases Nat.lt_trichotomy a a' with g | g | g
        · exact absurd (q3 (a + 1) (by omega)) (p6 e)
        · exact g
        · exact absurd (p3 (a' + 1) (by omega)) (q6 e')
      have e2 : b = b' := by
        rcases Nat.lt_trichotomy b b' with g | g | g
        · exact absurd (p4 (b' - 1) (by omega) (by omega)) (q7 e')
        · exact g
        · exact absurd (q4 (b - 1) (by omega) (by omega)) (p7 e)
      exact ⟨e1, e2⟩
abbrev rcY : Rc := ⟨30, 0, 0, St.nil, St.nil⟩
theorem rcY_bd : rcY.Bd := by
  refine ⟨by decide, by decide, by decide, ?_, ?_⟩ <;> exact ⟨by decide, by decide, by decide, by decide, by decide, by decide, by decide, by decide⟩
theorem reads_blk {w : World} {g : Nat} {t : TypeId} {xs : List Value} {n : Nat} (x : Blk w g t xs.toArray) (hn : xs.length = n) : Reads w w.heap.size 1 (some ⟨g, 0, none⟩) n xs := by
  refine ⟨by omega, fun _ => ⟨_, rfl, x.lt, fun j u hu => ?_⟩⟩
  have e : (⟨g, 0, none⟩ : Addr).add j = ⟨g, j, none⟩ := by unfold Addr.add; split <;> simp_all
  rw [e, x.cell]
  simpa using hu
theorem five_bd : ∀ r ∈ [rcX, rcX, rcZ, rcY, rcY], r.Bd := by
  intro r hr
  simp only [List.mem_cons, List.not_mem_nil, or_false] at hr
  rcases hr with rfl | rfl | rfl | rfl | rfl
  · exact rcX_bd
  · exact rcX_bd
  · exact rcZ_bd
  · exact rcY_bd
  · exact rcY_bd
theorem plan5 {w : World} {g g2 : Nat} {t t2 : TypeId} (x : Blk w g t (flat [rcX, rcX, rcZ, rcY, rcY]).toArray) (y : Blk w g2 t2 (([3, 0, 0, 0, 5] : List Int).map (Value.int .u8)).toArray) : PlanR w w.heap.size 1999 (some ⟨g, 0, none⟩) (some ⟨g2, 0, none⟩) 5 5 [rcX, rcX, rcZ, rcY, rcY] [3, 0, 0, 0, 5] :=
  ⟨recs_blk x rfl five_bd, reads_blk y rfl, by decide, by decide, by decide⟩
theorem plan2 {w : World} {g g2 : Nat} {t t2 : TypeId} (x : Blk w g t (flat [rcX, rcX]).toArray) (y : Blk w g2 t2 (([0, 0] : List Int).map (Value.int .u8)).toArray) : PlanR w w.heap.size 1999 (some ⟨g, 0, none⟩) (some ⟨g2, 0, none⟩) 2 2 [rcX, rcX] [0, 0] :=
  ⟨recs_blk x rfl (by intro r hr; simp only [List.mem_cons, List.not_mem_nil, or_false] at hr; rcases hr with rfl | rfl <;> exact rcX_bd), reads_blk y rfl, by decide, by decide, by decide⟩
theorem plan0 (w : World) : PlanR w w.heap.size 0 none none 0 0 [] [] :=
  ⟨⟨rfl, Reads.none_, fun _ h => absurd h (List.not_mem_nil)⟩, Reads.none_, by decide, by decide, by decide⟩
theorem ne_xz : (rcX : Rc) ≠ rcZ := fun h => absurd (congrArg Rc.b h) (by decide)
theorem ne_zy : (rcZ : Rc) ≠ rcY := fun h => absurd (congrArg Rc.b h) (by decide)
theorem sqt5 : SqT [rcX, rcX, rcZ, rcY, rcY] 1 3 := by
  refine ⟨by decide, by decide, fun j hj => ?_, fun j h1 h2 => ?_, by decide, fun _ h => ne_xz h.symm, fun _ h => ne_zy h⟩
  · rcases (show j = 0 ∨ j = 1 by omega) with rfl | rfl <;> rfl
  · have h2 : j < 5 := h2
    rcases (show j = 3 ∨ j = 4 by omega) with rfl | rfl <;> rfl
theorem sqt2 : SqT [rcX, rcX] 0 0 := by
  refine ⟨by decide, by decide, fun j hj => ?_, fun j h1 h2 => ?_, by decide, fun h => absurd rfl h, fun h => absurd rfl h⟩
  · rw [Nat.le_zero.1 hj]
  · have h2 : j < 2 := h2
    rcases (show j = 0 ∨ j = 1 by omega) with rfl | rfl <;> rfl
theorem v_q1 {w : World} {A A2 : Option Addr} (hT : Tab w) (hp : PlanR w w.heap.size 1999 A A2 5 5 [rcX, rcX, rcZ, rcY, rcY] [3, 0, 0, 0, 5]) :
    Calls Tryd.prog 54 #[plV 1999 A A2 5 5 5 5] w fun r w' => ∃ g, r = .returned (.tuple #[tbV 2000 2002 (some ⟨g, 0, none⟩) 3 3, .int .i64 0]) ∧ Recs w' w'.heap.size (some ⟨g, 0, none⟩) 3 [rcX, rcZ, rcY] ∧ Below w.heap.size w w' := by
  refine (qtable_any 1999 A A2 5 5 5 5 [rcX, rcX, rcZ, rcY, rcY] [3, 0, 0, 0, 5] w hT hp (by decide)).mono ?_
  rintro r w' ⟨⟨h, _⟩ | ⟨_, a, b, g, hS, hR, rfl⟩, hb⟩
  · exact absurd h (by decide +kernel)
  · obtain ⟨rfl, rfl⟩ := sqt_uniq hS sqt5
    exact ⟨g, rfl, hR, hb⟩
theorem v_q2 {w : World} {A A2 : Option Addr} (hT : Tab w) (hp : PlanR w w.heap.size 1999 A A2 2 2 [rcX, rcX] [0, 0]) :
    Calls Tryd.prog 54 #[plV 1999 A A2 2 2 2 2] w fun r w' => ∃ g, r = .returned (.tuple #[tbV 1999 1999 (some ⟨g, 0, none⟩) 1 1, .int .i64 0]) ∧ Recs w' w'.heap.size (some ⟨g, 0, none⟩) 1 [rcX] ∧ Below w.heap.size w w' := by
  refine (qtable_any 1999 A A2 2 2 2 2 [rcX, rcX] [0, 0] w hT hp (by decide)).mono ?_
  rintro r w' ⟨⟨h, _⟩ | ⟨_, a, b, g, hS, hR, rfl⟩, hb⟩
  · exact absurd h (by decide +kernel)
  · obtain ⟨rfl, rfl⟩ := sqt_uniq hS sqt2
    exact ⟨g, rfl, hR, hb⟩
theorem v_q3 {w : World} (hT : Tab w) :
    Calls Tryd.prog 54 #[plV 0 none none 0 0 0 0] w fun r w' => r = .returned (.tuple #[tbV 0 0 none 0 0, .int .i64 2]) ∧ Below w.heap.size w w' := by
  refine (qtable_any 0 none none 0 0 0 0 [] [] w hT (plan0 w) (by decide)).mono ?_
  rintro r w' ⟨⟨_, rfl⟩ | ⟨h, _⟩, hb⟩
  · exact ⟨rfl, hb⟩
  · exact absurd h (by decide +kernel)
theorem v_ms {w : World} {A A2 : Option Addr} (hT : Tab w) (hp : PlanR w w.heap.size 1999 A A2 5 5 [rcX, rcX, rcZ, rcY, rcY] [3, 0, 0, 0, 5]) :
    Calls Tryd.prog 59 #[.string ⟨#[107]⟩, plV 1999 A A2 5 5 5 5] w fun r w' => ∃ A' c', r = .returned (.slice A' 2 c') ∧ Mis w' w'.heap.size A' 2 ⟨#[107]⟩ [(1999, 3), (2003, 5)] ∧ Below w.heap.size w w' := by
  refine (missed_any ⟨#[107]⟩ 1999 A A2 5 5 5 5 [rcX, rcX, rcZ, rcY, rcY] [3, 0, 0, 0, 5] w hT hp (by decide)).mono ?_
  have e : msL 1999 [3, 0, 0, 0, 5] = [(1999, 3), (2003, 5)] := by decide +kernel
  rw [e]
  rintro r w' ⟨A', c', rfl, hc, hr, hb⟩
  exact ⟨A', c', rfl, ⟨rfl, hr⟩, hb⟩
theorem v_t1 {w : World} {A A2 A3 : Option Addr} (hT : Tab w) (hR : Recs w w.heap.size A3 3 [rcX, rcZ, rcY]) (hp : PlanR w w.heap.size 1999 A A2 5 5 [rcX, rcX, rcZ, rcY, rcY] [3, 0, 0, 0, 5]) :
    Calls Tryd.prog 56 #[tbV 2000 2002 A3 3 3, plV 1999 A A2 5 5 5 5] w fun e w' => e = .returned (.bool true) ∧ Below w.heap.size w w' := by
  have := tells_any 2000 2002 A3 3 3 [rcX, rcZ, rcY] 1999 A A2 5 5 5 5 [rcX, rcX, rcZ, rcY, rcY] [3, 0, 0, 0, 5] w hT hR (by decide) hp
  rwa [show tlOk 2000 2002 [rcX, rcZ, rcY] 1999 [rcX, rcX, rcZ, rcY, rcY] [3, 0, 0, 0, 5] = true by decide +kernel] at this
theorem v_t2 {w : World} {A A2 A3 : Option Addr} (hT : Tab w) (hR : Recs w w.heap.size A3 1 [rcX]) (hp : PlanR w w.heap.size 1999 A A2 5 5 [rcX, rcX, rcZ, rcY, rcY] [3, 0, 0, 0, 5]) :
    Calls Tryd.prog 56 #[tbV 1999 1999 A3 1 1, plV 1999 A A2 5 5 5 5] w fun e w' => e = .returned (.bool false) ∧ Below w.heap.size w w' := by
  have := tells_any 1999 1999 A3 1 1 [rcX] 1999 A A2 5 5 5 5 [rcX, rcX, rcZ, rcY, rcY] [3, 0, 0, 0, 5] w hT hR (by decide) hp
  rwa [show tlOk 1999 1999 [rcX] 1999 [rcX, rcX, rcZ, rcY, rcY] [3, 0, 0, 0, 5] = false by decide +kernel] at this
theorem v_s1 {w : World} {A A2 : Option Addr} (hR : Recs w w.heap.size A 3 [rcX, rcZ, rcY]) (hR2 : Recs w w.heap.size A2 3 [rcX, rcZ, rcY]) :
    Calls Tryd.prog 49 #[tbV 2000 2002 A 3 3, tbV 2000 2002 A2 3 3] w fun e w' => e = .returned (.bool true) ∧ Below w.heap.size w w' := by
  have := rtsame_any 2000 2002 2000 2002 A A2 3 3 3 3 [rcX, rcZ, rcY] [rcX, rcZ, rcY] w hR hR2 (by decide) (by decide)
  rwa [show sameB 2000 2002 [rcX, rcZ, rcY] 2000 2002 [rcX, rcZ, rcY] = true by unfold sameB; rw [eqLs_self]; rfl] at this
theorem v_s2 {w : World} {A A2 : Option Addr} (hR : Recs w w.heap.size A 1 [rcX]) (hR2 : Recs w w.heap.size A2 1 [rcX]) :
    Calls Tryd.prog 49 #[tbV 1999 1999 A 1 1, tbV 1999 1999 A2 1 1] w fun e w' => e = .returned (.bool true) ∧ Below w.heap.size w w' := by
  have := rtsame_any 1999 1999 1999 1999 A A2 1 1 1 1 [rcX] [rcX] w hR hR2 (by decide) (by decide)
  rwa [show sameB 1999 1999 [rcX] 1999 1999 [rcX] = true by unfold sameB; rw [eqLs_self]; rfl] at this
theorem v_m {w : World} {A A2 : Option Addr} {c : Nat} (hR : Mis w w.heap.size A 2 ⟨#[107]⟩ [(1999, 3), (2003, 5)]) (hR2 : Mis w w.heap.size A2 2 ⟨#[107]⟩ [(1999, 3), (2003, 5)]) :
    Calls Tryd.prog 58 #[.slice A 2 c, .slice A2 2 2] w fun e w' => e = .returned (.bool true) ∧ Below w.heap.size w w' := by
  have := msame_any A A2 2 2 c 2 ⟨#[107]⟩ [(1999, 3), (2003, 5)] [(1999, 3), (2003, 5)] w hR hR2 (by decide) (by decide)
  rwa [eqMs_self] at this
end Go.Proofs.YtefcjccapekjdaaDoor.Sq
