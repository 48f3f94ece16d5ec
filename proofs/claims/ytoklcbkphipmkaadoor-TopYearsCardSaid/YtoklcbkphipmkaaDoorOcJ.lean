/-
  THE OCCURRENCES OF A YEAR: occur.Year, walked.
-/
import Derived.Test.YtoklcbkphipmkaaDoorOcI
namespace Go.Proofs.YtoklcbkphipmkaaDoor.Oc
open Go.ChangeShapes Go.WideShapes Go.ChangeAt Go.RowKit
open Go.Proofs.YtoklcbkphipmkaaDoor
open Go.Proofs.YtoklcbkphipmkaaDoor.Wd
open Go.Proofs.YtoklcbkphipmkaaDoor.Sr
open Go.Proofs.YtoklcbkphipmkaaDoor.Sl
open Go.Proofs.YtoklcbkphipmkaaDoor.Civ (Tab)
open Go.Proofs.YtoklcbkphipmkaaDoor.Va (bal bcl)
set_option linter.unusedVariables false
set_option linter.unusedSimpArgs false
/-- what Year answers, of right rules, in a year that there is -/
def YeP (w : World) (rs : List Ru) (y : Int) (e : Ending) (w' : World) : Prop :=
  Below w.heap.size w w' ∧ ∃ (g : Nat) (L : List Pe) (R : List Oc), e = .returned (.slice (some ⟨g, 0, none⟩) L.length L.length) ∧ IsY rs y L ∧ Told rs L R ∧ Sls (toC rs) 5 w' w'.heap.size (some ⟨g, 0, none⟩) L.length R
set_option maxRecDepth 100000 in
set_option maxHeartbeats 6400000 in
theorem Year_any (A : Option Addr) (n c : Nat) (rs : List Ru) (y : Int) (w : World) (hS : Sls Ru.C 11 w w.heap.size A n rs) (hb : ∀ r ∈ rs, r.Bd) (hn : n ≤ 1000) (hT : Tab w) (hok : Ok rs) (hy : 1 ≤ y ∧ y ≤ 9999) :
    Calls Tryd.prog 10 #[.slice A n c, .int .i64 y] w (YeP w rs y) := by
  have hof := of_any A n c rs w hS hb hn hT
  have hn2 : rs.length ≤ 1000 := by rw [hS.len]; exact hn
  go_enter Tryd.func10, Tryd.ntmps10
  go_wp2_with fail
  refine hof.mono ?_; rintro e w1 ⟨b1, q⟩
  rcases q with ⟨_, p, mb, pc, PA, rfl, al⟩ | ⟨q, _⟩
  · clear hof
    have h1 : ¬ y < 1 := by omega
    have h2 : ¬ 9999 < y := by omega
    go_upto_region 4 with fail
    go_wp2_with fail
    refine (year_any _ _ p mb n c A PA _ pc rs y w1 al ⟨by omega, by omega⟩).mono ?_; rintro x w2 ⟨v, rfl, hv, al2, bt2⟩
    obtain ⟨A', n', c', L, rfl, hL, hS2, _, _⟩ := hv
    have b2 := b1.trans (bt2.below al.ge.1 al.bw)
    have hlen := hL.len
    have hln := hS2.len
    have HL := Lib.hid hL; clear hL
    go_wp2_with fail
    refine (told_any _ _ p mb n c A PA _ pc rs A' n' c' L w2 al2 hok hS2 (fun e he => (HL.out.mem.1 he).1) (by omega)).mono ?_; rintro x w3 ⟨g, R, rfl, hT3, hS3, al3, bt3, _⟩
    have b3 := b2.trans (bt3.below al.ge.1 al2.bw)
    have HT3 := Lib.hid hT3; clear hT3
    go_wp2_with fail
    go_ret
    exact ⟨b3, g, L, R, by rw [hln]; rfl, HL.out, HT3.out, hS3⟩
  · exact absurd hok q
end Go.Proofs.YtoklcbkphipmkaaDoor.Oc
