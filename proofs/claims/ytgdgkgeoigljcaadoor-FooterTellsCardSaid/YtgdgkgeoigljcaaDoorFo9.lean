/-
  What reads a footer: what it answers. The plain law.
-/
import Derived.Test.YtgdgkgeoigljcaaDoorFo8
namespace Go.Proofs.YtgdgkgeoigljcaaDoor.Fo
open Go.ChangeShapes Go.WideShapes Go.ChangeAt Go.RowKit Go.Shelf
open Go.Proofs.YtgdgkgeoigljcaaDoor
open Go.Proofs.YtgdgkgeoigljcaaDoor.Wd
open Go.Proofs.YtgdgkgeoigljcaaDoor.Rec
open Go.Proofs.YtgdgkgeoigljcaaDoor.Tb (Rc)
open Go.Proofs.YtgdgkgeoigljcaaDoor.Civ (Tab)
open Go.Lib (byteCells)
set_option linter.unusedVariables false
set_option linter.unusedSimpArgs false
theorem offR_len (x : Rs) : (offR x).2.s.length ≤ x.s.length := by
  have h1 := may_len 45 x; have h2 := numr_len 2 (mayR 45 x).2; have h3 := may_len 58 (numR 2 (mayR 45 x).2).2
  have h4 := numr_len 2 (mayR 58 (numR 2 (mayR 45 x).2).2).2
  unfold offR
  split
  · show (numR 2 (mayR 58 (numR 2 (mayR 45 x).2).2).2).2.s.length ≤ _; omega
  · show (mayR 58 (numR 2 (mayR 45 x).2).2).2.s.length ≤ _; omega
theorem off_bd (x : Rs) : -400000 ≤ (offR x).1 ∧ (offR x).1 ≤ 400000 := by
  have h1 := numr_le 2 (by decide) (mayR 45 x).2; have h2 := numr_le 2 (by decide) (mayR 58 (numR 2 (mayR 45 x).2).2).2
  unfold offR sg
  split
  · show -400000 ≤ _ * _ ∧ _ * _ ≤ 400000
    split <;> constructor <;> simp <;> omega
  · show -400000 ≤ _ * _ ∧ _ * _ ≤ 400000
    split <;> constructor <;> simp <;> omega
theorem stR_len (x : Rs) : (stR x).2.s.length ≤ x.s.length := by
  unfold stR
  dsimp only
  have a1 := must_len 77 x
  generalize mustR 77 x = y1 at *
  have a2 := numr_len 2 y1
  generalize numR 2 y1 = n1 at *
  have a3 := must_len 46 n1.2
  generalize mustR 46 n1.2 = y2 at *
  have a4 := numr_len 1 y2
  generalize numR 1 y2 = n2 at *
  have a5 := must_len 46 n2.2
  generalize mustR 46 n2.2 = y3 at *
  have a6 := numr_len 1 y3
  generalize numR 1 y3 = n3 at *
  have a7 := may_len 47 n3.2
  generalize mayR 47 n3.2 = m at *
  have a8 := numr_len 2 m.2
  generalize numR 2 m.2 = h at *
  have a9 := may_len 58 h.2
  generalize mayR 58 h.2 = c at *
  have b1 := numr_len 2 c.2
  generalize numR 2 c.2 = i at *
  have b2 := may_len 58 i.2
  generalize mayR 58 i.2 = d at *
  have b3 := numr_len 2 d.2
  generalize numR 2 d.2 = q at *
  split
  · split
    · split
      · show q.2.s.length ≤ _; omega
      · show d.2.s.length ≤ _; omega
    · show c.2.s.length ≤ _; omega
  · show m.2.s.length ≤ _; omega
theorem st_bd (x : Rs) : (stR x).1.Bd := by
  have k := fun (z : Rs) => numr_le 2 (by decide) z
  have k1 := fun (z : Rs) => numr_le 1 (by decide) z
  have q : ∀ (n : Nat), n ≤ 99 → (0 : Int) ≤ (n : Int) ∧ (n : Int) ≤ 65535 := fun n h => by omega
  have z0 : (0 : Int) ≤ 0 ∧ (0 : Int) ≤ 65535 := by omega
  have z2 : (0 : Int) ≤ 2 ∧ (2 : Int) ≤ 65535 := by omega
  unfold stR
  dsimp only
  split
  · split
    · split
      · exact ⟨z0, q _ (k _), q _ (k1 _), q _ (k1 _), q _ (k _), q _ (k _), q _ (k _), z0⟩
      · exact ⟨z0, q _ (k _), q _ (k1 _), q _ (k1 _), q _ (k _), q _ (k _), z0, z0⟩
    · exact ⟨z0, q _ (k _), q _ (k1 _), q _ (k1 _), q _ (k _), z0, z0, z0⟩
  · exact ⟨z0, q _ (k _), q _ (k1 _), q _ (k1 _), z2, z0, z0, z0⟩
/-- a record as its texts make it -/
def plR (z : Int) : Rc := if okO z = true then ⟨-(z / 60), 0, 0, St.nil, St.nil⟩ else Rc.nil
def mkR (x y : Int) (a b : St) : Rc := if mkOk x y a b = true then ⟨-(x / 60), 0, (x - y) / 60, a, b⟩ else Rc.nil
theorem plV_R (z : Int) : plV z = (plR z).V := by unfold plV plR; split <;> rfl
theorem mkV_R (x y : Int) (a b : St) : mkV x y a b = (mkR x y a b).V := by unfold mkV mkR; split <;> rfl
theorem nil_bd : St.nil.Bd := by unfold St.nil; constructor <;> (constructor <;> decide)
theorem rnil_bd : Rc.nil.Bd := ⟨by decide, by show (-2147483648:Int) ≤ 0 ∧ (0:Int) ≤ 2147483647; omega, by show (-2147483648:Int) ≤ 0 ∧ (0:Int) ≤ 2147483647; omega, nil_bd, nil_bd⟩
theorem plR_bd (z : Int) : (plR z).Bd := by
  unfold plR
  split
  · rename_i h; obtain ⟨h1, h2⟩ := okO_iff h
    exact ⟨by show -2147483648 ≤ -(z / 60) ∧ -(z / 60) ≤ 2147483647; omega, by show (-2147483648:Int) ≤ 0 ∧ (0:Int) ≤ 2147483647; omega, by show (-2147483648:Int) ≤ 0 ∧ (0:Int) ≤ 2147483647; omega, nil_bd, nil_bd⟩
  · exact rnil_bd
theorem mkR_bd (x y : Int) (a b : St) (ha : a.Bd) (hb : b.Bd) : (mkR x y a b).Bd := by
  unfold mkR
  split
  · rename_i h; unfold mkOk at h; rw [Bool.and_eq_true, Bool.and_eq_true] at h
    obtain ⟨h1, h2⟩ := okO_iff h.1.1; obtain ⟨h3, h4⟩ := okO_iff h.1.2
    exact ⟨by show -2147483648 ≤ -(x / 60) ∧ -(x / 60) ≤ 2147483647; omega, by show (-2147483648:Int) ≤ 0 ∧ (0:Int) ≤ 2147483647; omega, by show -2147483648 ≤ (x - y) / 60 ∧ (x - y) / 60 ≤ 2147483647; omega, ha, hb⟩
  · exact rnil_bd
/-- what has been read: the record, the errno, the names, the reader -/
structure Pr where
  r : Rc
  e : Int
  n : List UInt8
  d : List UInt8
  x : Rs
def dstR (a : Int) (x : Rs) : Int × Rs := if (mayR 44 x).1 = true then (a + 3600, (mayR 44 x).2) else ((offR (mayR 44 x).2).1, mustR 44 (offR (mayR 44 x).2).2)
def parW (s : List UInt8) : Pr :=
  let n := nameR ⟨s, false⟩
  let o := offR n.2
  if o.2.s = [] then ⟨plR o.1, plE o.1, n.1, [], o.2⟩
  else
    let d := nameR o.2
    let b := dstR o.1 d.2
    let su := stR b.2
    let wi := stR (mustR 44 su.2)
    ⟨mkR o.1 b.1 wi.1 su.1, mkE o.1 b.1 wi.1 su.1, n.1, d.1, wi.2⟩
def Pr.ok (p : Pr) (s : List UInt8) : Prop := p.x.bad = false ∧ p.e = 0 ∧ p.x.s = [] ∧ foE p.r p.n p.d = 0 ∧ foT p.r p.n p.d = s
instance (p : Pr) (s : List UInt8) : Decidable (p.ok s) := by unfold Pr.ok; infer_instance
/-- what the law asks of it -/
def parV (s : List UInt8) : Value := if (parW s).ok s then .tuple #[(parW s).r.V, .string (B (parW s).n), .string (B (parW s).d), .int .i64 0] else .tuple #[Rc.nil.V, .string ⟨#[]⟩, .string ⟨#[]⟩, .int .i64 4]
theorem dst_bd (a : Int) (x : Rs) (h : -400000 ≤ a ∧ a ≤ 400000) : -500000 ≤ (dstR a x).1 ∧ (dstR a x).1 ≤ 500000 := by
  have := off_bd (mayR 44 x).2
  unfold dstR; split
  · show -500000 ≤ a + 3600 ∧ a + 3600 ≤ 500000; omega
  · show -500000 ≤ (offR _).1 ∧ (offR _).1 ≤ 500000; omega
theorem name_len1 (x : Rs) : (nameR x).1.length ≤ x.s.length := namer_le x
theorem par_names (s : List UInt8) : (parW s).n.length ≤ s.length ∧ (parW s).d.length ≤ s.length ∧ (parW s).r.Bd := by
  have h1 := namer_le ⟨s, false⟩; have h2 := namer_len ⟨s, false⟩
  have h3 := offR_len (nameR ⟨s, false⟩).2; have h4 := namer_le (offR (nameR ⟨s, false⟩).2).2
  have h1' : (nameR ⟨s, false⟩).1.length ≤ s.length := h1
  have h2' : (nameR ⟨s, false⟩).2.s.length ≤ s.length := h2
  unfold parW
  dsimp only
  split
  · exact ⟨h1', Nat.zero_le _, plR_bd _⟩
  · exact ⟨h1', by show (nameR (offR (nameR ⟨s, false⟩).2).2).1.length ≤ _; omega, mkR_bd _ _ _ _ (st_bd _) (st_bd _)⟩
end Go.Proofs.YtgdgkgeoigljcaaDoor.Fo
