/-
  SOURCES: rules, zones with their eras, links, in memory as lists.
-/
import Derived.Test.YtoklcbkphipmkaaDoorSls
import Derived.Test.YtoklcbkphipmkaaDoorLkM
namespace Go.Proofs.YtoklcbkphipmkaaDoor.Sr
open Go.ChangeShapes Go.WideShapes Go.ChangeAt Go.RowKit
open Go.Proofs.YtoklcbkphipmkaaDoor.Wd
open Go.Proofs.YtoklcbkphipmkaaDoor.Sl
set_option linter.unusedVariables false
abbrev Key := List UInt8
/-- a rule -/
structure Ru where
  nm : ByteArray
  fr : Int
  tt : Int
  mo : Int
  kd : Int
  dn : Int
  dw : Int
  sec : Int
  ck : Int
  sv : Int
  lt : ByteArray
abbrev Ru.C (r : Ru) : Array Value := #[.string r.nm, .int .i64 r.fr, .int .i64 r.tt, .int .i64 r.mo, .int .u8 r.kd, .int .i64 r.dn, .int .i64 r.dw, .int .i64 r.sec, .int .u8 r.ck, .int .i64 r.sv, .string r.lt]
abbrev Ru.nil : Ru := ⟨ByteArray.empty, 0, 0, 0, 0, 0, 0, 0, 0, 0, ByteArray.empty⟩
def Ru.Bd (r : Ru) : Prop := r.nm.size ≤ maxLen ∧ r.lt.size ≤ maxLen ∧ (0 ≤ r.kd ∧ r.kd ≤ 255) ∧ (0 ≤ r.ck ∧ r.ck ≤ 255) ∧ (Lit.int .i64 r.fr).wf = true ∧ (Lit.int .i64 r.tt).wf = true ∧ (Lit.int .i64 r.mo).wf = true ∧ (Lit.int .i64 r.dn).wf = true ∧ (Lit.int .i64 r.dw).wf = true ∧ (Lit.int .i64 r.sec).wf = true ∧ (Lit.int .i64 r.sv).wf = true
/-- an era -/
structure Er where
  std : Int
  kd : Int
  sv : Int
  ru : ByteArray
  fm : ByteArray
  en : Bool
  uy : Int
  um : Int
  uk : Int
  un : Int
  ud : Int
  us : Int
  uc : Int
abbrev Er.C (r : Er) : Array Value := #[.int .i64 r.std, .int .u8 r.kd, .int .i64 r.sv, .string r.ru, .string r.fm, .bool r.en, .int .i64 r.uy, .int .i64 r.um, .int .u8 r.uk, .int .i64 r.un, .int .i64 r.ud, .int .i64 r.us, .int .u8 r.uc]
abbrev Er.nil : Er := ⟨0, 0, 0, ByteArray.empty, ByteArray.empty, false, 0, 0, 0, 0, 0, 0, 0⟩
def Er.Bd (r : Er) : Prop := r.ru.size ≤ maxLen ∧ r.fm.size ≤ maxLen ∧ (0 ≤ r.kd ∧ r.kd ≤ 255) ∧ (0 ≤ r.uk ∧ r.uk ≤ 255) ∧ (0 ≤ r.uc ∧ r.uc ≤ 255) ∧ (Lit.int .i64 r.std).wf = true ∧ (Lit.int .i64 r.sv).wf = true ∧ (Lit.int .i64 r.uy).wf = true ∧ (Lit.int .i64 r.um).wf = true ∧ (Lit.int .i64 r.un).wf = true ∧ (Lit.int .i64 r.ud).wf = true ∧ (Lit.int .i64 r.us).wf = true
/-- a zone -/
structure Zn where
  nm : ByteArray
  A : Option Addr
  n : Nat
  c : Nat
  es : List Er
abbrev Zn.C (z : Zn) : Array Value := #[.string z.nm, .slice z.A z.n z.c]
abbrev Zn.nil : Zn := ⟨ByteArray.empty, none, 0, 0, []⟩
/-- a link -/
structure Li where
  tg : ByteArray
  nm : ByteArray
abbrev Li.C (l : Li) : Array Value := #[.string l.tg, .string l.nm]
abbrev Li.nil : Li := ⟨ByteArray.empty, ByteArray.empty⟩
/-- what the three slices of a source are -/
structure Hd where
  rA : Option Addr
  rn : Nat
  rc : Nat
  zA : Option Addr
  zn : Nat
  zc : Nat
  lA : Option Addr
  ln : Nat
  lc : Nat
abbrev Hd.C (h : Hd) : Array Value := #[.slice h.rA h.rn h.rc, .slice h.zA h.zn h.zc, .slice h.lA h.ln h.lc]
abbrev Hd.V (h : Hd) : Value := .agg #[.slice h.rA h.rn h.rc, .slice h.zA h.zn h.zc, .slice h.lA h.ln h.lc]
/-- a source -/
structure So where
  rs : List Ru
  zs : List Zn
  ls : List Li
instance : Inhabited Ru := ⟨Ru.nil⟩
instance : Inhabited Er := ⟨Er.nil⟩
instance : Inhabited Zn := ⟨Zn.nil⟩
instance : Inhabited Li := ⟨Li.nil⟩
abbrev ru_ (l : List Ru) (k : Nat) : Ru := l.getD k Ru.nil
abbrev er_ (l : List Er) (k : Nat) : Er := l.getD k Er.nil
abbrev zn_ (l : List Zn) (k : Nat) : Zn := l.getD k Zn.nil
abbrev li_ (l : List Li) (k : Nat) : Li := l.getD k Li.nil
/-- the slices of a zone's eras read as they say -/
def ZnOk (w : World) (B : Nat) (z : Zn) : Prop := z.nm.size ≤ maxLen ∧ Sls Er.C 13 w B z.A z.n z.es ∧ (∀ e ∈ z.es, e.Bd) ∧ z.n ≤ maxLen ∧ z.n ≤ z.c
def LiOk (l : Li) : Prop := l.tg.size ≤ maxLen ∧ l.nm.size ≤ maxLen
structure SoR (w : World) (B : Nat) (h : Hd) (S : So) : Prop where
  r : Sls Ru.C 11 w B h.rA h.rn S.rs
  z : Sls Zn.C 2 w B h.zA h.zn S.zs
  l : Sls Li.C 2 w B h.lA h.ln S.ls
  rb : ∀ a ∈ S.rs, a.Bd
  zb : ∀ a ∈ S.zs, ZnOk w B a
  lb : ∀ a ∈ S.ls, LiOk a
  rm : h.rn ≤ maxLen ∧ h.rn ≤ h.rc
  zm : h.zn ≤ maxLen ∧ h.zn ≤ h.zc
  lm : h.ln ≤ maxLen ∧ h.ln ≤ h.lc
theorem ZnOk.below {w w' : World} {B : Nat} {z : Zn} (h : ZnOk w B z) (hb : Below B w w') : ZnOk w' B z := ⟨h.1, h.2.1.below hb, h.2.2⟩
theorem ZnOk.more {w : World} {B B' : Nat} {z : Zn} (h : ZnOk w B z) (hb : B ≤ B') : ZnOk w B' z := ⟨h.1, h.2.1.more hb, h.2.2⟩
theorem SoR.below {w w' : World} {B : Nat} {h : Hd} {S : So} (k : SoR w B h S) (hb : Below B w w') : SoR w' B h S :=
  ⟨k.r.below hb, k.z.below hb, k.l.below hb, k.rb, fun a ha => (k.zb a ha).below hb, k.lb, k.rm, k.zm, k.lm⟩
theorem SoR.more {w : World} {B B' : Nat} {h : Hd} {S : So} (k : SoR w B h S) (hb : B ≤ B') : SoR w B' h S :=
  ⟨k.r.more hb, k.z.more hb, k.l.more hb, k.rb, fun a ha => (k.zb a ha).more hb, k.lb, k.rm, k.zm, k.lm⟩
abbrev key (s : ByteArray) : Key := s.data.toList
theorem key_inj {a b : ByteArray} (h : key a = key b) : a = b := by
  cases a; cases b; congr 1; exact Array.toList_inj.1 h
theorem key_ne {a b : ByteArray} (h : a ≠ b) : key a ≠ key b := fun e => h (key_inj e)
def znames (S : So) : List Key := S.zs.map fun z => key z.nm
def lnames (S : So) : List Key := S.ls.map fun l => key l.nm
/-- zones and links by their names -/
def net (S : So) : Lk.Net Key := ⟨znames S, S.ls.map fun l => (key l.tg, key l.nm)⟩
theorem net_names (S : So) : (net S).ls.map (·.2) = lnames S := by unfold net lnames; rw [List.map_map]; rfl
end Go.Proofs.YtoklcbkphipmkaaDoor.Sr
