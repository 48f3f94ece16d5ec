/-
  LISTS OF STAMPS: how they lie; two that read the same are the same.
-/
import Derived.Test.YtefcjccapekjdaaDoorShF
import Derived.Test.YtefcjccapekjdaaDoorFtE
import Derived.Deep.MidRow
namespace Go.Proofs.YtefcjccapekjdaaDoor.Sh
open Go.ChangeShapes Go.WideShapes Go.ChangeAt Go.RowKit
open Go.Proofs.YtefcjccapekjdaaDoor
open Go.Proofs.YtefcjccapekjdaaDoor.Wd
open Go.Proofs.YtefcjccapekjdaaDoor.Rec
open Go.Proofs.YtefcjccapekjdaaDoor.Yr
open Go.Proofs.YtefcjccapekjdaaDoor.Tb
open Go.Proofs.YtefcjccapekjdaaDoor.Civ (Tab Inv)
set_option linter.unusedVariables false
set_option linter.unusedSimpArgs false
/-- what is known of a stamp in a list at a place -/
structure StAt (w : World) (p : Addr) (s : St) : Prop where
  a0 : w.cell? p = some (.int .u16 s.y)
  a1 : w.cell? ⟨p.block, p.off + 1, none⟩ = some (.int .u16 s.m)
  a2 : w.cell? ⟨p.block, p.off + 2, none⟩ = some (.int .u16 s.v)
  a3 : w.cell? ⟨p.block, p.off + 3, none⟩ = some (.int .u16 s.d)
  a4 : w.cell? ⟨p.block, p.off + 4, none⟩ = some (.int .u16 s.h)
  a5 : w.cell? ⟨p.block, p.off + 5, none⟩ = some (.int .u16 s.i)
  a6 : w.cell? ⟨p.block, p.off + 6, none⟩ = some (.int .u16 s.s)
  a7 : w.cell? ⟨p.block, p.off + 7, none⟩ = some (.int .u16 s.u)
/-- a list of stamps that lies in memory -/
def Stamps (w : World) (B : Nat) (A : Option Addr) (n : Nat) (l : List St) : Prop := l.length = n ∧ Reads w B 8 A n (flatT l)
theorem Stamps.below {w w' : World} {B n : Nat} {A : Option Addr} {l : List St} (h : Stamps w B A n l) (hb : Below B w w') : Stamps w' B A n l := ⟨h.1, h.2.below hb⟩
theorem Stamps.more {w : World} {B B' n : Nat} {A : Option Addr} {l : List St} (h : Stamps w B A n l) (hb : B ≤ B') : Stamps w B' A n l := ⟨h.1, h.2.more hb⟩
theorem Stamps.row {w : World} {B n : Nat} {ad : Addr} {l : List St} (h : Stamps w B (some ad) n l) {k : Nat} (hk : k < n) : Row w B (ad.add (k * 8)) (sA (l.getD k St.nil)) := by
  obtain ⟨hl, hr⟩ := h
  obtain ⟨ad', e, hb, hc⟩ := hr.2 (by omega)
  obtain rfl : ad = ad' := Option.some.inj e
  refine ⟨?_, fun j u hu => ?_⟩
  · rw [Wd.block_of_add]; exact hb
  · have hj : j < 8 := by
      have := (Array.getElem?_eq_some_iff.1 hu).1
      simpa using this
    have hk' : k < l.length := by omega
    rw [Wd.add_of_add, show k * 8 + j = 8 * k + j by omega]
    apply hc
    rw [flatT_at l k j hk' hj, ← hu]
    congr 1
    rw [List.getD_eq_getElem?_getD, List.getElem?_eq_getElem hk']; rfl
theorem Stamps.rowX {w : World} {B n : Nat} {A : Option Addr} {l : List St} (h : Stamps w B A n l) {k : Nat} (hk : k < n) : ∃ ad, A = some ad ∧ Row w B (ad.add (k * 8)) (sA (l.getD k St.nil)) := by
  obtain ⟨ad, e, _⟩ := h.2.2 (by omega)
  subst e
  exact ⟨ad, rfl, h.row hk⟩
theorem StAt.of {w : World} {B : Nat} {p : Addr} {s : St} (h : Row w B p (sA s)) : StAt w p s := by
  have q := fun j u hu => h.2 j u hu
  exact ⟨by have := q 0 _ rfl; rwa [Ft.add_zero] at this, q 1 _ rfl, q 2 _ rfl, q 3 _ rfl, q 4 _ rfl, q 5 _ rfl, q 6 _ rfl, q 7 _ rfl⟩
theorem Stamps.lt {w : World} {B n g : Nat} {l : List St} (h : Stamps w B (some ⟨g, 0, none⟩) n l) {i : Nat} (hi : i < n) : g < B := by
  obtain ⟨ad', e, hb, _⟩ := h.2.2 (by omega)
  cases e; exact hb
/-- what is known of a stamp in a block at a place -/
structure St0 (w : World) (g i : Nat) (s : St) : Prop where
  a0 : w.cell? ⟨g, i, none⟩ = some (.int .u16 s.y)
  a1 : w.cell? ⟨g, i + 1, none⟩ = some (.int .u16 s.m)
  a2 : w.cell? ⟨g, i + 2, none⟩ = some (.int .u16 s.v)
  a3 : w.cell? ⟨g, i + 3, none⟩ = some (.int .u16 s.d)
  a4 : w.cell? ⟨g, i + 4, none⟩ = some (.int .u16 s.h)
  a5 : w.cell? ⟨g, i + 5, none⟩ = some (.int .u16 s.i)
  a6 : w.cell? ⟨g, i + 6, none⟩ = some (.int .u16 s.s)
  a7 : w.cell? ⟨g, i + 7, none⟩ = some (.int .u16 s.u)
theorem St0.of {w : World} {B g i : Nat} {s : St} (h : Row w B ((⟨g, 0, none⟩ : Addr).add i) (sA s)) : St0 w g i s := by
  have e : (⟨g, 0, none⟩ : Addr).add i = ⟨g, i, none⟩ := by unfold Addr.add; split <;> simp_all
  rw [e] at h
  have k := StAt.of h
  exact ⟨k.a0, k.a1, k.a2, k.a3, k.a4, k.a5, k.a6, k.a7⟩
/-- a load of a struct, or of a part of one, out of a block that is known -/
theorem ld_seg {w : World} {g k : Nat} {t T : TypeId} {cs new : Array Value} {d : TypeDesc} (h : Blk w g t cs) (hu : Tryd.prog.underlying T = some d) (hd : d.isRow = true)
    (hi : (Tryd.prog.info? T).map (·.size) = some new.size) (hn : (cs.toList.drop k).take new.size = new.toList) : (Instr.loadAt T (.pointer (some ⟨g, k, none⟩))).run Tryd.prog w = .ok (.agg new) w := by
  have hr : w.rangeAt g k new.toList := fun j v hv => by
    rw [h.cell (k + j)]
    rw [← hn, List.getElem?_take] at hv
    split at hv
    · rw [List.getElem?_drop] at hv; simpa using hv
    · cases hv
  have := run_loadAt_mid (P := Tryd.prog) w g k T new.toList d hr hu hd (by simpa using hi)
  simpa using this
theorem ld_st {w : World} {B g i : Nat} {n : Nat} {l : List St} (h : Stamps w B (some ⟨g, 0, none⟩) n l) (hi : i < n) : (Instr.loadAt 24 (.pointer (some ⟨g, i * 8, none⟩))).run Tryd.prog w = .ok (.agg (sA (l.getD i St.nil))) w := by
  have r := h.row hi
  have e : (⟨g, 0, none⟩ : Addr).add (i * 8) = ⟨g, i * 8, none⟩ := by unfold Addr.add; split <;> simp_all
  rw [e] at r
  have hr : w.rangeAt g (i * 8) (sA (l.getD i St.nil)).toList := fun j v hv => by
    have := r.2 j v (by simpa using hv)
    have e2 : (⟨g, i * 8, none⟩ : Addr).add j = ⟨g, i * 8 + j, none⟩ := by unfold Addr.add; split <;> simp_all
    rwa [e2] at this
  exact run_loadAt_mid (P := Tryd.prog) w g (i * 8) 24 (sA (l.getD i St.nil)).toList _ hr Tryd.underlying24 rfl (by kernel_rfl)
/-- what a load of a struct reads, if it does: so that a drawn region's walk takes it by one fact, without its cells -/
noncomputable def ldT (T : TypeId) (v : Value) (w : World) : Option (Array Value) :=
  open Classical in if h : ∃ cs, (Instr.loadAt T v).run Tryd.prog w = .ok (.agg cs) w then some h.choose else none
noncomputable def ldO (T : TypeId) (v : Value) (w : World) : Result Value := (Instr.loadAt T v).run Tryd.prog w
theorem ldT_of {T : TypeId} {v : Value} {w : World} {cs : Array Value} (h : (Instr.loadAt T v).run Tryd.prog w = .ok (.agg cs) w) : ldT T v w = some cs := by
  have hx : ∃ cs, (Instr.loadAt T v).run Tryd.prog w = .ok (.agg cs) w := ⟨cs, h⟩
  unfold ldT
  rw [dif_pos hx]
  have := hx.choose_spec.symm.trans h
  simp only [Result.ok.injEq, Value.agg.injEq] at this
  rw [this.1]
theorem ldT_pre (T : TypeId) (v : Value) (w : World) : (Instr.loadAt T v).run Tryd.prog w = (match ldT T v w with | some cs => .ok (.agg cs) w | none => ldO T v w) := by
  by_cases hx : ∃ cs, (Instr.loadAt T v).run Tryd.prog w = .ok (.agg cs) w
  · obtain ⟨cs, h⟩ := hx
    rw [ldT_of h, h]
  · have : ldT T v w = none := by unfold ldT; rw [dif_neg hx]
    rw [this]; rfl
noncomputable def ldSem (T : TypeId) (v : Value) := Instr.loadAt T v
theorem ldSem_run (T : TypeId) (v : Value) (w : World) : (ldSem T v).run Tryd.prog w = (match ldT T v w with | some cs => .ok (.agg cs) w | none => ldO T v w) := ldT_pre T v w
theorem ldR_sem (v : Value) : Instr.loadAt 26 v = ldSem 26 v := rfl
theorem ldS_sem (v : Value) : Instr.loadAt 24 v = ldSem 24 v := rfl
theorem Stamps.rowL {w : World} {B g n : Nat} {l : List St} (h : Stamps w B (some ⟨g, 0, none⟩) n l) (k K : Nat) (hk : k < n) (hK : k * 8 = K) {x : St} (hx : l.getD k St.nil = x) : Row w B ⟨g, K, none⟩ (sA x) := by
  have r := h.row hk
  have e : (⟨g, 0, none⟩ : Addr).add (k * 8) = ⟨g, k * 8, none⟩ := by unfold Addr.add; split <;> simp_all
  rwa [e, hK, hx] at r
theorem Stamps.ldL {w : World} {B g n : Nat} {l : List St} (h : Stamps w B (some ⟨g, 0, none⟩) n l) (k K : Nat) (hk : k < n) (hK : k * 8 = K) {x : St} (hx : l.getD k St.nil = x) : ldT 24 (.pointer (some ⟨g, K, none⟩)) w = some (sA x) := by
  subst hK; subst hx; exact ldT_of (ld_st h hk)
theorem bdn {B : Nat} {w w1 : World} (h : Below B w w1) (n : Nat) : Below B w (w1.drewN n) := Ft.bdN h n
set_option maxRecDepth 100000 in
set_option maxHeartbeats 6400000 in
theorem same_st (A1 A2 : Option Addr) (n c1 c2 : Nat) (l : List St) (w : World) (hs1 : Stamps w w.heap.size A1 n l) (hs2 : Stamps w w.heap.size A2 n l) (hm : n ≤ maxLen) :
    Calls Tryd.prog 68 #[.slice A1 n c1, .slice A2 n c2] w fun e w' => e = .returned (.bool true) ∧ Below w.heap.size w w' := by
  unfold maxLen at hm
  go_enter Tryd.func68, Tryd.ntmps68
  go_wp2_with fail
  go_loopw [13] (fun i wr => ∃ k : Nat, i = .int .i64 k ∧ k ≤ n ∧ Below w.heap.size w wr) (fun i _ => n - (intOf i).toNat)
  case atStart => exact ⟨0, rfl, Nat.zero_le _, Below.refl _ _⟩
  case round =>
    obtain ⟨k, rfl, hk, hb⟩ := hrel
    by_cases hlt : k < n
    · have hlt' : (k : Int) < (n : Int) := by omega
      obtain ⟨ad, rfl, r1⟩ := (hs1.below hb).rowX hlt
      obtain ⟨ae, rfl, r2⟩ := (hs2.below hb).rowX hlt
      obtain ⟨x, eA⟩ : ∃ a, l.getD k St.nil = a := ⟨_, rfl⟩
      rw [eA] at r1 r2
      clear eA
      obtain ⟨p0, p1, p2, p3, p4, p5, p6, p7⟩ := StAt.of r1
      obtain ⟨q0, q1, q2, q3, q4, q5, q6, q7⟩ := StAt.of r2
      have hq : ∀ w, (binOp .neq 24 (.agg (sA x)) (.agg (sA x))).run Tryd.prog w = .ok (.bool false) w := fun w => (neq_stt x x w).trans (by rw [show eqS x x = true from eqS_iff.2 rfl]; rfl)
      clear r1 r2
      go_wp2_with fail
      go_quiet ((go_at_call 0))
      clear p0 p1 p2 p3 p4 p5 p6 p7 q0 q1 q2 q3 q4 q5 q6 q7
      go_wp2_with fail
      go_roundw
      case rel => exact ⟨k + 1, by go_num, by omega, bdn hb _⟩
      case measure => simp [intOf]; omega
    · have hlt' : ¬ (k : Int) < (n : Int) := by omega
      go_wp2_with fail
      go_ret
      exact ⟨rfl, hb⟩
end Go.Proofs.YtefcjccapekjdaaDoor.Sh
