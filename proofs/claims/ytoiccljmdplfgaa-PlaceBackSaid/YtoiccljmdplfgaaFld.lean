/-
  scan's READING, WALKED: the fields of any line.
-/
import Derived.Test.YtoiccljmdplfgaaScn
import Derived.WalkMore
namespace Go.Proofs.Ytoiccljmdplfgaa.Scn
open Go.ChangeShapes Go.WideShapes Go.ChangeAt Go.RowKit
open Go.Proofs.Ytoiccljmdplfgaa
open Go.Proofs.Ytoiccljmdplfgaa.Wd
open Go.Proofs.Ytoiccljmdplfgaa.Pt (L L_len own_ge reads_one conv_row byte_info int_one cells_one byteCells_app drop_at)
open Go.Lib (byteCells)
set_option linter.unusedVariables false
/-- As Q; by a goto to a label: J of it. -/
def jumps (J : Nat → Act → World → Prop) (Q : Exit → Act → World → Prop) : Exit → Act → World → Prop
  | .goto l, a, w => J l a w
  | e, a, w => Q e a w
section
variable {P : Program} {a : Act} {w : World} {Q : Exit → Act → World → Prop}
def dropSkip : Code → Code
  | .seq .skip x => x
  | c => c
theorem wp_dropSkip {c : Code} (h : (dropSkip c).wp P Q a w) : c.wp P Q a w := by
  unfold dropSkip at h
  split at h
  · exact wp_seq (wp_skip h)
  · exact h
/-- a scope with any labels: what holds at each of them, and a measure that every pass lowers -/
theorem wp_scope_labels {c : Code} (J : Nat → Act → World → Prop) (μ : Nat → Act → World → Nat)
    (first : (∀ l rest a w, findLabel c l = some rest → J l a w → (dropSkip rest).wp P (jumps J Q) a w) → c.wp P (jumps J Q) a w)
    (pass : ∀ l a w, J l a w → ∃ rest, findLabel c l = some rest ∧ (dropSkip rest).wp P (jumps (fun l' a' w' => J l' a' w' ∧ μ l' a' w' < μ l a w) Q) a w) : (Code.scope c).wp P Q a w := by
  intro b k cs
  have key : ∀ n l a w, μ l a w = n → J l a w → ∃ rest, gotoIn l (.inScope c :: k) = some (.code rest :: .inScope c :: k) ∧ ∃ e a' w', Q e a' w' ∧ Arrives P (lone (b.at a (.code rest :: .inScope c :: k)) cs w) b k cs e a' w' := by
    intro n
    induction n using Nat.strongRecOn with
    | _ n ih =>
      intro l a w hn hJ
      obtain ⟨rest, hf, hp⟩ := pass l a w hJ
      refine ⟨rest, by simp [gotoIn, hf], ?_⟩
      obtain ⟨e, a₁, w₁, hq, harr⟩ := wp_dropSkip hp b (.inScope c :: k) cs
      cases e with
      | normal => exact ⟨.normal, a₁, w₁, hq, Steps.trans harr (.one step_inScope)⟩
      | exit id => exact ⟨.exit id, a₁, w₁, hq, fun k' hk => harr k' (by simp [exitTo, hk])⟩
      | goto l' =>
        obtain ⟨hJ', hlt⟩ := hq
        obtain ⟨rest', hg, e₂, a₂, w₂, hq₂, harr₂⟩ := ih _ (by omega) l' a₁ w₁ rfl hJ'
        exact ⟨e₂, a₂, w₂, hq₂, .of_steps (harr _ hg) harr₂⟩
      | ret => exact ⟨_, a₁, w₁, hq, harr⟩
      | panic ch => exact ⟨_, a₁, w₁, hq, harr⟩
      | outgrown => exact ⟨_, a₁, w₁, hq, harr⟩
  have hweak : ∀ l rest a w, findLabel c l = some rest → J l a w → (dropSkip rest).wp P (jumps J Q) a w := by
    intro l rest a w hf hJ b k cs
    obtain ⟨rest', hf', hp⟩ := pass l a w hJ
    rw [hf] at hf'; injection hf' with hf'; subst hf'
    obtain ⟨e, a₁, w₁, hq, harr⟩ := hp b k cs
    refine ⟨e, a₁, w₁, ?_, harr⟩
    cases e with
    | goto l' => exact hq.1
    | _ => exact hq
  obtain ⟨e, a₁, w₁, hq, harr⟩ := first hweak b (.inScope c :: k) cs
  cases e with
  | normal => exact ⟨.normal, a₁, w₁, hq, .head step_scope (Steps.trans harr (.one step_inScope))⟩
  | exit id => exact ⟨.exit id, a₁, w₁, hq, fun k' hk => .head step_scope (harr k' (by simp [exitTo, hk]))⟩
  | goto l' =>
    obtain ⟨rest', hg, e₂, a₂, w₂, hq₂, harr₂⟩ := key _ l' a₁ w₁ rfl hq
    exact ⟨e₂, a₂, w₂, hq₂, .of_steps (.head step_scope (harr _ hg)) harr₂⟩
  | ret => exact ⟨_, a₁, w₁, hq, .of_steps (.one step_scope) harr⟩
  | panic ch => exact ⟨_, a₁, w₁, hq, .of_steps (.one step_scope) harr⟩
  | outgrown => exact ⟨_, a₁, w₁, hq, .of_steps (.one step_scope) harr⟩
end
/-- a field's bytes and its column -/
abbrev Fl := List UInt8 × Nat
inductive FR where
  | ok (l : List Fl)
  | bad (col : Nat) (why : Int)
def FR.list : FR → List Fl
  | .ok l => l
  | .bad _ _ => []
/-- the fields of what is left of a line: 0 between, 1 within, 2 quoted -/
def fld : List UInt8 → Nat → Nat → List Fl → Nat → List UInt8 → Nat → FR
  | [], m, p, acc, bg, tx, q => if m = 0 then .ok acc else if m = 1 then .ok (acc ++ [(tx, bg)]) else .bad q 5
  | b :: r, m, p, acc, bg, tx, q =>
    if m = 0 then
      if kindN b = 1 then fld r 0 (p + 1) acc bg tx q
      else if kindN b = 3 then .ok acc
      else if kindN b = 2 then .bad (p + 1) 4
      else if acc.length = 24 then .bad (p + 1) 6
      else if kindN b = 4 then fld r 2 (p + 1) acc (p + 1) [] (p + 1)
      else fld r 1 (p + 1) acc (p + 1) [b] q
    else if m = 1 then
      if kindN b = 1 then fld r 0 (p + 1) (acc ++ [(tx, bg)]) bg tx q
      else if kindN b = 3 then .ok (acc ++ [(tx, bg)])
      else if kindN b = 2 then .bad (p + 1) 4
      else if kindN b = 4 then fld r 2 (p + 1) acc bg tx (p + 1)
      else fld r 1 (p + 1) acc bg (tx ++ [b]) q
    else
      if kindN b = 2 then .bad (p + 1) 4
      else if kindN b = 4 then fld r 1 (p + 1) acc bg tx q
      else fld r 2 (p + 1) acc bg (tx ++ [b]) q
abbrev flA (f : Fl) : Array Value := #[.string ⟨f.1.toArray⟩, .int .i64 (f.2 : Int)]
def flatF (l : List Fl) : List Value := l.flatMap fun f => (flA f).toList
theorem flatF_app (l : List Fl) (f : Fl) : flatF (l ++ [f]) = flatF l ++ (flA f).toList := by simp [flatF]
theorem field_info : (Try.prog.info? 114).map (fun i => (i.zero, i.size, i.bytes)) = some (some (.agg #[.string ⟨#[]⟩, .int .i64 0]), 2, 24) := by kernel_rfl
theorem own_sep {w : World} {b1 b2 n1 n2 s1 s2 : Nat} {e1 e2 : TypeId} {v1 v2 : Value} {xs ys : List Value} (h : w.ownsRow b1 e1 s1 v1 n1 xs) (h' : w.ownsRow b2 e2 s2 v2 n2 ys) (hne : e1 ≠ e2) : v1.ownBlock = none ∨ v1.ownBlock ≠ v2.ownBlock := by
  rcases h.2 with ⟨rfl, _⟩ | ⟨g, cap, cur, rfl, h2, h3, _⟩
  · exact .inl rfl
  · right
    intro e
    rcases h'.2 with ⟨rfl, _⟩ | ⟨g', cap', cur', rfl, h2', h3', _⟩
    · simp [Value.ownBlock] at e
    · simp [Value.ownBlock] at e; subst e
      have := h3.symm.trans h3'
      injection this with q; injection q with _ q2; exact hne q2
theorem fl_one (f : Fl) : ∀ u ∈ (flA f).toList, u.oneCell' = true := by
  intro u hu; simp at hu; rcases hu with rfl | rfl <;> rfl
structure St (s : ByteArray) (R : FR) (B : Nat) (w0 : World) (m p : Nat) (acc : List Fl) (bg : Nat) (tx : List UInt8) (q : Nat) (v5 v6 : Value) (i7 i8 i9 : Int) (w : World) : Prop where
  hm : m ≤ 2
  hp : p ≤ s.size
  e7 : i7 = (p : Int)
  e8 : i8 = (bg : Int)
  e9 : i9 = (q : Int)
  hb : bg ≤ s.size + 1
  hq : q ≤ s.size + 1
  ha : acc.length ≤ 24
  hc : m ≠ 0 → acc.length ≤ 23
  ht : tx.length ≤ p
  eq : fld ((L s).drop p) m p acc bg tx q = R
  o5 : w.ownsRow B 114 2 v5 acc.length (flatF acc)
  o6 : w.ownsRow B 5 1 v6 tx.length (byteCells tx)
  bel : Below B w0 w
def JF (s : ByteArray) (R : FR) (B : Nat) (w0 : World) (m : Nat) (a : Act) (w : World) : Prop :=
  ∃ (p : Nat) (acc : List Fl) (bg : Nat) (tx : List UInt8) (q : Nat) (v5 v6 : Value) (i7 i8 i9 : Int) (x : Nat → Value), a = { tmps := #[.string s, x 1, x 2, x 3, x 4, v5, v6, .int .i64 i7, .int .i64 i8, .int .i64 i9, x 10, x 11, x 12, x 13, x 14, x 15, x 16, x 17, x 18, x 19, x 20, x 21, x 22, x 23, x 24, x 25, x 26, x 27, x 28, x 29, x 30, x 31, x 32, x 33, x 34, x 35, x 36, x 37, x 38, x 39, x 40, x 41, x 42, x 43, x 44, x 45, x 46, x 47, x 48, x 49, x 50, x 51, x 52, x 53, x 54, x 55, x 56, x 57, x 58, x 59, x 60, x 61, x 62, x 63, x 64, x 65, x 66, x 67, x 68, x 69, x 70, x 71, x 72, x 73, x 74, x 75, x 76, x 77, x 78, x 79, x 80, x 81, x 82, x 83, x 84, x 85, x 86, x 87, x 88, x 89, x 90, x 91, x 92, x 93, x 94, x 95, x 96, x 97, x 98, x 99, x 100, x 101, x 102, x 103, x 104, x 105, x 106, x 107, x 108, x 109, x 110], defers := [] } ∧ St s R B w0 m p acc bg tx q v5 v6 i7 i8 i9 w
theorem JF_mk {s : ByteArray} {R : FR} {B : Nat} {w0 : World} {m : Nat} {a : Act} {w : World} (p : Nat) (acc : List Fl) (bg : Nat) (tx : List UInt8) (q : Nat) (v5 v6 : Value) (i7 i8 i9 : Int)
    (ha : a = { tmps := #[.string s, a.tmps.getD 1 undef, a.tmps.getD 2 undef, a.tmps.getD 3 undef, a.tmps.getD 4 undef, v5, v6, .int .i64 i7, .int .i64 i8, .int .i64 i9, a.tmps.getD 10 undef, a.tmps.getD 11 undef, a.tmps.getD 12 undef, a.tmps.getD 13 undef, a.tmps.getD 14 undef, a.tmps.getD 15 undef, a.tmps.getD 16 undef, a.tmps.getD 17 undef, a.tmps.getD 18 undef, a.tmps.getD 19 undef, a.tmps.getD 20 undef, a.tmps.getD 21 undef, a.tmps.getD 22 undef, a.tmps.getD 23 undef, a.tmps.getD 24 undef, a.tmps.getD 25 undef, a.tmps.getD 26 undef, a.tmps.getD 27 undef, a.tmps.getD 28 undef, a.tmps.getD 29 undef, a.tmps.getD 30 undef, a.tmps.getD 31 undef, a.tmps.getD 32 undef, a.tmps.getD 33 undef, a.tmps.getD 34 undef, a.tmps.getD 35 undef, a.tmps.getD 36 undef, a.tmps.getD 37 undef, a.tmps.getD 38 undef, a.tmps.getD 39 undef, a.tmps.getD 40 undef, a.tmps.getD 41 undef, a.tmps.getD 42 undef, a.tmps.getD 43 undef, a.tmps.getD 44 undef, a.tmps.getD 45 undef, a.tmps.getD 46 undef, a.tmps.getD 47 undef, a.tmps.getD 48 undef, a.tmps.getD 49 undef, a.tmps.getD 50 undef, a.tmps.getD 51 undef, a.tmps.getD 52 undef, a.tmps.getD 53 undef, a.tmps.getD 54 undef, a.tmps.getD 55 undef, a.tmps.getD 56 undef, a.tmps.getD 57 undef, a.tmps.getD 58 undef, a.tmps.getD 59 undef, a.tmps.getD 60 undef, a.tmps.getD 61 undef, a.tmps.getD 62 undef, a.tmps.getD 63 undef, a.tmps.getD 64 undef, a.tmps.getD 65 undef, a.tmps.getD 66 undef, a.tmps.getD 67 undef, a.tmps.getD 68 undef, a.tmps.getD 69 undef, a.tmps.getD 70 undef, a.tmps.getD 71 undef, a.tmps.getD 72 undef, a.tmps.getD 73 undef, a.tmps.getD 74 undef, a.tmps.getD 75 undef, a.tmps.getD 76 undef, a.tmps.getD 77 undef, a.tmps.getD 78 undef, a.tmps.getD 79 undef, a.tmps.getD 80 undef, a.tmps.getD 81 undef, a.tmps.getD 82 undef, a.tmps.getD 83 undef, a.tmps.getD 84 undef, a.tmps.getD 85 undef, a.tmps.getD 86 undef, a.tmps.getD 87 undef, a.tmps.getD 88 undef, a.tmps.getD 89 undef, a.tmps.getD 90 undef, a.tmps.getD 91 undef, a.tmps.getD 92 undef, a.tmps.getD 93 undef, a.tmps.getD 94 undef, a.tmps.getD 95 undef, a.tmps.getD 96 undef, a.tmps.getD 97 undef, a.tmps.getD 98 undef, a.tmps.getD 99 undef, a.tmps.getD 100 undef, a.tmps.getD 101 undef, a.tmps.getD 102 undef, a.tmps.getD 103 undef, a.tmps.getD 104 undef, a.tmps.getD 105 undef, a.tmps.getD 106 undef, a.tmps.getD 107 undef, a.tmps.getD 108 undef, a.tmps.getD 109 undef, a.tmps.getD 110 undef], defers := [] }) (h : St s R B w0 m p acc bg tx q v5 v6 i7 i8 i9 w) : JF s R B w0 m a w := ⟨p, acc, bg, tx, q, v5, v6, i7, i8, i9, fun n => a.tmps.getD n undef, ha, h⟩
theorem reads_fl (w : World) (t : TypeId) (f : Fl) : Reads (w.alloc (.cells (flA f) t)) (w.heap.size + 1) 2 (some ⟨w.heap.size, 0, none⟩) 1 (flA f).toList :=
  ⟨rfl, fun _ => ⟨_, rfl, Nat.lt_succ_self _, fun j x hx => by
    match j, hx with
    | 0, hx => simp at hx; subst hx; simp [Addr.add]
    | 1, hx => simp at hx; subst hx; simp [Addr.add]⟩⟩
theorem own_form {w : World} {base n size : Nat} {e : TypeId} {v : Value} {xs : List Value} (h : w.ownsRow base e size v n xs) : ∃ A c, v = .slice A n c := by
  rcases h.2 with ⟨rfl, rfl⟩ | ⟨g, cap, cur, rfl, _⟩
  · exact ⟨none, 0, rfl⟩
  · exact ⟨_, _, rfl⟩
section
variable {b : UInt8} {r tx : List UInt8} {p bg q : Nat} {acc : List Fl}
theorem f0n : fld [] 0 p acc bg tx q = .ok acc := by simp [fld]
theorem f1n : fld [] 1 p acc bg tx q = fld [] 0 p (acc ++ [(tx, bg)]) bg tx q := by simp [fld]
theorem f2n : fld [] 2 p acc bg tx q = .bad q 5 := by simp [fld]
theorem f01 (h : kindN b = 1) : fld (b :: r) 0 p acc bg tx q = fld r 0 (p + 1) acc bg tx q := by simp [fld, h]
theorem f02 (h : kindN b = 2) : fld (b :: r) 0 p acc bg tx q = .bad (p + 1) 4 := by simp [fld, h]
theorem f03 (h : kindN b = 3) : fld (b :: r) 0 p acc bg tx q = .ok acc := by simp [fld, h]
theorem f06 (h : kindN b = 0 ∨ kindN b = 4) (h' : acc.length = 24) : fld (b :: r) 0 p acc bg tx q = .bad (p + 1) 6 := by rcases h with h | h <;> simp [fld, h, h']
theorem f04 (h : kindN b = 4) (h' : ¬ acc.length = 24) : fld (b :: r) 0 p acc bg tx q = fld r 2 (p + 1) acc (p + 1) [] (p + 1) := by simp [fld, h, h']
theorem f00 (h : kindN b = 0) (h' : ¬ acc.length = 24) : fld (b :: r) 0 p acc bg tx q = fld r 1 (p + 1) acc (p + 1) [b] q := by simp [fld, h, h']
theorem f1e (h : kindN b = 1 ∨ kindN b = 3) : fld (b :: r) 1 p acc bg tx q = fld (b :: r) 0 p (acc ++ [(tx, bg)]) bg tx q := by rcases h with h | h <;> simp [fld, h]
theorem f12 (h : kindN b = 2) : fld (b :: r) 1 p acc bg tx q = .bad (p + 1) 4 := by simp [fld, h]
theorem f14 (h : kindN b = 4) : fld (b :: r) 1 p acc bg tx q = fld r 2 (p + 1) acc bg tx (p + 1) := by simp [fld, h]
theorem f10 (h : kindN b = 0) : fld (b :: r) 1 p acc bg tx q = fld r 1 (p + 1) acc bg (tx ++ [b]) q := by simp [fld, h]
theorem f22 (h : kindN b = 2) : fld (b :: r) 2 p acc bg tx q = .bad (p + 1) 4 := by simp [fld, h]
theorem f24 (h : kindN b = 4) : fld (b :: r) 2 p acc bg tx q = fld r 1 (p + 1) acc bg tx q := by simp [fld, h]
theorem f20 (h : kindN b = 0 ∨ kindN b = 1 ∨ kindN b = 3) : fld (b :: r) 2 p acc bg tx q = fld r 2 (p + 1) acc bg (tx ++ [b]) q := by rcases h with h | h | h <;> simp [fld, h]
end
theorem own_nil (w : World) (B : Nat) (e : TypeId) (k : Nat) : w.ownsRow B e k (.slice none 0 0) 0 [] := ⟨by simp, .inl ⟨rfl, rfl⟩⟩
/-- what Fields answers -/
def FPost (R : FR) (B : Nat) (w0 : World) (e : Ending) (w' : World) : Prop :=
  Below B w0 w' ∧ match R with
    | .ok l => ∃ v, e = .returned (.tuple #[v, .int .i64 0, .int .i64 0]) ∧ w'.ownsRow B 114 2 v l.length (flatF l)
    | .bad c y => e = .returned (.tuple #[.slice none 0 0, .int .i64 (c : Int), .int .i64 y])
theorem post_ok {R : FR} {B : Nat} {w0 w' : World} {l : List Fl} {v : Value} (h : R = .ok l) (hb : Below B w0 w') (ho : w'.ownsRow B 114 2 v l.length (flatF l)) : FPost R B w0 (.returned (.tuple #[v, .int .i64 0, .int .i64 0])) w' := by
  subst h; exact ⟨hb, v, rfl, ho⟩
theorem post_bad {R : FR} {B : Nat} {w0 w' : World} {c : Nat} {ci y : Int} (h : R = .bad c y) (hb : Below B w0 w') (hc : ci = (c : Int)) : FPost R B w0 (.returned (.tuple #[.slice none 0 0, .int .i64 ci, .int .i64 y])) w' := by
  subst h; subst hc; exact ⟨hb, rfl⟩
set_option maxRecDepth 40000 in
set_option maxHeartbeats 6400000 in
theorem fields_any (s : ByteArray) (w0 : World) (hs : s.size ≤ 2048) :
    Calls Try.prog 90 #[.string s] w0 (FPost (fld (L s) 0 0 [] 0 [] 0) w0.heap.size w0) := by
  obtain ⟨i0, hi0, hz0, hz1, hz2⟩ := info_parts byte_info
  obtain ⟨j0, hj0, hy0, hy1, hy2⟩ := info_parts field_info
  generalize hR : fld (L s) 0 0 [] 0 [] 0 = R
  have hs' : ¬ (2048 : Int) < (s.size : Int) := by omega
  go_enter Try.func90, Try.ntmps90
  go_wp2
  refine wp_scope_labels (JF s R w0.heap.size w0) (fun m a _ => 2 * (s.size - (intOf (a.tmps.getD 7 undef)).toNat) + (if m = 0 then 0 else 1)) ?first ?pass
  case first =>
    intro hlab
    go_wp2
    go_step3
    rename_i K hK
    refine hK _ _ ?_
    refine hlab 0 (.seq .skip _) _ _ ?_ ?_
    · rfl
    exact JF_mk 0 [] 0 [] 0 _ _ _ _ _ rfl ⟨by decide, Nat.zero_le _, rfl, rfl, rfl, by omega, by omega, by decide, fun h => absurd rfl h, Nat.le_refl _, hR, own_nil _ _ _ _, own_nil _ _ _ _, Below.refl _ _⟩
  case pass =>
    rintro l a w ⟨p, acc, bg, tx, q, v5, v6, i7, i8, i9, x, rfl, h⟩
    obtain ⟨hm, hp, e7, e8, e9, hb, hq, ha, hc, ht, heq, o5, o6, bel⟩ := h
    subst e7; subst e8; subst e9
    have HE := Lib.hid heq; clear heq hR
    have hsz := bel.size
    obtain ⟨A5, c5, rfl⟩ := own_form o5
    have hll : l = 0 ∨ l = 1 ∨ l = 2 := by omega
    have o6n : w.ownsRow w0.heap.size 5 1 (.slice none 0 0) 0 (byteCells []) := own_nil _ _ _ _
    have hcv := conv_row o6
    by_cases hlt : p < s.size
    · have hlt' : (p : Int) < (s.size : Int) := by omega
      have hneq : ((p : Int) == (s.size : Int)) = false := by rw [beq_eq_false_iff_ne]; omega
      have hD := Lib.hid (Pt.drop_at s p hlt)
      rcases hll with rfl | rfl | rfl
      · refine ⟨.seq .skip _, rfl, ?_⟩
        dsimp only [dropSkip]
        rcases kind_bd s[p] with kk | kk | kk | kk | kk
        · by_cases h24 : acc.length = 24
          · have h24' : ((acc.length : Int) == 24) = true := by rw [beq_iff_eq]; omega
            go_wp2_with (go_at_call 97; refine (kind_any _ _).mono ?_; rintro e w1 ⟨rfl, rfl⟩; rw [kk])
            simp only [jumps]
            go_ret3
            exact post_bad (by rw [← HE.out, hD.out, f06 (.inl kk) h24]) bel (by omega)
          · have h24' : ((acc.length : Int) == 24) = false := by rw [beq_eq_false_iff_ne]; omega
            go_wp2_with (go_at_call 97; refine (kind_any _ _).mono ?_; rintro e w1 ⟨rfl, rfl⟩; rw [kk])
            go_step3
            try (rename_i K hK; refine hK _ _ ?_)
            go_wp2_with (first | (go_at_call 97; refine (kind_any _ _).mono ?_; rintro e w1 ⟨rfl, rfl⟩; rw [kk]) | (at_builtin; refine wpList_append_any _ rfl (.tmp 78) (.tmp 82) 91 rfl w0.heap.size 5 i0 _ 1 1 Try.underlying91 hi0 hz0 hz1 hz2 rfl (by decide) _ 0 (byteCells []) rfl (o6n.alloc _) _ _ 1 1 [.int .u8 (s[p].toNat : Int)] rfl (reads_one _ _ _) (int_one _ _) (by unfold maxLen; omega) (by omega) (by simp; omega) ?_; intro v1 w1 hown1 hg1 _))
            have o5' := (o5.alloc (.cells #[.int .u8 (s[p].toNat : Int)] 5)).kept hg1 (own_sep (o5.alloc (.cells #[.int .u8 (s[p].toNat : Int)] 5)) (o6n.alloc (.cells #[.int .u8 (s[p].toNat : Int)] 5)) (by decide))
            have bel' : Below w0.heap.size w0 w1 := (bel.alloc bel.size _).grown hg1 (by simp; omega) (fun g hg => own_ge o6n g hg)
            rw [cells_one, ← byteCells_app] at hown1
            clear hg1
            go_step3
            refine ⟨JF_mk (p + 1) acc (p + 1) [s[p]] q _ _ _ _ _ rfl ⟨by decide, by omega, by omega, by omega, by omega, by omega, by omega, by omega, fun _ => by omega, by simp, by rw [← HE.out, hD.out, f00 kk h24], o5', hown1, bel'⟩, ?_⟩
            show 2 * (s.size - ((p : Int) + 1).toNat) + 1 < 2 * (s.size - (p : Int).toNat) + 0
            omega
        · go_wp2_with (go_at_call 97; refine (kind_any _ _).mono ?_; rintro e w1 ⟨rfl, rfl⟩; rw [kk])
          go_step3
          refine ⟨JF_mk (p + 1) acc bg tx q _ _ _ _ _ rfl ⟨by decide, by omega, by omega, by omega, by omega, by omega, by omega, by omega, fun h => absurd rfl h, by omega, by rw [← HE.out, hD.out, f01 kk], o5, o6, bel⟩, ?_⟩
          show 2 * (s.size - ((p : Int) + 1).toNat) + 0 < 2 * (s.size - (p : Int).toNat) + 0
          omega
        · go_wp2_with (go_at_call 97; refine (kind_any _ _).mono ?_; rintro e w1 ⟨rfl, rfl⟩; rw [kk])
          simp only [jumps]
          go_ret3
          exact post_bad (by rw [← HE.out, hD.out, f02 kk]) bel (by omega)
        · go_wp2_with (go_at_call 97; refine (kind_any _ _).mono ?_; rintro e w1 ⟨rfl, rfl⟩; rw [kk])
          simp only [jumps]
          go_ret3
          exact post_ok (by rw [← HE.out, hD.out, f03 kk]) bel o5
        · by_cases h24 : acc.length = 24
          · have h24' : ((acc.length : Int) == 24) = true := by rw [beq_iff_eq]; omega
            go_wp2_with (go_at_call 97; refine (kind_any _ _).mono ?_; rintro e w1 ⟨rfl, rfl⟩; rw [kk])
            simp only [jumps]
            go_ret3
            exact post_bad (by rw [← HE.out, hD.out, f06 (.inr kk) h24]) bel (by omega)
          · have h24' : ((acc.length : Int) == 24) = false := by rw [beq_eq_false_iff_ne]; omega
            go_wp2_with (go_at_call 97; refine (kind_any _ _).mono ?_; rintro e w1 ⟨rfl, rfl⟩; rw [kk])
            go_step3
            try (rename_i K hK; refine hK _ _ ?_)
            go_wp2_with (go_at_call 97; refine (kind_any _ _).mono ?_; rintro e w1 ⟨rfl, rfl⟩; rw [kk])
            go_step3
            refine ⟨JF_mk (p + 1) acc (p + 1) [] (p + 1) _ _ _ _ _ rfl ⟨by decide, by omega, by omega, by omega, by omega, by omega, by omega, by omega, fun _ => by omega, by simp, by rw [← HE.out, hD.out, f04 kk h24], o5, o6n, bel⟩, ?_⟩
            show 2 * (s.size - ((p : Int) + 1).toNat) + 1 < 2 * (s.size - (p : Int).toNat) + 0
            omega
      · refine ⟨.seq .skip _, rfl, ?_⟩
        dsimp only [dropSkip]
        have h23 := hc (by decide)
        rcases kind_bd s[p] with kk | kk | kk | kk | kk
        · go_wp2_with (first | (go_at_call 97; refine (kind_any _ _).mono ?_; rintro e w1 ⟨rfl, rfl⟩; rw [kk]) | (at_builtin; refine wpList_append_any _ rfl (.tmp 78) (.tmp 82) 91 rfl w0.heap.size 5 i0 _ 1 1 Try.underlying91 hi0 hz0 hz1 hz2 rfl (by decide) _ tx.length (byteCells tx) rfl (o6.alloc _) _ _ 1 1 [.int .u8 (s[p].toNat : Int)] rfl (reads_one _ _ _) (int_one _ _) (by unfold maxLen; omega) (by omega) (by simp; omega) ?_; intro v1 w1 hown1 hg1 _))
          have o5' := (o5.alloc (.cells #[.int .u8 (s[p].toNat : Int)] 5)).kept hg1 (own_sep (o5.alloc (.cells #[.int .u8 (s[p].toNat : Int)] 5)) (o6.alloc (.cells #[.int .u8 (s[p].toNat : Int)] 5)) (by decide))
          have bel' : Below w0.heap.size w0 w1 := (bel.alloc bel.size _).grown hg1 (by simp; omega) (fun g hg => own_ge o6 g hg)
          rw [cells_one, ← byteCells_app] at hown1
          clear hg1
          go_step3
          refine ⟨JF_mk (p + 1) acc bg (tx ++ [s[p]]) q _ _ _ _ _ rfl ⟨by decide, by omega, by omega, by omega, by omega, by omega, by omega, by omega, fun _ => by omega, by simp; omega, by rw [← HE.out, hD.out, f10 kk], o5', by simpa using hown1, bel'⟩, ?_⟩
          show 2 * (s.size - ((p : Int) + 1).toNat) + 1 < 2 * (s.size - (p : Int).toNat) + 1
          omega
        · go_wp2_with (first | (go_at_call 97; refine (kind_any _ _).mono ?_; rintro e w1 ⟨rfl, rfl⟩; rw [kk]) | (at_builtin; refine wpList_append_any _ rfl (.tmp 58) (.tmp 63) 108 rfl w0.heap.size 114 j0 _ 2 24 Try.underlying108 hj0 hy0 hy1 hy2 rfl (by decide) _ acc.length (flatF acc) rfl (o5.alloc _) _ _ 1 1 (flA (tx, bg)).toList rfl (reads_fl _ _ (tx, bg)) (fl_one _) (by unfold maxLen; omega) (by omega) (by simp; omega) ?_; intro v1 w1 hown1 hg1 _))
          have o6' := (o6.alloc (.cells (flA (tx, bg)) 114)).kept hg1 (own_sep (o6.alloc (.cells (flA (tx, bg)) 114)) (o5.alloc (.cells (flA (tx, bg)) 114)) (by decide))
          have bel' : Below w0.heap.size w0 w1 := (bel.alloc bel.size _).grown hg1 (by simp; omega) (fun g hg => own_ge o5 g hg)
          replace hown1 : w1.ownsRow w0.heap.size 114 2 v1 (acc.length + 1) (flatF (acc ++ [(tx, bg)])) := by rw [flatF_app]; exact hown1
          clear hg1
          go_step3
          refine ⟨JF_mk p (acc ++ [(tx, bg)]) bg tx q _ _ _ _ _ rfl ⟨by decide, by omega, by omega, by omega, by omega, by omega, by omega, by simp; omega, fun h => absurd rfl h, by omega, by rw [← HE.out, hD.out, f1e (.inl kk)], by simpa using hown1, o6', bel'⟩, ?_⟩
          show 2 * (s.size - ((p : Int)).toNat) + 0 < 2 * (s.size - (p : Int).toNat) + 1
          omega
        · go_wp2_with (go_at_call 97; refine (kind_any _ _).mono ?_; rintro e w1 ⟨rfl, rfl⟩; rw [kk])
          simp only [jumps]
          go_ret3
          exact post_bad (by rw [← HE.out, hD.out, f12 kk]) bel (by omega)
        · go_wp2_with (first | (go_at_call 97; refine (kind_any _ _).mono ?_; rintro e w1 ⟨rfl, rfl⟩; rw [kk]) | (at_builtin; refine wpList_append_any _ rfl (.tmp 58) (.tmp 63) 108 rfl w0.heap.size 114 j0 _ 2 24 Try.underlying108 hj0 hy0 hy1 hy2 rfl (by decide) _ acc.length (flatF acc) rfl (o5.alloc _) _ _ 1 1 (flA (tx, bg)).toList rfl (reads_fl _ _ (tx, bg)) (fl_one _) (by unfold maxLen; omega) (by omega) (by simp; omega) ?_; intro v1 w1 hown1 hg1 _))
          have o6' := (o6.alloc (.cells (flA (tx, bg)) 114)).kept hg1 (own_sep (o6.alloc (.cells (flA (tx, bg)) 114)) (o5.alloc (.cells (flA (tx, bg)) 114)) (by decide))
          have bel' : Below w0.heap.size w0 w1 := (bel.alloc bel.size _).grown hg1 (by simp; omega) (fun g hg => own_ge o5 g hg)
          replace hown1 : w1.ownsRow w0.heap.size 114 2 v1 (acc.length + 1) (flatF (acc ++ [(tx, bg)])) := by rw [flatF_app]; exact hown1
          clear hg1
          go_step3
          refine ⟨JF_mk p (acc ++ [(tx, bg)]) bg tx q _ _ _ _ _ rfl ⟨by decide, by omega, by omega, by omega, by omega, by omega, by omega, by simp; omega, fun h => absurd rfl h, by omega, by rw [← HE.out, hD.out, f1e (.inr kk)], by simpa using hown1, o6', bel'⟩, ?_⟩
          show 2 * (s.size - ((p : Int)).toNat) + 0 < 2 * (s.size - (p : Int).toNat) + 1
          omega
        · go_wp2_with (go_at_call 97; refine (kind_any _ _).mono ?_; rintro e w1 ⟨rfl, rfl⟩; rw [kk])
          go_step3
          refine ⟨JF_mk (p + 1) acc bg tx (p + 1) _ _ _ _ _ rfl ⟨by decide, by omega, by omega, by omega, by omega, by omega, by omega, by omega, fun _ => by omega, by omega, by rw [← HE.out, hD.out, f14 kk], o5, o6, bel⟩, ?_⟩
          show 2 * (s.size - ((p : Int) + 1).toNat) + 1 < 2 * (s.size - (p : Int).toNat) + 1
          omega
      · refine ⟨.seq .skip _, rfl, ?_⟩
        dsimp only [dropSkip]
        have h23 := hc (by decide)
        rcases kind_bd s[p] with kk | kk | kk | kk | kk
        · go_wp2_with (first | (go_at_call 97; refine (kind_any _ _).mono ?_; rintro e w1 ⟨rfl, rfl⟩; rw [kk]) | (at_builtin; refine wpList_append_any _ rfl (.tmp 103) (.tmp 107) 91 rfl w0.heap.size 5 i0 _ 1 1 Try.underlying91 hi0 hz0 hz1 hz2 rfl (by decide) _ tx.length (byteCells tx) rfl (o6.alloc _) _ _ 1 1 [.int .u8 (s[p].toNat : Int)] rfl (reads_one _ _ _) (int_one _ _) (by unfold maxLen; omega) (by omega) (by simp; omega) ?_; intro v1 w1 hown1 hg1 _))
          have o5' := (o5.alloc (.cells #[.int .u8 (s[p].toNat : Int)] 5)).kept hg1 (own_sep (o5.alloc (.cells #[.int .u8 (s[p].toNat : Int)] 5)) (o6.alloc (.cells #[.int .u8 (s[p].toNat : Int)] 5)) (by decide))
          have bel' : Below w0.heap.size w0 w1 := (bel.alloc bel.size _).grown hg1 (by simp; omega) (fun g hg => own_ge o6 g hg)
          rw [cells_one, ← byteCells_app] at hown1
          clear hg1
          go_step3
          refine ⟨JF_mk (p + 1) acc bg (tx ++ [s[p]]) q _ _ _ _ _ rfl ⟨by decide, by omega, by omega, by omega, by omega, by omega, by omega, by omega, fun _ => by omega, by simp; omega, by rw [← HE.out, hD.out, f20 (.inl kk)], o5', by simpa using hown1, bel'⟩, ?_⟩
          show 2 * (s.size - ((p : Int) + 1).toNat) + 1 < 2 * (s.size - (p : Int).toNat) + 1
          omega
        · go_wp2_with (first | (go_at_call 97; refine (kind_any _ _).mono ?_; rintro e w1 ⟨rfl, rfl⟩; rw [kk]) | (at_builtin; refine wpList_append_any _ rfl (.tmp 103) (.tmp 107) 91 rfl w0.heap.size 5 i0 _ 1 1 Try.underlying91 hi0 hz0 hz1 hz2 rfl (by decide) _ tx.length (byteCells tx) rfl (o6.alloc _) _ _ 1 1 [.int .u8 (s[p].toNat : Int)] rfl (reads_one _ _ _) (int_one _ _) (by unfold maxLen; omega) (by omega) (by simp; omega) ?_; intro v1 w1 hown1 hg1 _))
          have o5' := (o5.alloc (.cells #[.int .u8 (s[p].toNat : Int)] 5)).kept hg1 (own_sep (o5.alloc (.cells #[.int .u8 (s[p].toNat : Int)] 5)) (o6.alloc (.cells #[.int .u8 (s[p].toNat : Int)] 5)) (by decide))
          have bel' : Below w0.heap.size w0 w1 := (bel.alloc bel.size _).grown hg1 (by simp; omega) (fun g hg => own_ge o6 g hg)
          rw [cells_one, ← byteCells_app] at hown1
          clear hg1
          go_step3
          refine ⟨JF_mk (p + 1) acc bg (tx ++ [s[p]]) q _ _ _ _ _ rfl ⟨by decide, by omega, by omega, by omega, by omega, by omega, by omega, by omega, fun _ => by omega, by simp; omega, by rw [← HE.out, hD.out, f20 (.inr (.inl kk))], o5', by simpa using hown1, bel'⟩, ?_⟩
          show 2 * (s.size - ((p : Int) + 1).toNat) + 1 < 2 * (s.size - (p : Int).toNat) + 1
          omega
        · go_wp2_with (go_at_call 97; refine (kind_any _ _).mono ?_; rintro e w1 ⟨rfl, rfl⟩; rw [kk])
          simp only [jumps]
          go_ret3
          exact post_bad (by rw [← HE.out, hD.out, f22 kk]) bel (by omega)
        · go_wp2_with (first | (go_at_call 97; refine (kind_any _ _).mono ?_; rintro e w1 ⟨rfl, rfl⟩; rw [kk]) | (at_builtin; refine wpList_append_any _ rfl (.tmp 103) (.tmp 107) 91 rfl w0.heap.size 5 i0 _ 1 1 Try.underlying91 hi0 hz0 hz1 hz2 rfl (by decide) _ tx.length (byteCells tx) rfl (o6.alloc _) _ _ 1 1 [.int .u8 (s[p].toNat : Int)] rfl (reads_one _ _ _) (int_one _ _) (by unfold maxLen; omega) (by omega) (by simp; omega) ?_; intro v1 w1 hown1 hg1 _))
          have o5' := (o5.alloc (.cells #[.int .u8 (s[p].toNat : Int)] 5)).kept hg1 (own_sep (o5.alloc (.cells #[.int .u8 (s[p].toNat : Int)] 5)) (o6.alloc (.cells #[.int .u8 (s[p].toNat : Int)] 5)) (by decide))
          have bel' : Below w0.heap.size w0 w1 := (bel.alloc bel.size _).grown hg1 (by simp; omega) (fun g hg => own_ge o6 g hg)
          rw [cells_one, ← byteCells_app] at hown1
          clear hg1
          go_step3
          refine ⟨JF_mk (p + 1) acc bg (tx ++ [s[p]]) q _ _ _ _ _ rfl ⟨by decide, by omega, by omega, by omega, by omega, by omega, by omega, by omega, fun _ => by omega, by simp; omega, by rw [← HE.out, hD.out, f20 (.inr (.inr kk))], o5', by simpa using hown1, bel'⟩, ?_⟩
          show 2 * (s.size - ((p : Int) + 1).toNat) + 1 < 2 * (s.size - (p : Int).toNat) + 1
          omega
        · go_wp2_with (go_at_call 97; refine (kind_any _ _).mono ?_; rintro e w1 ⟨rfl, rfl⟩; rw [kk])
          go_step3
          refine ⟨JF_mk (p + 1) acc bg tx q _ _ _ _ _ rfl ⟨by decide, by omega, by omega, by omega, by omega, by omega, by omega, by omega, fun _ => by omega, by omega, by rw [← HE.out, hD.out, f24 kk], o5, o6, bel⟩, ?_⟩
          show 2 * (s.size - ((p : Int) + 1).toNat) + 1 < 2 * (s.size - (p : Int).toNat) + 1
          omega
    · obtain rfl : p = s.size := by omega
      have hneq : ((s.size : Int) == (s.size : Int)) = true := by rw [beq_iff_eq]
      have hD := Lib.hid (show (L s).drop s.size = [] from List.drop_eq_nil_of_le (by rw [L_len]; exact Nat.le_refl _))
      rcases hll with rfl | rfl | rfl
      · refine ⟨.seq .skip _, rfl, ?_⟩
        dsimp only [dropSkip]
        go_wp2_with fail
        simp only [jumps]
        go_ret3
        exact post_ok (by rw [← HE.out, hD.out, f0n]) bel o5
      · refine ⟨.seq .skip _, rfl, ?_⟩
        dsimp only [dropSkip]
        have h23 := hc (by decide)
        go_wp2_with (at_builtin; refine wpList_append_any _ rfl (.tmp 58) (.tmp 63) 108 rfl w0.heap.size 114 j0 _ 2 24 Try.underlying108 hj0 hy0 hy1 hy2 rfl (by decide) _ acc.length (flatF acc) rfl (o5.alloc _) _ _ 1 1 (flA (tx, bg)).toList rfl (reads_fl _ _ (tx, bg)) (fl_one _) (by unfold maxLen; omega) (by omega) (by simp; omega) ?_; intro v1 w1 hown1 hg1 _)
        have o6' := (o6.alloc (.cells (flA (tx, bg)) 114)).kept hg1 (own_sep (o6.alloc (.cells (flA (tx, bg)) 114)) (o5.alloc (.cells (flA (tx, bg)) 114)) (by decide))
        have bel' : Below w0.heap.size w0 w1 := (bel.alloc bel.size _).grown hg1 (by simp; omega) (fun g hg => own_ge o5 g hg)
        replace hown1 : w1.ownsRow w0.heap.size 114 2 v1 (acc.length + 1) (flatF (acc ++ [(tx, bg)])) := by rw [flatF_app]; exact hown1
        clear hg1
        go_step3
        refine ⟨JF_mk s.size (acc ++ [(tx, bg)]) bg tx q _ _ _ _ _ rfl ⟨by decide, by omega, by omega, by omega, by omega, by omega, by omega, by simp; omega, fun h => absurd rfl h, by omega, by rw [← HE.out, hD.out, f1n], by simpa using hown1, o6', bel'⟩, ?_⟩
        show 2 * (s.size - ((s.size : Int)).toNat) + 0 < 2 * (s.size - (s.size : Int).toNat) + 1
        omega
      · refine ⟨.seq .skip _, rfl, ?_⟩
        dsimp only [dropSkip]
        go_wp2_with fail
        simp only [jumps]
        go_ret3
        exact post_bad (by rw [← HE.out, hD.out, f2n]) bel (rfl)
end Go.Proofs.Ytoiccljmdplfgaa.Scn
