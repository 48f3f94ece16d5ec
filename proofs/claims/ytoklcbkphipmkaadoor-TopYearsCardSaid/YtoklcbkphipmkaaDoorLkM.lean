/-
  LINKS, IN PLAIN LEAN: where a name leads; a chain of names; what is found stays found.
-/
namespace Go.Proofs.YtoklcbkphipmkaaDoor.Lk
set_option linter.unusedVariables false
/-- where a name leads: the place of a zone, or why there is none -/
structure Fd where
  p : Int
  e : Int
  deriving DecidableEq
section
variable {α : Type} [DecidableEq α]
/-- the first place of a name -/
def fst_ : List α → α → Option Nat
  | [], _ => none
  | a :: l, s => if a = s then some 0 else (fst_ l s).map (· + 1)
theorem fst_cons (a : α) (l : List α) (s : α) : fst_ (a :: l) s = if a = s then some 0 else (fst_ l s).map (· + 1) := rfl
theorem fst_some {l : List α} {s : α} {i : Nat} (h : fst_ l s = some i) : l[i]? = some s ∧ ∀ j, j < i → l[j]? ≠ some s := by
  induction l generalizing i with
  | nil => cases h
  | cons a l ih =>
    unfold fst_ at h
    by_cases ha : a = s
    · rw [if_pos ha] at h; cases h; subst ha; exact ⟨rfl, fun j hj => absurd hj (Nat.not_lt_zero _)⟩
    · rw [if_neg ha] at h
      cases hf : fst_ l s with
      | none => rw [hf] at h; cases h
      | some k =>
        rw [hf] at h; cases h
        obtain ⟨h1, h2⟩ := ih hf
        refine ⟨by show (a :: l)[k + 1]? = _; simpa using h1, fun j hj => ?_⟩
        cases j with
        | zero => simpa using ha
        | succ j => simpa using h2 j (Nat.lt_of_succ_lt_succ hj)
theorem fst_none {l : List α} {s : α} : fst_ l s = none ↔ s ∉ l := by
  induction l with
  | nil => simp [fst_]
  | cons a l ih =>
    unfold fst_
    by_cases ha : a = s
    · subst ha; simp
    · rw [if_neg ha]; simp [ih, Ne.symm ha]
theorem fst_lt {l : List α} {s : α} {i : Nat} (h : fst_ l s = some i) : i < l.length := by
  have := (fst_some h).1
  rcases Nat.lt_or_ge i l.length with g | g
  · exact g
  · rw [List.getElem?_eq_none g] at this; cases this
theorem fst_mem {l : List α} {s : α} (h : s ∈ l) : ∃ i, fst_ l s = some i := by
  cases hf : fst_ l s with
  | none => exact absurd h (fst_none.1 hf)
  | some i => exact ⟨i, rfl⟩
theorem fst_of {l : List α} {s : α} {i : Nat} (h : l[i]? = some s) (h2 : ∀ j, j < i → l[j]? ≠ some s) : fst_ l s = some i := by
  cases hf : fst_ l s with
  | none => exact absurd (List.mem_of_getElem? h) (fst_none.1 hf)
  | some k =>
    obtain ⟨h3, h4⟩ := fst_some hf
    rcases Nat.lt_trichotomy k i with g | g | g
    · exact absurd h3 (h2 k g)
    · rw [g]
    · exact absurd h (h4 i g)
theorem fst_append {l m : List α} {s : α} : fst_ (l ++ m) s = match fst_ l s with | some i => some i | none => (fst_ m s).map (· + l.length) := by
  induction l with
  | nil => simp [fst_]
  | cons a l ih =>
    rw [List.cons_append, fst_cons, fst_cons, ih]
    by_cases ha : a = s
    · rw [if_pos ha, if_pos ha]
    · rw [if_neg ha, if_neg ha]
      cases fst_ l s with
      | some i => rfl
      | none =>
        show Option.map _ (Option.map _ _) = Option.map _ _
        rw [Option.map_map]; congr 1
/-- zones by name; links, each a target and a name -/
structure Net (α : Type) where
  zs : List α
  ls : List (α × α)
variable (N : Net α)
abbrev zAt (n : α) : Option Nat := fst_ N.zs n
abbrev lAt (n : α) : Option Nat := fst_ (N.ls.map (·.2)) n
def nxt (n : α) : Option α := (lAt N n).bind fun i => N.ls[i]?.map (·.1)
theorem nxt_of {n : α} {i : Nat} (h : lAt N n = some i) (t : α × α) (ht : N.ls[i]? = some t) : nxt N n = some t.1 := by unfold nxt; rw [h]; simp [ht]
theorem nxt_none {n : α} (h : lAt N n = none) : nxt N n = none := by unfold nxt; rw [h]; rfl
theorem nxt_mem {n m : α} (h : nxt N n = some m) : n ∈ N.ls.map (·.2) := by
  unfold nxt at h
  cases hl : lAt N n with
  | none => rw [hl] at h; cases h
  | some i => exact List.mem_of_getElem? (fst_some hl).1
theorem nxt_eq_none {n : α} (h : nxt N n = none) : lAt N n = none := by
  cases hl : lAt N n with
  | none => rfl
  | some i =>
    have := fst_lt hl
    rw [List.length_map] at this
    rw [nxt_of N hl _ (List.getElem?_eq_getElem this)] at h; cases h
def ends : Nat → α → Option Fd
  | 0, _ => none
  | k + 1, n => match zAt N n with
    | some z => some ⟨z, 0⟩
    | none => match nxt N n with
      | none => some ⟨0, 3⟩
      | some m => ends k m
theorem ends_mono {k : Nat} {n : α} {f : Fd} (h : ends N k n = some f) (j : Nat) : ends N (k + j) n = some f := by
  induction k generalizing n with
  | zero => cases h
  | succ k ih =>
    rw [show k + 1 + j = (k + j) + 1 by omega]
    unfold ends at h ⊢
    cases hz : zAt N n with
    | some z => rw [hz] at h; exact h
    | none =>
      rw [hz] at h
      cases hn : nxt N n with
      | none => rw [hn] at h; exact h
      | some m => rw [hn] at h; exact ih h
open Classical in
noncomputable def lead (n : α) : Fd := if h : ∃ f k, ends N k n = some f then h.choose else ⟨0, 9⟩
theorem lead_of {n : α} {k : Nat} {f : Fd} (h : ends N k n = some f) : lead N n = f := by
  unfold lead
  rw [dif_pos ⟨f, k, h⟩]
  have hx : ∃ f k, ends N k n = some f := ⟨f, k, h⟩
  obtain ⟨k', h'⟩ := hx.choose_spec
  have h1 := ends_mono N h k'
  have h2 := ends_mono N h' k
  rw [Nat.add_comm k' k, h1] at h2
  exact (Option.some.inj h2).symm
theorem lead_no {n : α} (h : ∀ k, ends N k n = none) : lead N n = ⟨0, 9⟩ := by
  unfold lead
  rw [dif_neg]
  rintro ⟨f, k, hk⟩
  rw [h k] at hk; cases hk
theorem lead_z {n : α} {z : Nat} (h : zAt N n = some z) : lead N n = ⟨z, 0⟩ := lead_of N (k := 1) (by unfold ends; rw [h])
theorem lead_none {n : α} (h : zAt N n = none) (h2 : nxt N n = none) : lead N n = ⟨0, 3⟩ := lead_of N (k := 1) (by unfold ends; rw [h, h2])
theorem ends_step {n m : α} (h : zAt N n = none) (h2 : nxt N n = some m) (k : Nat) : ends N (k + 1) n = ends N k m := by
  rw [ends, h, h2]
theorem lead_step {n m : α} (h : zAt N n = none) (h2 : nxt N n = some m) : lead N n = lead N m := by
  by_cases hx : ∃ f k, ends N k m = some f
  · obtain ⟨f, k, hk⟩ := hx
    rw [lead_of N hk]
    exact lead_of N (k := k + 1) (by rw [ends_step N h h2, hk])
  · have hm : ∀ k, ends N k m = none := fun k => by
      cases hk : ends N k m with
      | none => rfl
      | some f => exact absurd ⟨f, k, hk⟩ hx
    rw [lead_no N hm]
    refine lead_no N fun k => ?_
    cases k with
    | zero => rfl
    | succ k => rw [ends_step N h h2, hm k]
/-- from a by the names c to b -/
inductive Goes : α → List α → α → Prop
  | nil (a : α) : Goes a [] a
  | snoc {a b d : α} {c : List α} : Goes a c b → zAt N b = none → nxt N b = some d → Goes a (c ++ [b]) d
variable {N}
theorem Goes.ends {a b : α} {c : List α} (h : Goes N a c b) (k : Nat) : Lk.ends N (k + c.length) a = Lk.ends N k b := by
  induction h generalizing k with
  | nil => rfl
  | snoc h1 hz hn ih =>
    rw [List.length_append, List.length_singleton, show ∀ n, k + (n + 1) = (k + 1) + n by intro n; omega, ih, ends_step N hz hn]
theorem Goes.short {a b : α} {c : List α} (h : Goes N a c b) {k : Nat} (hk : k ≤ c.length) : Lk.ends N k a = none := by
  induction h generalizing k with
  | nil => have : k = 0 := by simpa using hk
           subst this; rfl
  | snoc h1 hz hn ih =>
    rename_i b' d c
    rcases Nat.lt_or_ge k (c.length + 1) with g | g
    · exact ih (by omega)
    · rw [List.length_append, List.length_singleton] at hk
      rw [show k = 1 + c.length by omega, h1.ends, ends_step N hz hn]; rfl
theorem Goes.lead {a b : α} {c : List α} (h : Goes N a c b) : Lk.lead N a = Lk.lead N b := by
  induction h with
  | nil => rfl
  | snoc h1 hz hn ih => rw [ih, lead_step N hz hn]
theorem Goes.tail {a b x : α} {c : List α} (h : Goes N a c b) (hx : x ∈ c) : ∃ c', Goes N x c' b ∧ 0 < c'.length := by
  induction h with
  | nil => cases hx
  | snoc h1 hz hn ih =>
    rename_i b' d c
    rcases List.mem_append.1 hx with g | g
    · obtain ⟨c', h', _⟩ := ih g
      exact ⟨c' ++ [b'], h'.snoc hz hn, by simp⟩
    · have : x = b' := by simpa using g
      subst this
      exact ⟨[x], (Goes.nil x).snoc hz hn, by simp⟩
theorem Goes.all {a b x : α} {c : List α} (h : Goes N a c b) (hx : x ∈ c) : Lk.lead N x = Lk.lead N b := by
  obtain ⟨c', h', _⟩ := h.tail hx
  exact h'.lead
theorem Goes.round {b : α} {c : List α} (h : Goes N b c b) (hc : 0 < c.length) (k : Nat) : Lk.ends N k b = none := by
  induction k using Nat.strongRecOn with
  | ind k ih =>
    rcases Nat.lt_or_ge c.length k with g | g
    · rw [show k = (k - c.length) + c.length by omega, h.ends]
      exact ih _ (by omega)
    · exact h.short g
theorem Goes.loop {a b : α} {c : List α} (h : Goes N a c b) (hb : b ∈ c) : Lk.lead N b = ⟨0, 9⟩ := by
  obtain ⟨c', h', hp⟩ := h.tail hb
  exact lead_no N fun k => h'.round hp k
theorem Goes.links {a b x : α} {c : List α} (h : Goes N a c b) (hx : x ∈ c) : x ∈ N.ls.map (·.2) := by
  induction h with
  | nil => cases hx
  | snoc h1 hz hn ih =>
    rename_i b' d c
    rcases List.mem_append.1 hx with g | g
    · exact ih g
    · have : x = b' := by simpa using g
      subst this; exact nxt_mem N hn
theorem nodup_le {l m : List α} (h : l.Nodup) (hs : ∀ x ∈ l, x ∈ m) : l.length ≤ m.length := by
  induction l generalizing m with
  | nil => exact Nat.zero_le _
  | cons a l ih =>
    have ha := hs a (List.mem_cons_self ..)
    have hn := List.nodup_cons.1 h
    have := ih (m := m.erase a) hn.2 (fun x hx => (List.mem_erase_of_ne (fun e : x = a => hn.1 (by rw [← e]; exact hx))).2 (hs x (List.mem_cons_of_mem _ hx)))
    rw [List.length_erase_of_mem ha] at this
    have hp : 0 < m.length := List.length_pos_of_mem ha
    simp only [List.length_cons]; omega
theorem Goes.len {a b : α} {c : List α} (h : Goes N a c b) (hd : c.Nodup) : c.length ≤ N.ls.length := by
  have := nodup_le hd (fun x hx => h.links hx)
  rwa [List.length_map] at this
/-- what is known is right -/
def Right (N : Net α) (K : α → Option Fd) : Prop := ∀ n e, K n = some e → e = Lk.lead N n
/-- what is known, and that the names c lead to e -/
def over (K : α → Option Fd) (c : List α) (e : Fd) : α → Option Fd := fun n => if n ∈ c then some e else K n
theorem over_nil (K : α → Option Fd) (e : Fd) : over K [] e = K := by funext n; unfold over; rw [if_neg (by simp)]
theorem over_snoc (K : α → Option Fd) (c : List α) (b : α) (e : Fd) : over K (c ++ [b]) e = fun n => if n = b then some e else over K c e n := by
  funext n; unfold over
  by_cases h : n = b
  · subst h; simp
  · simp [h]
theorem over_right {K : α → Option Fd} (h : Right N K) {c : List α} {e : Fd} (hc : ∀ x ∈ c, e = Lk.lead N x) : Right N (over K c e) := by
  intro n f hn
  unfold over at hn
  by_cases g : n ∈ c
  · rw [if_pos g] at hn; cases hn; exact hc n g
  · rw [if_neg g] at hn; exact h n f hn
/-- the end is known -/
theorem known_end {K : α → Option Fd} (h : Right N K) {a b : α} {c : List α} (hg : Goes N a c b) {e : Fd} (he : over K c ⟨0, 9⟩ b = some e) : e = Lk.lead N b := by
  unfold over at he
  by_cases g : b ∈ c
  · rw [if_pos g] at he; cases he; exact (hg.loop g).symm
  · rw [if_neg g] at he; exact h b e he
/-- going, with what was gone by -/
def walk (N : Net α) : Nat → List α → α → Option (List α)
  | 0, _, _ => none
  | k + 1, acc, n => if n ∈ acc then some acc else match zAt N n with
    | some _ => some (acc ++ [n])
    | none => match nxt N n with
      | none => some (acc ++ [n])
      | some m => walk N k (acc ++ [n]) m
theorem Goes.walk {a b : α} {c : List α} (h : Goes N a c b) (hd : c.Nodup) (k : Nat) : Lk.walk N (k + c.length) [] a = Lk.walk N k c b := by
  induction h generalizing k with
  | nil => rfl
  | snoc h1 hz hn ih =>
    rename_i b' d c
    rw [List.nodup_append] at hd
    have hb : b' ∉ c := fun e => hd.2.2 b' e b' (by simp) rfl
    rw [List.length_append, List.length_singleton, show k + (c.length + 1) = (k + 1) + c.length by omega, ih hd.1]
    rw [Lk.walk, if_neg hb, hz, hn]
theorem Goes.mid {a b x : α} {c : List α} (h : Goes N a c b) (hx : x ∈ c) : zAt N x = none ∧ ∃ m, nxt N x = some m := by
  induction h with
  | nil => cases hx
  | snoc h1 hz hn ih =>
    rename_i b' d c
    rcases List.mem_append.1 hx with g | g
    · exact ih g
    · have : x = b' := by simpa using g
      subst this; exact ⟨hz, _, hn⟩
/-- the chain of a name: c, and b if it is no name of c -/
structure Chain_ (N : Net α) (a : α) (l : List α) (known : Prop) : Prop where
  all : ∀ x ∈ l, Lk.lead N x = Lk.lead N a
  hd : ¬ known → ∃ t, l = a :: t
  last : (Lk.lead N a).e = 0 → ¬ known → ∃ t b z, l = t ++ [b] ∧ zAt N b = some z ∧ Lk.lead N a = ⟨z, 0⟩
  one : l.length = 1 → (Lk.lead N a).e = 3 → ¬ known → zAt N a = none ∧ nxt N a = none
  len : l.length ≤ N.ls.length + 1
  wk : ∀ k, walk N (k + l.length + 1) [] a = some l
theorem Goes.head {a b : α} {c : List α} (h : Goes N a c b) : (c = [] ∧ a = b) ∨ ∃ t, c = a :: t := by
  induction h with
  | nil => exact .inl ⟨rfl, rfl⟩
  | snoc h1 hz hn ih =>
    rename_i b' d c
    rcases ih with ⟨rfl, rfl⟩ | ⟨t, rfl⟩
    · exact .inr ⟨[], rfl⟩
    · exact .inr ⟨t ++ [b'], rfl⟩
theorem Goes.first {a b : α} {c : List α} (h : Goes N a c b) (hc : c.length = 1) : nxt N a = some b ∧ zAt N a = none := by
  cases h with
  | nil => cases hc
  | snoc h1 hz hn =>
    rename_i b' c
    have : c = [] := List.eq_nil_of_length_eq_zero (by simpa using hc)
    rcases h1.head with ⟨_, rfl⟩ | ⟨t, h⟩
    · exact ⟨hn, hz⟩
    · rw [this] at h; cases h
/-- the end is one that was known, or that is on the chain -/
theorem chain_known {K : α → Option Fd} (hK : Right N K) {a b : α} {c : List α} (hg : Goes N a c b) (hd : c.Nodup) {e : Fd} (he : over K c ⟨0, 9⟩ b = some e) (hn : ∀ n, K n = none) : Chain_ N a c False where
  all x hx := (hg.all hx).trans hg.lead.symm
  hd _ := by
    rcases hg.head with ⟨rfl, rfl⟩ | h
    · rw [over_nil, hn] at he; cases he
    · exact h
  last h0 _ := by
    have hb : b ∈ c := by
      unfold over at he
      by_cases g : b ∈ c
      · exact g
      · rw [if_neg g, hn] at he; cases he
    rw [hg.lead, hg.loop hb] at h0; cases h0
  one h1 h3 _ := by
    have hb : b ∈ c := by
      unfold over at he
      by_cases g : b ∈ c
      · exact g
      · rw [if_neg g, hn] at he; cases he
    rw [hg.lead, hg.loop hb] at h3; cases h3
  len := Nat.le_succ_of_le (hg.len hd)
  wk k := by
    have hb : b ∈ c := by
      unfold over at he
      by_cases g : b ∈ c
      · exact g
      · rw [if_neg g, hn] at he; cases he
    rw [show k + c.length + 1 = (k + 1) + c.length by omega, hg.walk hd, walk, if_pos hb]
theorem chain_zone {a b : α} {c : List α} (hg : Goes N a c b) (hd : c.Nodup) {z : Nat} (hz : zAt N b = some z) : Chain_ N a (c ++ [b]) False where
  all x hx := by
    rcases List.mem_append.1 hx with g | g
    · exact (hg.all g).trans hg.lead.symm
    · have : x = b := by simpa using g
      subst this; exact hg.lead.symm
  hd _ := by
    rcases hg.head with ⟨rfl, rfl⟩ | ⟨t, rfl⟩
    · exact ⟨[], rfl⟩
    · exact ⟨t ++ [b], rfl⟩
  last _ _ := ⟨c, b, z, rfl, hz, by rw [hg.lead, lead_z N hz]⟩
  one h1 h3 _ := by rw [hg.lead, lead_z N hz] at h3; cases h3
  len := by rw [List.length_append, List.length_singleton]; have := hg.len hd; omega
  wk k := by
    have hb : b ∉ c := fun e => by have := (hg.mid e).1; rw [hz] at this; cases this
    rw [List.length_append, List.length_singleton, show k + (c.length + 1) + 1 = (k + 1 + 1) + c.length by omega, hg.walk hd, walk, if_neg hb, hz]
theorem chain_none {a b : α} {c : List α} (hg : Goes N a c b) (hd : c.Nodup) (hz : zAt N b = none) (hn : nxt N b = none) : Chain_ N a (c ++ [b]) False where
  all x hx := by
    rcases List.mem_append.1 hx with g | g
    · exact (hg.all g).trans hg.lead.symm
    · have : x = b := by simpa using g
      subst this; exact hg.lead.symm
  hd _ := by
    rcases hg.head with ⟨rfl, rfl⟩ | ⟨t, rfl⟩
    · exact ⟨[], rfl⟩
    · exact ⟨t ++ [b], rfl⟩
  last h0 _ := by rw [hg.lead, lead_none N hz hn] at h0; cases h0
  one h1 _ _ := by
    have : c = [] := List.eq_nil_of_length_eq_zero (by simpa using h1)
    subst this
    rcases hg.head with ⟨_, rfl⟩ | ⟨t, h⟩
    · exact ⟨hz, hn⟩
    · cases h
  len := by rw [List.length_append, List.length_singleton]; have := hg.len hd; omega
  wk k := by
    have hb : b ∉ c := fun e => by obtain ⟨m, hm⟩ := (hg.mid e).2; rw [hn] at hm; cases hm
    rw [List.length_append, List.length_singleton, show k + (c.length + 1) + 1 = (k + 1 + 1) + c.length by omega, hg.walk hd, walk, if_neg hb, hz, hn]
theorem Chain_.same {a : α} {l m : List α} {p : Prop} (h : Chain_ N a l p) {n : Nat} (hw : walk N n [] a = some m) (hn : l.length < n) : l = m := by
  have := h.wk (n - l.length - 1)
  rw [show n - l.length - 1 + l.length + 1 = n by omega, hw] at this
  exact (Option.some.inj this).symm
/-- a link more -/
abbrev Net.more (N : Net α) (l : List (α × α)) : Net α := ⟨N.zs, N.ls ++ l⟩
theorem nxt_more {n m : α} {l : List (α × α)} (h : nxt N n = some m) : nxt (N.more l) n = some m := by
  unfold nxt at h
  cases hl : lAt N n with
  | none => rw [hl] at h; cases h
  | some i =>
    rw [hl] at h
    have hi : i < N.ls.length := by have := fst_lt hl; rwa [List.length_map] at this
    have h2 : lAt (N.more l) n = some i := by
      show fst_ ((N.ls ++ l).map (·.2)) n = some i
      rw [List.map_append, fst_append, show fst_ (N.ls.map (·.2)) n = some i from hl]
    unfold nxt
    rw [h2]
    show ((N.ls ++ l)[i]?).map _ = _
    rw [List.getElem?_append_left hi]
    exact h
theorem ends_more {k : Nat} {n : α} {l : List (α × α)} {z : Int} (h : ends N k n = some ⟨z, 0⟩) : ends (N.more l) k n = some ⟨z, 0⟩ := by
  induction k generalizing n with
  | zero => cases h
  | succ k ih =>
    unfold ends at h ⊢
    cases hz : zAt N n with
    | some z' =>
      rw [hz] at h
      exact h
    | none =>
      rw [hz] at h
      cases hn : nxt N n with
      | none => rw [hn] at h; cases h
      | some m => rw [hn] at h; simp only [nxt_more hn]; exact ih h
theorem lead_ok {n : α} {z : Int} (h : lead N n = ⟨z, 0⟩) : ∃ k, ends N k n = some ⟨z, 0⟩ := by
  by_cases hx : ∃ f k, ends N k n = some f
  · obtain ⟨f, k, hk⟩ := hx
    rw [lead_of N hk] at h
    exact ⟨k, by rw [hk, h]⟩
  · have hm : ∀ k, ends N k n = none := fun k => by
      cases hk : ends N k n with
      | none => rfl
      | some f => exact absurd ⟨f, k, hk⟩ hx
    rw [lead_no N hm] at h; cases h
theorem lead_more {n : α} {l : List (α × α)} {z : Int} (h : lead N n = ⟨z, 0⟩) : lead (N.more l) n = ⟨z, 0⟩ := by
  obtain ⟨k, hk⟩ := lead_ok h
  exact lead_of _ (ends_more hk)
theorem lead_new {n f : α} {z : Int} (h : lead N n = ⟨z, 0⟩) (hz : zAt N f = none) (hl : nxt N f = none) : lead (N.more [(n, f)]) f = ⟨z, 0⟩ := by
  rw [← lead_more (l := [(n, f)]) h]
  refine lead_step _ (show zAt N f = none from hz) ?_
  have h1 : lAt (N.more [(n, f)]) f = some N.ls.length := by
    show fst_ ((N.ls ++ [(n, f)]).map (·.2)) f = _
    rw [List.map_append, fst_append, show fst_ (N.ls.map (·.2)) f = none from nxt_eq_none N hl]
    simp [fst_]
  exact nxt_of _ h1 (n, f) (by show (N.ls ++ [(n, f)])[N.ls.length]? = _; rw [List.getElem?_append_right (Nat.le_refl _)]; simp)
theorem lead_place {n : α} {z : Int} (h : lead N n = ⟨z, 0⟩) : ∃ k, z = (k : Nat) ∧ k < N.zs.length := by
  obtain ⟨k, hk⟩ := lead_ok h
  clear h
  induction k generalizing n with
  | zero => cases hk
  | succ k ih =>
    unfold ends at hk
    cases hz : zAt N n with
    | some z' => rw [hz] at hk; injection hk with hk; injection hk with h1; exact ⟨z', h1.symm, fst_lt hz⟩
    | none =>
      rw [hz] at hk
      cases hn : nxt N n with
      | none => rw [hn] at hk; cases hk
      | some m => rw [hn] at hk; exact ih hk
theorem lead_why (n : α) : (lead N n).e = 0 ∨ (lead N n = ⟨0, 3⟩ ∨ lead N n = ⟨0, 9⟩) := by
  by_cases hx : ∃ f k, ends N k n = some f
  · obtain ⟨f, k, hk⟩ := hx
    rw [lead_of N hk]
    induction k generalizing n with
    | zero => cases hk
    | succ k ih =>
      unfold ends at hk
      cases hz : zAt N n with
      | some z' => rw [hz] at hk; injection hk with hk; subst hk; exact .inl rfl
      | none =>
        rw [hz] at hk
        cases hn : nxt N n with
        | none => rw [hn] at hk; injection hk with hk; subst hk; exact .inr (.inl rfl)
        | some m => rw [hn] at hk; exact ih m hk
  · exact .inr (.inr (lead_no N fun k => by
      cases hk : ends N k n with
      | none => rfl
      | some f => exact absurd ⟨f, k, hk⟩ hx))
/-- whoever leads to a zone is a zone's name, or a link's -/
theorem lead_named {n : α} (h : (lead N n).e = 0) : n ∈ N.zs ++ N.ls.map (·.2) := by
  rcases hz : zAt N n with _ | z
  · rcases hn : nxt N n with _ | m
    · rw [lead_none N hz hn] at h; cases h
    · exact List.mem_append_right _ (nxt_mem N hn)
  · exact List.mem_append_left _ (List.mem_of_getElem? (fst_some hz).1)
/-- each once, the first one stays -/
def once : List α → List α
  | [] => []
  | a :: l => a :: (once l).filter fun x => !decide (x = a)
/-- each once, of those that p tells, by going through -/
def onceP (p : α → Bool) (l : List α) : List α := l.foldl (fun out x => if x ∈ out then out else if p x then out ++ [x] else out) []
theorem mem_onceP {p : α → Bool} {l : List α} {x : α} : x ∈ onceP p l ↔ x ∈ l ∧ p x = true := by
  unfold onceP
  suffices h : ∀ acc : List α, (∀ y ∈ acc, p y = true) → (x ∈ l.foldl (fun out x => if x ∈ out then out else if p x then out ++ [x] else out) acc ↔ x ∈ acc ∨ (x ∈ l ∧ p x = true)) by
    rw [h [] (by simp)]; simp
  induction l with
  | nil => intro acc _; simp
  | cons a l ih =>
    intro acc hacc
    rw [List.foldl_cons]
    by_cases h1 : a ∈ acc
    · rw [if_pos h1, ih _ hacc]
      constructor
      · rintro (h | ⟨h, h'⟩)
        · exact .inl h
        · exact .inr ⟨List.mem_cons_of_mem _ h, h'⟩
      · rintro (h | ⟨h, h'⟩)
        · exact .inl h
        · rcases List.mem_cons.1 h with rfl | h
          · exact .inl h1
          · exact .inr ⟨h, h'⟩
    · rw [if_neg h1]
      by_cases h2 : p a = true
      · have hacc2 : ∀ y ∈ acc ++ [a], p y = true := by
          intro y hy
          rcases List.mem_append.1 hy with g | g
          · exact hacc y g
          · have : y = a := by simpa using g
            subst this; exact h2
        rw [if_pos h2, ih _ hacc2]
        constructor
        · rintro (h | ⟨h, h'⟩)
          · rcases List.mem_append.1 h with g | g
            · exact .inl g
            · have : x = a := by simpa using g
              subst this; exact .inr ⟨List.mem_cons_self .., h2⟩
          · exact .inr ⟨List.mem_cons_of_mem _ h, h'⟩
        · rintro (h | ⟨h, h'⟩)
          · exact .inl (List.mem_append_left _ h)
          · rcases List.mem_cons.1 h with rfl | h
            · exact .inl (List.mem_append_right _ (by simp))
            · exact .inr ⟨h, h'⟩
      · rw [if_neg h2, ih _ hacc]
        constructor
        · rintro (h | ⟨h, h'⟩)
          · exact .inl h
          · exact .inr ⟨List.mem_cons_of_mem _ h, h'⟩
        · rintro (h | ⟨h, h'⟩)
          · exact .inl h
          · rcases List.mem_cons.1 h with rfl | h
            · exact absurd h' h2
            · exact .inr ⟨h, h'⟩
theorem onceP_congr {p q : α → Bool} {l : List α} (h : ∀ x ∈ l, p x = q x) : onceP p l = onceP q l := by
  unfold onceP
  suffices hh : ∀ acc : List α, l.foldl (fun out x => if x ∈ out then out else if p x then out ++ [x] else out) acc = l.foldl (fun out x => if x ∈ out then out else if q x then out ++ [x] else out) acc from hh []
  induction l with
  | nil => intro acc; rfl
  | cons a l ih =>
    intro acc
    rw [List.foldl_cons, List.foldl_cons, h a (List.mem_cons_self ..)]
    exact ih (fun x hx => h x (List.mem_cons_of_mem _ hx)) _
theorem onceP_snoc (p : α → Bool) (l : List α) (x : α) : onceP p (l ++ [x]) = if x ∈ onceP p l then onceP p l else if p x then onceP p l ++ [x] else onceP p l := by
  unfold onceP; rw [List.foldl_append]; rfl
theorem onceP_len (p : α → Bool) (l : List α) : (onceP p l).length ≤ l.length := by
  unfold onceP
  suffices h : ∀ acc : List α, (l.foldl (fun out x => if x ∈ out then out else if p x then out ++ [x] else out) acc).length ≤ acc.length + l.length by simpa using h []
  induction l with
  | nil => intro acc; simp
  | cons a l ih =>
    intro acc
    rw [List.foldl_cons]
    refine Nat.le_trans (ih _) ?_
    by_cases h1 : a ∈ acc
    · rw [if_pos h1]; simp only [List.length_cons]; omega
    · rw [if_neg h1]
      by_cases h2 : p a = true
      · rw [if_pos h2, List.length_append, List.length_singleton]; simp only [List.length_cons]; omega
      · rw [if_neg h2]; simp only [List.length_cons]; omega
end
end Go.Proofs.YtoklcbkphipmkaaDoor.Lk
