/-
  THE STABLE SORT OF PLACES, plain: blocks of twenty, then of forty.
-/
import Derived.Test.YtoiccljmdplfgaaSoM
namespace Go.Proofs.Ytoiccljmdplfgaa.So
set_option linter.unusedVariables false
/-- blocks of 20, sorted up to e, as they were from e on -/
structure P1 (far : Nat → Int) (n e : Nat) (f : Fn_) : Prop where
  p : Pm 0 n id f
  o : ∀ i j, i < j → j < n → j < e → i / 20 = j / 20 → Lt far (f i) (f j)
  a : ∀ j, j < n → f j / 20 = j / 20
  z : ∀ j, e ≤ j → j < n → f j = j
theorem P1.start (far : Nat → Int) (n : Nat) : P1 far n 0 id := ⟨Pm.refl _ _ _, fun i j _ _ h => by omega, fun _ _ => rfl, fun _ _ _ => rfl⟩
theorem P1.up {far : Nat → Int} {n e b : Nat} {f : Fn_} (h : P1 far n e f) (hb : b ≤ n) : Up e b f := fun i j i1 ij j2 => by rw [h.z i i1 (by omega), h.z j (by omega) (by omega)]; exact ij
theorem P1.step {far : Nat → Int} {n e b : Nat} {f f' : Fn_} (h : P1 far n e f) (he : e % 20 = 0) (heb : e ≤ b) (hb2 : b ≤ e + 20) (hb : b ≤ n) (hp : Pm e b f f') (hs : Sd far e b f') : P1 far n b f' := by
  refine ⟨h.p.trans (hp.mono (Nat.zero_le _) hb), fun i j ij jn jb q => ?_, fun j jn => ?_, fun j j1 jn => ?_⟩
  · by_cases h1 : j < e
    · rw [hp.out (.inl (by omega)), hp.out (.inl h1)]; exact h.o i j ij jn h1 q
    · exact hs i j (by omega) ij jb
  · by_cases h1 : e ≤ j ∧ j < b
    · obtain ⟨k, k1, k2, k3⟩ := hp.from_ h1.1 h1.2
      rw [k3]
      have := h.a k (by omega)
      omega
    · rw [hp.out (by omega)]; exact h.a j jn
  · rw [hp.out (.inr j1)]; exact h.z j (by omega) jn
/-- blocks of s, of t up to e -/
structure Qb (far : Nat → Int) (n s t e : Nat) (f : Fn_) : Prop where
  p : Pm 0 n id f
  o : ∀ i j, i < j → j < n → (i / s = j / s ∨ (j < e ∧ i / t = j / t)) → Lt far (f i) (f j)
  a : ∀ j, j < e → j < n → f j / t = j / t
  z : ∀ j, e ≤ j → j < n → f j / s = j / s
theorem P1.done {far : Nat → Int} {n : Nat} {f : Fn_} (h : P1 far n n f) : Qb far n 20 40 0 f :=
  ⟨h.p, fun i j ij jn q => h.o i j ij jn jn (by omega), fun j jn => by omega, fun j _ jn => h.a j jn⟩
def St_ (s t : Nat) : Prop := (s = 20 ∧ t = 40) ∨ (s = 40 ∧ t = 80)
theorem Qb.mrg {far : Nat → Int} {n s t e b : Nat} {f : Fn_} (hst : St_ s t) (h : Qb far n s t e f) (he : e % t = 0) (h1 : e + s < b) (h2 : b ≤ e + t) (hb : b ≤ n) : Mrg far e (e + s) b f := by
  unfold St_ at hst
  refine ⟨fun i j i1 ij j2 => h.o i j ij (by omega) (.inl ?_), fun i j i1 ij j2 => h.o i j ij (by omega) (.inl ?_), fun i j i1 i2 j1 j2 => ?_, by omega, by omega⟩
  · rcases hst with ⟨rfl, rfl⟩ | ⟨rfl, rfl⟩ <;> omega
  · rcases hst with ⟨rfl, rfl⟩ | ⟨rfl, rfl⟩ <;> omega
  · have x := h.z i i1 (by omega); have y := h.z j (by omega) (by omega)
    rcases hst with ⟨rfl, rfl⟩ | ⟨rfl, rfl⟩ <;> omega
theorem Qb.step {far : Nat → Int} {n s t e b : Nat} {f f' : Fn_} (hst : St_ s t) (h : Qb far n s t e f) (he : e % t = 0) (h1 : e + s < b) (h2 : b ≤ e + t) (h3 : b = e + t ∨ b = n) (hb : b ≤ n) (hp : Pm e b f f') (hs : Sd far e b f') : Qb far n s t b f' := by
  unfold St_ at hst
  refine ⟨h.p.trans (hp.mono (Nat.zero_le _) hb), fun i j ij jn q => ?_, fun j jb jn => ?_, fun j j1 jn => ?_⟩
  · by_cases g1 : j < e
    · rw [hp.out (.inl (by omega)), hp.out (.inl g1)]
      refine h.o i j ij jn ?_
      rcases q with q | q
      · exact .inl q
      · exact .inr ⟨g1, q.2⟩
    · by_cases g2 : j < b
      · refine hs i j ?_ ij g2
        rcases hst with ⟨rfl, rfl⟩ | ⟨rfl, rfl⟩ <;> omega
      · have g3 : b ≤ i := by rcases hst with ⟨rfl, rfl⟩ | ⟨rfl, rfl⟩ <;> omega
        rw [hp.out (.inr g3), hp.out (.inr (by omega))]
        refine h.o i j ij jn (.inl ?_)
        rcases q with q | q
        · exact q
        · omega
  · by_cases g1 : j < e
    · rw [hp.out (.inl g1)]; exact h.a j g1 jn
    · obtain ⟨k, k1, k2, k3⟩ := hp.from_ (by omega) jb
      rw [k3]
      have x := h.z k k1 (by omega)
      rcases hst with ⟨rfl, rfl⟩ | ⟨rfl, rfl⟩ <;> omega
  · rw [hp.out (.inr j1)]; exact h.z j (by omega) jn
theorem Qb.skip {far : Nat → Int} {n s t e : Nat} {f : Fn_} (hst : St_ s t) (h : Qb far n s t e f) (he : e % t = 0) (h1 : n ≤ e + s) : Qb far n s t n f := by
  unfold St_ at hst
  refine ⟨h.p, fun i j ij jn q => h.o i j ij jn ?_, fun j _ jn => ?_, fun j j1 jn => by omega⟩
  · rcases hst with ⟨rfl, rfl⟩ | ⟨rfl, rfl⟩ <;> omega
  · by_cases g : j < e
    · exact h.a j g jn
    · have x := h.z j (by omega) jn
      rcases hst with ⟨rfl, rfl⟩ | ⟨rfl, rfl⟩ <;> omega
theorem Qb.next {far : Nat → Int} {n : Nat} {f : Fn_} (h : Qb far n 20 40 n f) : Qb far n 40 80 0 f :=
  ⟨h.p, fun i j ij jn q => h.o i j ij jn (.inr ⟨jn, by omega⟩), fun j jn => by omega, fun j _ jn => h.a j jn jn⟩
theorem Qb.last {far : Nat → Int} {n : Nat} {f : Fn_} (hn : n ≤ 60) (h : Qb far n 40 80 n f) : Sd far 0 n f := fun i j _ ij jn => h.o i j ij jn (.inr ⟨jn, by omega⟩)
theorem Qb.end_ {far : Nat → Int} {n s t : Nat} {f : Fn_} (hst : St_ s t) (hn : n ≤ s) (h : Qb far n s t 0 f) : Sd far 0 n f := fun i j _ ij jn => h.o i j ij jn (.inl (by unfold St_ at hst; rcases hst with ⟨rfl, rfl⟩ | ⟨rfl, rfl⟩ <;> omega))
/-- an order there is -/
theorem order_ex (far : Nat → Int) : ∀ n, ∃ f : Fn_, Pm 0 n id f ∧ Sd far 0 n f
  | 0 => ⟨id, Pm.refl _ _ _, fun i j _ _ h => by omega⟩
  | n + 1 => by
    obtain ⟨f, p, s⟩ := order_ex far n
    have hfn : f n = n := p.out (.inr (Nat.le_refl _))
    have hinj := p.inj (fun x y (h : id x = id y) => h)
    have hne : ∀ q, q < n → f q ≠ f n := fun q hq e => by have := hinj _ _ e; omega
    -- how many are ahead of the new one
    obtain ⟨k, k1, k2, k3⟩ : ∃ k, k ≤ n ∧ (∀ q, q < k → Lt far (f q) (f n)) ∧ (∀ q, k ≤ q → q < n → Lt far (f n) (f q)) := by
      have step : ∀ m, m ≤ n → ∃ k, k ≤ m ∧ (∀ q, q < k → Lt far (f q) (f n)) ∧ (∀ q, k ≤ q → q < m → Lt far (f n) (f q)) := by
        intro m
        induction m with
        | zero => intro _; exact ⟨0, Nat.le_refl _, fun q h => by omega, fun q h h2 => by omega⟩
        | succ m ih =>
          intro hm
          obtain ⟨k, k1, k2, k3⟩ := ih (by omega)
          rcases Lt.tot (far := far) (hne m (by omega)) with hl | hl
          · refine ⟨m + 1, Nat.le_refl _, fun q hq => ?_, fun q h h2 => by omega⟩
            by_cases g : q = m
            · rw [g]; exact hl
            · exact (s q m (Nat.zero_le _) (by omega) (by omega)).trans hl
          · refine ⟨k, by omega, k2, fun q h h2 => ?_⟩
            by_cases g : q = m
            · rw [g]; exact hl
            · exact k3 q h (by omega)
      exact step n (Nat.le_refl _)
    exact ⟨shD f n k, (p.mono (Nat.le_refl _) (by omega)).trans (shD_pm f (n - k) k (by omega) (Nat.zero_le _)), shD_sd s (Nat.zero_le _) k1 (fun q _ => k2 q) k3⟩
noncomputable def ordF (far : Nat → Int) (n : Nat) : Fn_ := Classical.choose (order_ex far n)
theorem ordF_pm (far : Nat → Int) (n : Nat) : Pm 0 n id (ordF far n) := (Classical.choose_spec (order_ex far n)).1
theorem ordF_sd (far : Nat → Int) (n : Nat) : Sd far 0 n (ordF far n) := (Classical.choose_spec (order_ex far n)).2
theorem ordF_eq {far : Nat → Int} {n : Nat} {f : Fn_} (p : Pm 0 n id f) (s : Sd far 0 n f) : ∀ j, j < n → f j = ordF far n j := order_one s (ordF_sd far n) p (ordF_pm far n)
end Go.Proofs.Ytoiccljmdplfgaa.So
