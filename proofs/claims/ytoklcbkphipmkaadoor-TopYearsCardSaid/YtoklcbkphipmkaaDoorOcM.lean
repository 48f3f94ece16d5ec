/-
  WHEN RULES OCCUR, IN PLAIN LEAN: events of years, in order; the last one that is sought.
-/
import Derived.Test.YtoklcbkphipmkaaDoorVaC
namespace Go.Proofs.YtoklcbkphipmkaaDoor.Oc
open Go.Proofs.YtoklcbkphipmkaaDoor.Sr
open Go.Proofs.YtoklcbkphipmkaaDoor.Mo (nomV nomE mE)
open Go.Proofs.YtoklcbkphipmkaaDoor.Va (RuOk)
set_option linter.unusedVariables false
/-- a rule's place, and a year -/
abbrev Pe := Nat × Int
def rT (rs : List Ru) (e : Pe) : Int := nomV e.2 (ru_ rs e.1).mo (ru_ rs e.1).kd (ru_ rs e.1).dn (ru_ rs e.1).dw (ru_ rs e.1).sec (ru_ rs e.1).ck
def rE (rs : List Ru) (e : Pe) : Int := nomE e.2 (ru_ rs e.1).mo (ru_ rs e.1).kd (ru_ rs e.1).dn (ru_ rs e.1).dw (ru_ rs e.1).sec (ru_ rs e.1).ck
def cmp3 (a b : Int) : Int := if a < b then -1 else if b < a then 1 else 0
def ordV (rs : List Ru) (e o : Pe) : Int := if cmp3 (rT rs e) (rT rs o) = 0 then cmp3 e.1 o.1 else cmp3 (rT rs e) (rT rs o)
def ltE (rs : List Ru) (e o : Pe) : Prop := rT rs e < rT rs o ∨ (rT rs e = rT rs o ∧ e.1 < o.1)
theorem ordV_lt (rs : List Ru) (e o : Pe) : ordV rs e o < 0 ↔ ltE rs e o := by
  unfold ordV ltE cmp3
  constructor
  · intro h; split at h <;> split at h <;> (try split at h) <;> omega
  · rintro (h | ⟨h, h2⟩)
    · simp [h]
    · have h1 : ¬ rT rs e < rT rs o := by omega
      have h3 : ¬ rT rs o < rT rs e := by omega
      have h4 : (e.1 : Int) < (o.1 : Int) := by omega
      simp [h1, h3, h4]
theorem lt_trans_ {rs : List Ru} {a b c : Pe} (h : ltE rs a b) (h2 : ltE rs b c) : ltE rs a c := by
  unfold ltE at *; omega
theorem lt_irr {rs : List Ru} {a : Pe} : ¬ ltE rs a a := by unfold ltE; omega
theorem le_lt {rs : List Ru} {a b c : Pe} (h : ¬ ltE rs b a) (h2 : ltE rs b c) : ltE rs a c := by
  unfold ltE at *; omega
theorem lt_le {rs : List Ru} {a b c : Pe} (h : ltE rs a b) (h2 : ¬ ltE rs c b) : ltE rs a c := by
  unfold ltE at *; omega
/-- places of rules that occur in some years -/
def pls (rs : List Ru) : List Nat := (List.range rs.length).filter fun i => decide (rE rs (i, 2000) = 0)
def plK (rs : List Ru) (k : Nat) : List Nat := (List.range k).filter fun i => decide (rE rs (i, 2000) = 0)
theorem plK_succ (rs : List Ru) (k : Nat) : plK rs (k + 1) = plK rs k ++ if rE rs (k, 2000) = 0 then [k] else [] := by
  unfold plK; rw [List.range_succ, List.filter_append]
  congr 1
  by_cases h : rE rs (k, 2000) = 0 <;> simp [h]
theorem plK_len (rs : List Ru) (k : Nat) : (plK rs k).length ≤ k := by
  have := List.length_filter_le (fun i => decide (rE rs (i, 2000) = 0)) (List.range k)
  rw [List.length_range] at this; exact this
theorem pls_lt {rs : List Ru} {i : Nat} (h : i ∈ pls rs) : i < rs.length := List.mem_range.1 (List.mem_filter.1 h).1
def occB (rs : List Ru) (y : Int) (p : Nat) : Bool := decide ((ru_ rs p).fr ≤ y ∧ y ≤ (ru_ rs p).tt ∧ rE rs (p, y) = 0)
/-- a rule occurs in a year -/
structure Occ (rs : List Ru) (e : Pe) : Prop where
  p : e.1 ∈ pls rs
  y : (ru_ rs e.1).fr ≤ e.2 ∧ e.2 ≤ (ru_ rs e.1).tt
  e : rE rs e = 0
def rawY (rs : List Ru) (y : Int) : List Pe := ((pls rs).filter (occB rs y)).map fun p => (p, y)
theorem mem_raw {rs : List Ru} {y : Int} {e : Pe} : e ∈ rawY rs y ↔ Occ rs e ∧ e.2 = y := by
  unfold rawY
  rw [List.mem_map]
  constructor
  · rintro ⟨p, hp, rfl⟩
    obtain ⟨h1, h2⟩ := List.mem_filter.1 hp
    have h3 := of_decide_eq_true h2
    exact ⟨⟨h1, ⟨h3.1, h3.2.1⟩, h3.2.2⟩, rfl⟩
  · rintro ⟨h, rfl⟩
    exact ⟨e.1, List.mem_filter.2 ⟨h.p, decide_eq_true ⟨h.y.1, h.y.2, h.e⟩⟩, rfl⟩
theorem raw_len (rs : List Ru) (y : Int) : (rawY rs y).length ≤ rs.length := by
  unfold rawY
  rw [List.length_map]
  exact Nat.le_trans (List.length_filter_le _ _) (plK_len rs rs.length)
/-- the events of a year, in order -/
structure IsY (rs : List Ru) (y : Int) (L : List Pe) : Prop where
  pm : L.Perm (rawY rs y)
  st : ∀ i j, i < j → j < L.length → ¬ ltE rs (L.getD j (0, 0)) (L.getD i (0, 0))
theorem IsY.mem {rs : List Ru} {y : Int} {L : List Pe} (h : IsY rs y L) {e : Pe} : e ∈ L ↔ Occ rs e ∧ e.2 = y := by rw [h.pm.mem_iff, mem_raw]
theorem IsY.len {rs : List Ru} {y : Int} {L : List Pe} (h : IsY rs y L) : L.length ≤ rs.length := by rw [h.pm.length_eq]; exact raw_len rs y
theorem at_mem {L : List Pe} {i : Nat} (h : i < L.length) : L.getD i (0, 0) ∈ L := by
  rw [List.getD_eq_getElem?_getD, List.getElem?_eq_getElem h]; exact List.getElem_mem h
theorem mem_at {L : List Pe} {e : Pe} (h : e ∈ L) : ∃ i, i < L.length ∧ L.getD i (0, 0) = e := by
  obtain ⟨i, hi, rfl⟩ := List.getElem_of_mem h
  exact ⟨i, hi, by rw [List.getD_eq_getElem?_getD, List.getElem?_eq_getElem hi]; rfl⟩
/-- all rules are right -/
def Ok (rs : List Ru) : Prop := ∀ r ∈ rs, RuOk r
theorem Ok.at_ {rs : List Ru} (h : Ok rs) {i : Nat} (hi : i < rs.length) : RuOk (ru_ rs i) := h _ (by
  unfold ru_; rw [List.getD_eq_getElem?_getD, List.getElem?_eq_getElem hi]; exact List.getElem_mem hi)
theorem occ_year {rs : List Ru} (h : Ok rs) {e : Pe} (he : Occ rs e) : 1 ≤ e.2 ∧ e.2 ≤ 9999 := by
  have := (h.at_ (pls_lt he.p)).ye
  have := he.y
  omega
/-- how near to its year an event is -/
theorem nom_near {y m k n dw s c : Int} (h : nomE y m k n dw s c = 0) : (Cal.first y - 13) * 86400 ≤ nomV y m k n dw s c ∧ nomV y m k n dw s c < (Cal.first (y + 1) + 13) * 86400 := by
  have hm : mE s c = 0 ∨ mE s c = 2 := by unfold mE; split <;> simp
  unfold nomE at h
  rcases hm.symm with hm | hm
  · rw [hm, if_pos rfl] at h; cases h
  rw [hm, if_neg (by decide)] at h
  have hi : Dy.inE k n dw y m = 0 := by
    by_cases q : Dy.inE k n dw y m = 0
    · exact q
    · rw [if_pos q] at h; exact h
  rw [if_neg (by rw [hi]; decide)] at h
  have hv : nomV y m k n dw s c = Clk.atV (Dy.inV k n dw y m) s := Mo.nomV_yes (by unfold nomE; rw [hm, if_neg (by decide), if_neg (by rw [hi]; decide)]; exact h)
  have ha : Clk.atOk (Dy.inV k n dw y m) s = true := by
    unfold Clk.atE at h
    by_cases q : Clk.atOk (Dy.inV k n dw y m) s = true
    · exact q
    · rw [if_neg q] at h; cases h
  rw [hv]
  unfold Clk.atV
  rw [if_pos ha]
  unfold Clk.atOk Clk.okS at ha
  rw [Bool.and_eq_true, decide_eq_true_iff] at ha
  have hs := ha.2
  rw [Dy.inV_yes hi]
  unfold Dy.inE at hi
  have hd : Dy.dE k n dw = 0 ∨ Dy.dE k n dw = 2 := by unfold Dy.dE; split <;> simp
  rcases hd.symm with hd | hd
  · rw [hd, if_pos rfl] at hi; cases hi
  rw [hd, if_neg (by decide)] at hi
  have hl : Cal.lenE y m ≠ 1 := fun q => by rw [if_pos q] at hi; cases hi
  rw [if_neg hl] at hi
  have hn : ¬ Cal.mlen y m < n := fun q => by rw [if_pos q] at hi; cases hi
  have hok : Cal.okYM y m = true := by
    by_cases q : Cal.okYM y m = true
    · exact q
    · exact absurd (by unfold Cal.lenE; rw [if_neg q]) hl
  have hym := (Cal.okYM_iff y m).1 hok
  have hdd : Dy.dOk k n dw = true := by
    unfold Dy.dE at hd
    by_cases q : Dy.dOk k n dw = true
    · exact q
    · rw [if_neg q] at hd; cases hd
  have hD : Cal.okD y m (Dy.inOf k n y m) = true := by
    rw [Cal.okD_iff]
    have hb := Cal.mlen_bd y m
    unfold Dy.dOk at hdd
    rw [decide_eq_true_iff] at hdd
    unfold Dy.dLo at hdd
    unfold Dy.inOf
    by_cases q : k = 1
    · rw [if_pos q]; omega
    · rw [if_neg q] at hdd ⊢; omega
  have hb := Cal.num_bd y m _ hD
  unfold Dy.inN
  dsimp only
  have e1 := Int.emod_nonneg (dw - Cal.wday (Cal.num y m (Dy.inOf k n y m))) (show (7 : Int) ≠ 0 by decide)
  have e2 := Int.emod_lt_of_pos (dw - Cal.wday (Cal.num y m (Dy.inOf k n y m))) (show (0 : Int) < 7 by decide)
  have e3 := Int.emod_nonneg (Cal.wday (Cal.num y m (Dy.inOf k n y m)) - dw) (show (7 : Int) ≠ 0 by decide)
  have e4 := Int.emod_lt_of_pos (Cal.wday (Cal.num y m (Dy.inOf k n y m)) - dw) (show (0 : Int) < 7 by decide)
  generalize Cal.num y m (Dy.inOf k n y m) = b at *
  generalize (dw - Cal.wday b) % 7 = p at *
  generalize (Cal.wday b - dw) % 7 = q at *
  generalize Cal.first y = f at *
  generalize Cal.first (y + 1) = g at *
  split
  · omega
  · split <;> omega
theorem occ_near {rs : List Ru} {e : Pe} (h : Occ rs e) : (Cal.first e.2 - 13) * 86400 ≤ rT rs e ∧ rT rs e < (Cal.first (e.2 + 1) + 13) * 86400 := nom_near h.e
/-- events of a year are ahead of those of the next year but one -/
theorem far {rs : List Ru} {e o : Pe} (he : Occ rs e) (ho : Occ rs o) (h : e.2 ≤ o.2 - 2) : ltE rs e o := by
  have h1 := (occ_near he).2
  have h2 := (occ_near ho).1
  have h3 := Cal.first_mono (e.2 + 1) o.2 (by omega)
  left
  generalize Cal.first (e.2 + 1) = a at *
  generalize Cal.first o.2 = b at *
  omega
/-- the last year up to one that is one of a rule's -/
def covS (rs : List Ru) (top : Int) (y : Int) (p : Nat) : Int := if (ru_ rs p).fr ≤ top then (if y < (if top < (ru_ rs p).tt then top else (ru_ rs p).tt) then (if top < (ru_ rs p).tt then top else (ru_ rs p).tt) else y) else y
def covK (rs : List Ru) (top : Int) (k : Nat) : Int := ((pls rs).take k).foldl (covS rs top) 0
def covV (rs : List Ru) (top : Int) : Int := (pls rs).foldl (covS rs top) 0
theorem covK_succ (rs : List Ru) (top : Int) (k : Nat) (h : k < (pls rs).length) : covK rs top (k + 1) = covS rs top (covK rs top k) ((pls rs).getD k 0) := by
  unfold covK; rw [List.take_succ_eq_append_getElem h, List.foldl_append]
  show covS _ _ _ _ = _
  congr 1
  rw [List.getD_eq_getElem?_getD, List.getElem?_eq_getElem h]; rfl
theorem covK_all (rs : List Ru) (top : Int) : covK rs top (pls rs).length = covV rs top := by unfold covK covV; rw [List.take_length]
theorem covS_bd {rs : List Ru} {top y : Int} {p : Nat} (h : 0 ≤ y ∧ y ≤ top) : 0 ≤ covS rs top y p ∧ covS rs top y p ≤ top ∧ y ≤ covS rs top y p := by
  unfold covS; repeat' split
  all_goals omega
theorem cov_fold {rs : List Ru} {top : Int} (l : List Nat) : ∀ y, 0 ≤ y ∧ y ≤ top → 0 ≤ l.foldl (covS rs top) y ∧ l.foldl (covS rs top) y ≤ top ∧ y ≤ l.foldl (covS rs top) y ∧
    ∀ p ∈ l, (ru_ rs p).fr ≤ top → (∀ z, z ≤ top → z ≤ (ru_ rs p).tt → z ≤ l.foldl (covS rs top) y) := by
  induction l with
  | nil => intro y h; exact ⟨h.1, h.2, Int.le_refl _, fun p hp => by cases hp⟩
  | cons a l ih =>
    intro y h
    have hb := covS_bd (rs := rs) (p := a) h
    obtain ⟨h1, h2, h3, h4⟩ := ih _ ⟨hb.1, hb.2.1⟩
    refine ⟨h1, h2, by have := hb.2.2; exact Int.le_trans this h3, fun p hp hf z hz hz2 => ?_⟩
    rcases List.mem_cons.1 hp with rfl | hp
    · refine Int.le_trans ?_ h3
      unfold covS
      rw [if_pos hf]
      repeat' split
      all_goals omega
    · exact h4 p hp hf z hz hz2
theorem cov_bd {rs : List Ru} {top : Int} (h : 0 ≤ top) : 0 ≤ covV rs top ∧ covV rs top ≤ top := by
  have := cov_fold (rs := rs) (top := top) (pls rs) 0 ⟨Int.le_refl _, h⟩
  exact ⟨this.1, this.2.1⟩
theorem covK_bd {rs : List Ru} {top : Int} (h : 0 ≤ top) (k : Nat) : 0 ≤ covK rs top k ∧ covK rs top k ≤ top := by
  have := cov_fold (rs := rs) (top := top) ((pls rs).take k) 0 ⟨Int.le_refl _, h⟩
  exact ⟨this.1, this.2.1⟩
theorem cov_ge {rs : List Ru} {top : Int} (h : 0 ≤ top) {e : Pe} (he : Occ rs e) (hy : e.2 ≤ top) : e.2 ≤ covV rs top := by
  have := (cov_fold (rs := rs) (top := top) (pls rs) 0 ⟨Int.le_refl _, h⟩).2.2.2 e.1 he.p (by have := he.y; omega) e.2 hy he.y.2
  exact this
/-- the last event up to a year that is sought -/
def LastP (rs : List Ru) (top : Int) (Q : Pe → Prop) : Option Pe → Prop
  | none => ∀ e, Occ rs e → e.2 ≤ top → ¬ Q e
  | some b => Occ rs b ∧ b.2 ≤ top ∧ Q b ∧ ∀ e, Occ rs e → e.2 ≤ top → Q e → ¬ ltE rs b e
/-- .. of years behind one -/
def LastJ (rs : List Ru) (top : Int) (Q : Pe → Prop) (y : Int) : Option Pe → Prop
  | none => ∀ e, Occ rs e → y < e.2 → e.2 ≤ top → ¬ Q e
  | some b => Occ rs b ∧ y < b.2 ∧ b.2 ≤ top ∧ Q b ∧ ∀ e, Occ rs e → y < e.2 → e.2 ≤ top → Q e → ¬ ltE rs b e
theorem LastJ.start (rs : List Ru) (top : Int) (Q : Pe → Prop) : LastJ rs top Q top none := fun e _ h h2 => by omega
theorem LastJ.done0 {rs : List Ru} {top : Int} {Q : Pe → Prop} {y : Int} {b : Option Pe} (hok : Ok rs) (hy : y < 1) (h : LastJ rs top Q y b) : LastP rs top Q b := by
  cases b with
  | none => exact fun e he h2 => h e he (by have := (occ_year hok he).1; omega) h2
  | some b => exact ⟨h.1, h.2.2.1, h.2.2.2.1, fun e he h2 hq => h.2.2.2.2 e he (by have := (occ_year hok he).1; omega) h2 hq⟩
theorem LastJ.done {rs : List Ru} {top : Int} {Q : Pe → Prop} {y : Int} {b : Pe} (hy : y < b.2 - 1) (h : LastJ rs top Q y (some b)) : LastP rs top Q (some b) := by
  refine ⟨h.1, h.2.2.1, h.2.2.2.1, fun e he h2 hq hl => ?_⟩
  by_cases q : y < e.2
  · exact h.2.2.2.2 e he q h2 hq hl
  · exact lt_irr (lt_trans_ hl (far he h.1 (by omega)))
theorem LastJ.skip {rs : List Ru} {top : Int} {Q : Pe → Prop} {y y' : Int} {b : Option Pe} (h : LastJ rs top Q y b) (hy : y' ≤ y) (hno : ∀ e, Occ rs e → y' < e.2 → ¬ e.2 ≤ y) : LastJ rs top Q y' b := by
  cases b with
  | none => exact fun e he h1 h2 => h e he (by have := hno e he h1; omega) h2
  | some b => exact ⟨h.1, by have := h.2.1; omega, h.2.2.1, h.2.2.2.1, fun e he h1 h2 hq => h.2.2.2.2 e he (by have := hno e he h1; omega) h2 hq⟩
/-- sought ones are ahead of those that are not -/
def Down (rs : List Ru) (Q : Pe → Prop) : Prop := ∀ a b, Q b → ¬ ltE rs b a → Q a
section
variable {rs : List Ru} {top : Int} {Q : Pe → Prop} {y : Int} {L : List Pe}
theorem LastJ.none_here {b : Option Pe} (h : LastJ rs top Q y b) (hL : IsY rs y L) (hn : ∀ i, i < L.length → ¬ Q (L.getD i (0, 0))) : LastJ rs top Q (y - 1) b := by
  have hno : ∀ e, Occ rs e → e.2 = y → ¬ Q e := fun e he hy hq => by
    obtain ⟨i, hi, rfl⟩ := mem_at (hL.mem.2 ⟨he, hy⟩)
    exact hn i hi hq
  cases b with
  | none =>
    intro e he h1 h2
    by_cases q : e.2 = y
    · exact hno e he q
    · exact h e he (by omega) h2
  | some b =>
    refine ⟨h.1, by have := h.2.1; omega, h.2.2.1, h.2.2.2.1, fun e he h1 h2 hq => ?_⟩
    by_cases q : e.2 = y
    · exact absurd hq (hno e he q)
    · exact h.2.2.2.2 e he (by omega) h2 hq
theorem here_max (hL : IsY rs y L) {n : Nat} (hn : 0 < n) (hnl : n ≤ L.length) (hno : ∀ i, n ≤ i → i < L.length → ¬ Q (L.getD i (0, 0))) {e : Pe} (he : Occ rs e) (hy : e.2 = y) (hq : Q e) : ¬ ltE rs (L.getD (n - 1) (0, 0)) e := by
  obtain ⟨i, hi, rfl⟩ := mem_at (hL.mem.2 ⟨he, hy⟩)
  have hin : i < n := by
    rcases Nat.lt_or_ge i n with g | g
    · exact g
    · exact absurd hq (hno i g hi)
  by_cases q : i = n - 1
  · rw [q]; exact lt_irr
  · exact hL.st i (n - 1) (by omega) (by omega)
theorem LastJ.first {n : Nat} (h : LastJ rs top Q y none) (hy : y ≤ top) (hL : IsY rs y L) (hn : 0 < n) (hnl : n ≤ L.length) (hq : Q (L.getD (n - 1) (0, 0))) (hno : ∀ i, n ≤ i → i < L.length → ¬ Q (L.getD i (0, 0))) :
    LastJ rs top Q (y - 1) (some (L.getD (n - 1) (0, 0))) := by
  obtain ⟨ho, hy2⟩ := hL.mem.1 (at_mem (L := L) (i := n - 1) (by omega))
  refine ⟨ho, by omega, by omega, hq, fun e he h1 h2 hqe => ?_⟩
  by_cases q : e.2 = y
  · exact here_max hL hn hnl hno he q hqe
  · exact absurd hqe (h e he (by omega) h2)
theorem LastJ.more {n : Nat} {b : Pe} (h : LastJ rs top Q y (some b)) (hy : y ≤ top) (hL : IsY rs y L) (hn : 0 < n) (hnl : n ≤ L.length) (hq : Q (L.getD (n - 1) (0, 0))) (hno : ∀ i, n ≤ i → i < L.length → ¬ Q (L.getD i (0, 0))) (hlt : ltE rs b (L.getD (n - 1) (0, 0))) :
    LastJ rs top Q (y - 1) (some (L.getD (n - 1) (0, 0))) := by
  obtain ⟨ho, hy2⟩ := hL.mem.1 (at_mem (L := L) (i := n - 1) (by omega))
  refine ⟨ho, by omega, by omega, hq, fun e he h1 h2 hqe => ?_⟩
  by_cases q : e.2 = y
  · exact here_max hL hn hnl hno he q hqe
  · exact fun hl => h.2.2.2.2 e he (by omega) h2 hqe (lt_trans_ hlt hl)
theorem LastJ.less {n : Nat} {b : Pe} (h : LastJ rs top Q y (some b)) (hL : IsY rs y L) (hn : 0 < n) (hnl : n ≤ L.length) (hno : ∀ i, n ≤ i → i < L.length → ¬ Q (L.getD i (0, 0))) (hlt : ¬ ltE rs b (L.getD (n - 1) (0, 0))) :
    LastJ rs top Q (y - 1) (some b) := by
  refine ⟨h.1, by have := h.2.1; omega, h.2.2.1, h.2.2.2.1, fun e he h1 h2 hqe => ?_⟩
  by_cases q : e.2 = y
  · exact fun hl => hlt (lt_le hl (here_max hL hn hnl hno he q hqe))
  · exact h.2.2.2.2 e he (by omega) h2 hqe
end
def svV (rs : List Ru) : Option Pe → Int
  | none => 0
  | some b => (ru_ rs b.1).sv
/-- whoever seeks the same finds the same saved -/
theorem last_same {rs : List Ru} {t1 t2 : Int} {Q1 Q2 : Pe → Prop} {r1 r2 : Option Pe} (h1 : LastP rs t1 Q1 r1) (h2 : LastP rs t2 Q2 r2) (hq : ∀ e, Occ rs e → ((e.2 ≤ t1 ∧ Q1 e) ↔ (e.2 ≤ t2 ∧ Q2 e))) : svV rs r1 = svV rs r2 := by
  cases r1 with
  | none =>
    cases r2 with
    | none => rfl
    | some b => exact absurd ((hq b h2.1).2 ⟨h2.2.1, h2.2.2.1⟩).2 (h1 b h2.1 ((hq b h2.1).2 ⟨h2.2.1, h2.2.2.1⟩).1)
  | some a =>
    cases r2 with
    | none => exact absurd ((hq a h1.1).1 ⟨h1.2.1, h1.2.2.1⟩).2 (h2 a h1.1 ((hq a h1.1).1 ⟨h1.2.1, h1.2.2.1⟩).1)
    | some b =>
      have e1 := (hq b h2.1).2 ⟨h2.2.1, h2.2.2.1⟩
      have e2 := (hq a h1.1).1 ⟨h1.2.1, h1.2.2.1⟩
      have g1 := h1.2.2.2 b h2.1 e1.1 e1.2
      have g2 := h2.2.2.2 a h1.1 e2.1 e2.2
      have : a.1 = b.1 := by unfold ltE at g1 g2; omega
      show (ru_ rs a.1).sv = (ru_ rs b.1).sv
      rw [this]
end Go.Proofs.YtoklcbkphipmkaaDoor.Oc
