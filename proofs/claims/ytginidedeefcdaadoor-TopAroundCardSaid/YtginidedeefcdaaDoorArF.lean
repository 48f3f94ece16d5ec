/-
  The first day of the week from a day on, and texts of days: the plain facts.
-/
import Derived.Test.YtginidedeefcdaaDoorTo
namespace Go.Proofs.YtginidedeefcdaaDoor.Wk
open Go.ChangeShapes Go.WideShapes Go.ChangeAt Go.RowKit
open Go.Proofs.YtginidedeefcdaaDoor
open Go.Proofs.YtginidedeefcdaaDoor.Wd
open Go.Proofs.YtginidedeefcdaaDoor.Dy
open Go.Proofs.YtginidedeefcdaaDoor.Ab (cutA cutB cutZ cut_hit)
open Go.Lib (occAt index NoOcc index_spec)
set_option linter.unusedVariables false
theorem around_facts {y m n dw : Int} (hy : Cal.okYM y m = true) (h0 : 0 ≤ dw) (h6 : dw ≤ 6) (n1 : 1 ≤ n) (n2 : n ≤ Cal.mlen y m - 6) :
    ∃ a : Int, -719162 ≤ a ∧ a ≤ 2932896 ∧ (inE 2 n dw y m = 0 ∧ inV 2 n dw y m = a) ∧ (inE 3 (n + 6) dw y m = 0 ∧ inV 3 (n + 6) dw y m = a) := by
  have hml := Cal.mlen_bd y m
  obtain ⟨y1, y2, m1, m2⟩ := (Cal.okYM_iff y m).1 hy
  have r1 := Cal.num_range ((Cal.okD_iff y m 1).2 ⟨y1, y2, m1, m2, by omega, by omega⟩)
  have r2 := Cal.num_range ((Cal.okD_iff y m (Cal.mlen y m)).2 ⟨y1, y2, m1, m2, by omega, by omega⟩)
  rw [num_lin y m (Cal.mlen y m)] at r2
  have e2 : inN 2 n dw y m = Cal.num y m 1 + (n - 1) + (dw - Cal.wday (Cal.num y m 1 + (n - 1))) % 7 := by rw [← num_lin]; rfl
  have e3 : inN 3 (n + 6) dw y m = Cal.num y m 1 + (n + 6 - 1) - (Cal.wday (Cal.num y m 1 + (n + 6 - 1)) - dw) % 7 := by rw [← num_lin]; rfl
  have v2 := @in_val 2 n dw y m ⟨by decide, by show (1 : Int) ≤ n; omega, by show n ≤ (31 : Int); omega, h0, h6⟩ hy (by omega)
  have v3 := @in_val 3 (n + 6) dw y m ⟨by decide, by show (1 : Int) ≤ n + 6; omega, by show n + 6 ≤ (31 : Int); omega, h0, h6⟩ hy (by omega)
  rw [e2] at v2; rw [e3] at v3
  unfold Cal.wday at v2 v3
  generalize Cal.num y m 1 = B at *
  have q : B + (n + 6 - 1) - ((B + (n + 6 - 1) + 4) % 7 - dw) % 7 = B + (n - 1) + (dw - (B + (n - 1) + 4) % 7) % 7 := by omega
  rw [q] at v3
  exact ⟨_, by omega, by omega, v2 (by omega), v3 (by omega)⟩
/-- which texts mean a day of the week -/
theorem pickL_no (s : ByteArray) : ∀ (xs : List ByteArray) (i bg ct : Int), (∀ x ∈ xs, x.size < s.size ∨ sameB (x.extract 0 s.size) s = false) → pickL s xs i bg ct = if ct = 1 then bg else -1
  | [], i, bg, ct, _ => rfl
  | x :: r, i, bg, ct, h => by
    unfold pickL
    have ih := pickL_no s r (i + 1) bg ct (fun y hy => h y (List.mem_cons_of_mem _ hy))
    by_cases h1 : x.size < s.size
    · rw [if_pos h1, ih]
    · rw [if_neg h1, if_pos (by rcases h x (List.mem_cons_self ..) with q | q; exact absurd q h1; exact q), ih]
theorem pickL_lt (s : ByteArray) : ∀ (xs : List ByteArray) (i bg ct : Int), 0 ≤ i → bg < i → pickL s xs i bg ct < i + xs.length
  | [], i, bg, ct, h0, h => by unfold pickL; simp; split <;> omega
  | x :: r, i, bg, ct, h0, h => by
    unfold pickL
    have l : ((x :: r).length : Int) = r.length + 1 := by simp
    have a := pickL_lt s r (i + 1) bg ct (by omega) (by omega)
    have b := pickL_lt s r (i + 1) i (ct + 1) (by omega) (by omega)
    split
    · omega
    · split
      · omega
      · split
        · omega
        · omega
theorem pick_lt (s : ByteArray) : pickV s dayNs ≤ 6 := by
  unfold pickV
  split
  · decide
  · have := pickL_lt s dayNs 0 (-1) 0 (by decide) (by decide)
    have : (dayNs.length : Int) = 7 := rfl
    omega
theorem pick_hit {s : ByteArray} (h : 0 ≤ pickV s dayNs) : 0 < s.size ∧ ∃ x ∈ dayNs, s.size ≤ x.size ∧ sameB (x.extract 0 s.size) s = true := by
  unfold pickV at h
  split at h
  · omega
  · rename_i hz
    refine ⟨by omega, ?_⟩
    apply Classical.byContradiction
    intro hn
    have := pickL_no s dayNs 0 (-1) 0 (fun x hx => by
      by_cases h1 : x.size < s.size
      · exact .inl h1
      · right
        cases hb : sameB (x.extract 0 s.size) s with
        | false => rfl
        | true => exact absurd ⟨x, hx, by omega, hb⟩ hn)
    rw [this] at h; simp at h
theorem L_ext (x : ByteArray) (k : Nat) : L (x.extract 0 k) = (L x).take k := by
  show (x.extract 0 k).data.toList = x.data.toList.take k
  simp [ByteArray.extract, ByteArray.copySlice]
theorem smL_take (l : List UInt8) (k : Nat) : smL (l.take k) = (smL l).take k := by unfold smL; rw [List.map_take]
/-- the letters of a text that means a day: small ones' numbers; the first one is no l -/
theorem pick_letters {s : ByteArray} (h : 0 ≤ pickV s dayNs) : s.size ≤ 9 ∧ (∀ c ∈ smL (L s), 97 ≤ c ∧ c ≤ 122) ∧ (∃ c r, smL (L s) = c :: r ∧ c ≠ 108) := by
  obtain ⟨h0, x, hx, hs, he⟩ := pick_hit h
  unfold sameB at he
  rw [L_ext, smL_take] at he
  have he' : (smL (L x)).take s.size = smL (L s) := by simpa using he
  have hal : ∀ z ∈ dayNs, z.size ≤ 9 ∧ (∀ c ∈ smL (L z), 97 ≤ c ∧ c ≤ 122) ∧ (smL (L z)).head? ≠ some 108 ∧ (smL (L z)).head? ≠ none := by decide +kernel
  obtain ⟨q1, q2, q3, q4⟩ := hal x hx
  refine ⟨by omega, fun c hc => q2 c (List.mem_of_mem_take (by rw [he']; exact hc)), ?_⟩
  cases hl : smL (L x) with
  | nil => rw [hl] at q4; exact absurd rfl q4
  | cons c r =>
    rw [hl] at he' q3
    obtain ⟨k, hk⟩ : ∃ k, s.size = k + 1 := ⟨s.size - 1, by omega⟩
    rw [hk] at he'
    exact ⟨c, r.take k, he'.symm, fun e => q3 (by rw [e]; rfl)⟩
theorem sm_gt : smN 62 = 62 := by decide
theorem no_gt {l : List UInt8} (h : ∀ c ∈ smL l, 97 ≤ c ∧ c ≤ 122) : ¬ (62 : UInt8) ∈ l := fun hm => by
  have := h (smN (62 : UInt8).toNat) (List.mem_map.2 ⟨62, hm, rfl⟩)
  rw [show (62 : UInt8).toNat = 62 from rfl, sm_gt] at this
  omega
theorem cut_at {t z : List UInt8} (h : ¬ (62 : UInt8) ∈ t) : Lib.cut (t ++ ([62, 61] ++ z)) [62, 61] = (t, z, true) := by
  have occ : occAt (t ++ ([62, 61] ++ z)) [62, 61] t.length = true := by unfold occAt; rw [List.drop_left]; rfl
  have hi : index (t ++ ([62, 61] ++ z)) [62, 61] = t.length := by
    rcases index_spec (t ++ ([62, 61] ++ z)) [62, 61] with ⟨_, h2⟩ | ⟨i, h1, h2, h3, h4⟩
    · rw [h2 t.length (by simp)] at occ; cases occ
    · rw [h1]
      by_cases e : i = t.length
      · rw [e]
      · exfalso
        by_cases hlt : t.length < i
        · have := h4 t.length hlt
          rw [occ] at this; cases this
        · have hi : i < t.length := by omega
          unfold occAt at h3
          rw [List.drop_append_of_le_length (by omega), List.drop_eq_getElem_cons hi, List.cons_append] at h3
          unfold List.isPrefixOf at h3
          rw [Bool.and_eq_true, beq_iff_eq] at h3
          exact h (by rw [h3.1]; exact List.getElem_mem _)
  unfold Lib.cut
  rw [hi, if_pos (by omega), Int.toNat_natCast, List.take_left, ← List.drop_drop, List.drop_left]
  rfl
theorem num_nT : ∀ n, n < 32 → 1 ≤ n → numV (nT n) = n := by decide +kernel
theorem L_app (a b : ByteArray) : L (a ++ b) = L a ++ L b := by
  show (a ++ b).data.toList = _
  simp
theorem L_inj {a b : ByteArray} (h : L a = L b) : a = b := by
  cases a; cases b; rename_i x y
  have : x = y := by apply Array.ext'; exact h
  rw [this]
/-- what is read of a text behind which a written day's end stands -/
theorem tA_from {text : ByteArray} {n : Nat} (h1 : 1 ≤ n) (h2 : n ≤ 31) (hk : 0 ≤ pickV text dayNs) :
    tK (text ++ (⟨#[62, 61]⟩ ++ nT n)) = 2 ∧ tN (text ++ (⟨#[62, 61]⟩ ++ nT n)) = n ∧ tD (text ++ (⟨#[62, 61]⟩ ++ nT n)) = pickV text dayNs := by
  obtain ⟨p1, p2, c, r, p3, p4⟩ := pick_letters hk
  have hL : L (text ++ (⟨#[62, 61]⟩ ++ nT n)) = L text ++ ([62, 61] ++ Lib.decDigits n) := by rw [L_app, L_app]
  have hc := cut_at (z := Lib.decDigits n) (no_gt p2)
  rw [← hL] at hc
  have hB : cutB (L (text ++ (⟨#[62, 61]⟩ ++ nT n))) gE = true := by unfold Ab.cutB; rw [hc]
  have hA : cutA (L (text ++ (⟨#[62, 61]⟩ ++ nT n))) gE = L text := by unfold Ab.cutA; rw [hc]
  have hZ : cutZ (L (text ++ (⟨#[62, 61]⟩ ++ nT n))) gE = Lib.decDigits n := by unfold Ab.cutZ; rw [hc]
  have hK : tK (text ++ (⟨#[62, 61]⟩ ++ nT n)) = 2 := by
    unfold tK
    rw [if_neg, if_pos hB]
    rintro ⟨q1, q2⟩
    unfold sameB at q2
    have q3 : smL (L ((text ++ (⟨#[62, 61]⟩ ++ nT n)).extract 0 4)) = smL (L bL) := by simpa using q2
    rw [L_ext, smL_take, hL, show smL (L text ++ ([62, 61] ++ Lib.decDigits n)) = smL (L text) ++ smL ([62, 61] ++ Lib.decDigits n) by unfold smL; simp, p3, List.cons_append, List.take_succ_cons] at q3
    have : c = 108 := by
      have : smL (L bL) = 108 :: [97, 115, 116] := by decide +kernel
      rw [this] at q3
      exact (List.cons.inj q3).1
    exact p4 this
  refine ⟨hK, ?_, ?_⟩
  · unfold tN; rw [hK, if_pos rfl, hZ]; exact num_nT n (by omega) h1
  · unfold tD; rw [hK, if_neg (by decide), if_pos rfl, hA]
theorem frT_parts (n : Nat) (d : Int) (h0 : 0 ≤ d) (h6 : d ≤ 6) : (frT n d).extract 0 3 = wtV d ∧ (frT n d).extract 3 (frT n d).size = ⟨#[62, 61]⟩ ++ nT n ∧ (frT n d).size = 5 + (nT n).size := by
  have hz := wt_size d h0 h6
  have hl : (L (wtV d)).length = 3 := by rw [L_len]; exact hz
  have hL : L (frT n d) = L (wtV d) ++ L (⟨#[62, 61]⟩ ++ nT n) := by unfold frT; rw [L_app, L_app, L_app, List.append_assoc]
  refine ⟨L_inj ?_, L_inj ?_, ?_⟩
  · rw [L_ext, hL, ← hl, List.take_left]
  · have : L ((frT n d).extract 3 (frT n d).size) = (L (frT n d)).drop 3 := by
      show ((frT n d).extract 3 (frT n d).size).data.toList = _
      exact Lib.extract_to_end _ _
    rw [this, hL, ← hl, List.drop_left]
  · rw [← L_len, hL, List.length_append, hl, L_app, List.length_append, L_len (nT n)]
    show 3 + (2 + _) = _
    omega
end Go.Proofs.YtginidedeefcdaaDoor.Wk
