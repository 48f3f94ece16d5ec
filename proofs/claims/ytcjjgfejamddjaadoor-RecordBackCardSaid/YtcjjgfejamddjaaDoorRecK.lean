/-
  RECORDS, in plain Lean: a record is had of its bytes, and its bytes of it; what is made has its offsets.
-/
import Derived.Test.YtcjjgfejamddjaaDoorRecE
import Derived.Test.YtcjjgfejamddjaaDoorStpK
namespace Go.Proofs.YtcjjgfejamddjaaDoor.Rec
open Go.ChangeShapes Go.WideShapes Go.ChangeAt Go.RowKit
open Go.Proofs.YtcjjgfejamddjaaDoor
open Go.Proofs.YtcjjgfejamddjaaDoor.Lit
open Go.Proofs.YtcjjgfejamddjaaDoor.Stp (ofV)
set_option linter.unusedVariables false
abbrev rcT (b c d : Int) (p q : St) : ByteArray := ⟨(rcB b c d p q).toArray⟩
theorem ns_lt {x : St} (B : x.Bd) : ∀ z ∈ x.ns, z ≤ 65535 := by
  intro z hz
  have h1 := B.y; have h2 := B.m; have h3 := B.v; have h4 := B.d; have h5 := B.h; have h6 := B.i; have h7 := B.s; have h8 := B.u
  unfold St.ns Stp.stL at hz
  simp only [List.mem_cons, List.not_mem_nil, or_false] at hz
  rcases hz with rfl | rfl | rfl | rfl | rfl | rfl | rfl | rfl <;> omega
theorem stOf_enc {x : St} (B : x.Bd) : stOf ⟨(encN 2 x.ns).toArray⟩ = x := by
  have hn := ns_lt B
  have h1 := B.y; have h2 := B.m; have h3 := B.v; have h4 := B.d; have h5 := B.h; have h6 := B.i; have h7 := B.s; have h8 := B.u
  have e : ∀ k (hk : k < 8), ofV ⟨(encN 2 x.ns).toArray⟩ k = x.ns[k] := fun k hk => Stp.ofV_enc x.ns hn hk
  unfold stOf
  rw [e 0 (by decide), e 1 (by decide), e 2 (by decide), e 3 (by decide), e 4 (by decide), e 5 (by decide), e 6 (by decide), e 7 (by decide)]
  obtain ⟨a1, a2, a3, a4, a5, a6, a7, a8⟩ := x
  simp only [St.ns, Stp.stL, List.getElem_cons_zero, List.getElem_cons_succ, St.mk.injEq]
  dsimp only at h1 h2 h3 h4 h5 h6 h7 h8
  refine ⟨?_, ?_, ?_, ?_, ?_, ?_, ?_, ?_⟩ <;> omega
theorem rcB_len (b c d : Int) (p q : St) : (rcB b c d p q).length = 44 := by
  unfold rcB; simp only [List.length_append, encN_len]; rfl
theorem rcT_size (b c d : Int) (p q : St) : (rcT b c d p q).size = 44 := rcB_len b c d p q
theorem sgn_u4 {b : Int} (h : -2147483648 ≤ b ∧ b ≤ 2147483647) (r : List UInt8) : sgn 4 (leN ((putN (u4 b) 4 ++ r).take 4)) = b := by
  rw [List.take_append_of_le_length (by rw [putN_len]; omega), List.take_of_length_le (by rw [putN_len]; omega), leN_put]
  unfold sgn u4
  have e : ((b % 4294967296).toNat % 256 ^ 4 : Nat) = (b % 4294967296).toNat := Nat.mod_eq_of_lt (by omega)
  rw [e]
  show (if (b % 4294967296).toNat < 2147483648 then ((b % 4294967296).toNat : Int) else ((b % 4294967296).toNat : Int) - 4294967296) = b
  split <;> omega
theorem drop_put (n : Nat) (r : List UInt8) (k : Nat) : (putN n 4 ++ r).drop (4 + k) = r.drop k := by
  rw [List.drop_append, putN_len, List.drop_eq_nil_of_le (by rw [putN_len]; omega), List.nil_append, Nat.add_sub_cancel_left]
theorem rcB_eq (b c d : Int) (p q : St) : rcB b c d p q = putN (u4 b) 4 ++ (putN (u4 c) 4 ++ (putN (u4 d) 4 ++ (encN 2 p.ns ++ encN 2 q.ns))) := by
  unfold rcB
  show (putN (u4 b) 4 ++ (putN (u4 c) 4 ++ (putN (u4 d) 4 ++ []))) ++ encN 2 p.ns ++ encN 2 q.ns = _
  simp only [List.append_assoc, List.append_nil]
theorem oB_rc0 {b c d : Int} {p q : St} (B : RBd b c d p q) : oB (rcT b c d p q) 0 = b := by
  unfold oB; show sgn 4 (leN ((rcB b c d p q).take 4)) = b
  rw [rcB_eq]; exact sgn_u4 B.b _
theorem oB_rc1 {b c d : Int} {p q : St} (B : RBd b c d p q) : oB (rcT b c d p q) 1 = c := by
  unfold oB; show sgn 4 (leN (((rcB b c d p q).drop (4 + 0)).take 4)) = c
  rw [rcB_eq, drop_put]; exact sgn_u4 B.c _
theorem oB_rc2 {b c d : Int} {p q : St} (B : RBd b c d p q) : oB (rcT b c d p q) 2 = d := by
  unfold oB; show sgn 4 (leN (((rcB b c d p q).drop (4 + (4 + 0))).take 4)) = d
  rw [rcB_eq, drop_put, drop_put]; exact sgn_u4 B.d _
theorem oS_rc0 {b c d : Int} {p q : St} (B : RBd b c d p q) : oS (rcT b c d p q) 0 = p := by
  have e : oX (rcT b c d p q) 0 = ⟨(encN 2 p.ns).toArray⟩ := by
    unfold oX; show (⟨(((rcB b c d p q).drop (4 + (4 + (4 + 0)))).take 16).toArray⟩ : ByteArray) = _
    rw [rcB_eq, drop_put, drop_put, drop_put, List.drop_zero, List.take_append_of_le_length (by rw [encN_len]; exact Nat.le_refl 16), List.take_of_length_le (by rw [encN_len]; exact Nat.le_refl 16)]
  unfold oS; rw [e]; exact stOf_enc B.p
theorem oS_rc1 {b c d : Int} {p q : St} (B : RBd b c d p q) : oS (rcT b c d p q) 1 = q := by
  have e : oX (rcT b c d p q) 1 = ⟨(encN 2 q.ns).toArray⟩ := by
    unfold oX; show (⟨(((rcB b c d p q).drop (4 + (4 + (4 + 16)))).take 16).toArray⟩ : ByteArray) = _
    rw [rcB_eq, drop_put, drop_put, drop_put, List.drop_append, List.drop_eq_nil_of_le (by rw [encN_len]; exact Nat.le_refl 16), List.nil_append, encN_len, List.take_of_length_le]
    · rfl
    · rw [List.length_drop, encN_len]; exact Nat.le_refl 16
  unfold oS; rw [e]; exact stOf_enc B.q
/-- of the bytes of a record -/
theorem oOk_rc {b c d : Int} {p q : St} (B : RBd b c d p q) : oOk (rcT b c d p q) = rcOk b c d p q := by
  unfold oOk
  rw [oB_rc0 B, oB_rc1 B, oB_rc2 B, oS_rc0 B, oS_rc1 B, rcT_size]; rfl
theorem oV_rc {b c d : Int} {p q : St} (B : RBd b c d p q) (h : rcOk b c d p q = true) : oV (rcT b c d p q) = rcV b c d p q := by
  unfold oV
  rw [if_pos ((oOk_rc B).trans h), oB_rc0 B, oB_rc1 B, oB_rc2 B, oS_rc0 B, oS_rc1 B]
/-- the bytes of what is had of bytes -/
theorem put_le4 (a b c d : UInt8) : putN (u4 (sgn 4 (leN [a, b, c, d]))) 4 = [a, b, c, d] := by
  have ha := a.toNat_lt
  have hb := b.toNat_lt
  have hc := c.toNat_lt
  have hd := d.toNat_lt
  have e : leN [a, b, c, d] = a.toNat + 256 * b.toNat + 65536 * c.toNat + 16777216 * d.toNat := by simp only [leN]; omega
  have e2 : u4 (sgn 4 (leN [a, b, c, d])) = a.toNat + 256 * b.toNat + 65536 * c.toNat + 16777216 * d.toNat := by
    rw [e]; unfold u4 sgn
    show ((if a.toNat + 256 * b.toNat + 65536 * c.toNat + 16777216 * d.toNat < 2147483648 then ((a.toNat + 256 * b.toNat + 65536 * c.toNat + 16777216 * d.toNat : Nat) : Int) else ((a.toNat + 256 * b.toNat + 65536 * c.toNat + 16777216 * d.toNat : Nat) : Int) - 4294967296) % 4294967296).toNat = _
    split <;> omega
  rw [e2]
  have h0 : byteN (a.toNat + 256 * b.toNat + 65536 * c.toNat + 16777216 * d.toNat) 0 = a := by
    apply UInt8.toNat_inj.1; unfold byteN; simp <;> omega
  have h1 : byteN (a.toNat + 256 * b.toNat + 65536 * c.toNat + 16777216 * d.toNat) 1 = b := by
    apply UInt8.toNat_inj.1; unfold byteN; simp <;> omega
  have h2 : byteN (a.toNat + 256 * b.toNat + 65536 * c.toNat + 16777216 * d.toNat) 2 = c := by
    apply UInt8.toNat_inj.1; unfold byteN; simp <;> omega
  have h3 : byteN (a.toNat + 256 * b.toNat + 65536 * c.toNat + 16777216 * d.toNat) 3 = d := by
    apply UInt8.toNat_inj.1; unfold byteN; simp <;> omega
  show [byteN _ 0, byteN _ 1, byteN _ 2, byteN _ 3] = _
  rw [h0, h1, h2, h3]
theorem ns_stOf (x : ByteArray) (hx : x.size = 16) : encN 2 (stOf x).ns = LB x := Stp.of_back x hx
theorem rc_back (s : ByteArray) (hs : s.size = 44) : rcT (oB s 0) (oB s 1) (oB s 2) (oS s 0) (oS s 1) = s := by
  have hl : (LB s).length = 44 := by rw [LB_len, hs]
  have x0 : (oX s 0).size = 16 := by unfold oX; show (((LB s).drop 12).take 16).length = 16; rw [List.length_take, List.length_drop, hl]; rfl
  have x1 : (oX s 1).size = 16 := by unfold oX; show (((LB s).drop 28).take 16).length = 16; rw [List.length_take, List.length_drop, hl]; rfl
  have e : rcB (oB s 0) (oB s 1) (oB s 2) (oS s 0) (oS s 1) = LB s := by
    rw [rcB_eq]
    unfold oS
    rw [ns_stOf _ x0, ns_stOf _ x1]
    show putN (u4 (sgn 4 (leN ((LB s).take 4)))) 4 ++ (putN (u4 (sgn 4 (leN (((LB s).drop 4).take 4)))) 4 ++ (putN (u4 (sgn 4 (leN (((LB s).drop 8).take 4)))) 4 ++ (((LB s).drop 12).take 16 ++ ((LB s).drop 28).take 16))) = LB s
    have h28 : ((LB s).drop 28).take 16 = (LB s).drop 28 := List.take_of_length_le (by rw [List.length_drop, hl]; exact Nat.le_refl 16)
    have h12 : ((LB s).drop 12).take 16 ++ (LB s).drop 28 = (LB s).drop 12 := by
      conv => rhs; rw [← List.take_append_drop 16 ((LB s).drop 12), List.drop_drop]
    rw [h28, h12]
    generalize LB s = l at *
    match l, hl with
    | b0 :: b1 :: b2 :: b3 :: b4 :: b5 :: b6 :: b7 :: b8 :: b9 :: b10 :: b11 :: r, _ =>
      show putN (u4 (sgn 4 (leN [b0, b1, b2, b3]))) 4 ++ (putN (u4 (sgn 4 (leN [b4, b5, b6, b7]))) 4 ++ (putN (u4 (sgn 4 (leN [b8, b9, b10, b11]))) 4 ++ r)) = _
      rw [put_le4, put_le4, put_le4]; rfl
  unfold rcT; rw [e]
theorem oOk_iff {s : ByteArray} : oOk s = true ↔ s.size = 44 ∧ rcOk (oB s 0) (oB s 1) (oB s 2) (oS s 0) (oS s 1) = true := by
  unfold oOk; rw [Bool.and_eq_true, decide_eq_true_eq]
theorem o_rbd (s : ByteArray) : RBd (oB s 0) (oB s 1) (oB s 2) (oS s 0) (oS s 1) := ⟨oB_bd s 0, oB_bd s 1, oB_bd s 2, stOf_bd _, stOf_bd _⟩
theorem rcOk_st {b c d : Int} {p q : St} (h : rcOk b c d p q = true) : p.chk = 0 ∧ q.chk = 0 := by
  unfold rcOk at h
  rw [Bool.and_eq_true, Bool.and_eq_true, Bool.and_eq_true, beq_iff_eq, beq_iff_eq] at h
  exact ⟨h.2.1, beq_iff_eq.1 h.2.2.1⟩
/-- what is made -/
theorem mk_offs {x y : Int} {a b : St} (h : mkOk x y a b = true) : offS (-(x / 60)) 0 = x ∧ offS (-(x / 60)) ((x - y) / 60) = y ∧ rcOk (-(x / 60)) 0 ((x - y) / 60) a b = true ∧ okO x = true ∧ okO y = true := by
  unfold mkOk at h
  rw [Bool.and_eq_true, Bool.and_eq_true] at h
  obtain ⟨⟨h1, h2⟩, h3⟩ := h
  have g1 := okO_iff h1
  have g2 := okO_iff h2
  refine ⟨?_, ?_, h3, h1, h2⟩ <;> unfold offS <;> omega
theorem mk_rbd {x y : Int} {a b : St} (h : mkOk x y a b = true) (Ba : a.Bd) (Bb : b.Bd) : RBd (-(x / 60)) 0 ((x - y) / 60) a b := by
  obtain ⟨_, _, _, h1, h2⟩ := mk_offs h
  have g1 := okO_iff h1
  have g2 := okO_iff h2
  exact ⟨by omega, by omega, by omega, Ba, Bb⟩
theorem mkE_ok {x y : Int} {a b : St} : mkE x y a b = 0 ↔ mkOk x y a b = true := by
  unfold mkE mkOk
  cases h1 : (okO x && okO y) <;> cases h2 : rcOk (-(x / 60)) 0 ((x - y) / 60) a b <;> simp
theorem pl_offs {x : Int} (h : okO x = true) : offS (-(x / 60)) 0 = x ∧ RBd (-(x / 60)) 0 0 St.nil St.nil := by
  have g1 := okO_iff h
  refine ⟨by unfold offS; omega, by omega, by omega, by omega, ?_, ?_⟩ <;> exact ⟨by decide, by decide, by decide, by decide, by decide, by decide, by decide, by decide⟩
end Go.Proofs.YtcjjgfejamddjaaDoor.Rec
