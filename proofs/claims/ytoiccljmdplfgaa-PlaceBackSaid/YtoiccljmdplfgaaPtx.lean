/-
  place.Text, walked.
-/
import Derived.Test.YtoiccljmdplfgaaPtm
import Derived.Test.YtoiccljmdplfgaaJoin
import Derived.Lib.Builder
namespace Go.Proofs.Ytoiccljmdplfgaa.Nr
open Go.ChangeShapes Go.WideShapes Go.ChangeAt Go.RowKit Go.Shelf
open Go.Proofs.Ytoiccljmdplfgaa
open Go.Proofs.Ytoiccljmdplfgaa.Wd
open Go.Proofs.Ytoiccljmdplfgaa.Pl
open Go.Proofs.Ytoiccljmdplfgaa.Nv
open Go.Proofs.Ytoiccljmdplfgaa.Pt (L B L_len ptE ptV pT txtT txtE ptext_any own_bel)
open Go.Proofs.Ytoiccljmdplfgaa.Scn (join_any joiE joiV lineV B_len)
set_option linter.unusedVariables false
set_option linter.unusedSimpArgs false
theorem isb_bel {T e : TypeId} {B b : Nat} {bs : List Value} {w w' : World} (h : Lib.IsBuilder T e B b bs w) (hb : Below w.heap.size w w') : Lib.IsBuilder T e B b bs w' := by
  have key : ∀ p, Lib.BuilderAt T e B b p bs w → Lib.BuilderAt T e B b p bs w' := fun p q => by
    have hlt := q.lt
    obtain ⟨h1, v, h2, h3, h4⟩ := q
    exact ⟨h1, v, (hb.block b hlt).trans h2, own_bel h3 hb, h4⟩
  rcases h with h | h
  · exact .inl (key _ h)
  · exact .inr (key _ h)
theorem isb_alloc {T e : TypeId} {B b : Nat} {bs : List Value} {w : World} (h : Lib.IsBuilder T e B b bs w) (o : Obj) : Lib.IsBuilder T e B b bs (w.alloc o) := isb_bel h ((Below.refl _ _).alloc (Nat.le_refl _) o)
theorem reads_3s (w : World) (t : TypeId) (a b c : ByteArray) : Reads (w.alloc (.cells #[.string a, .string b, .string c] t)) (w.heap.size + 1) 1 (some ⟨w.heap.size, 0, none⟩) 3 ([a, b, c].map Value.string) :=
  ⟨rfl, fun _ => ⟨_, rfl, Nat.lt_succ_self _, fun j u hu => by
    match j, hu with
    | 0, hu => simp at hu; subst hu; simp [Addr.add]
    | 1, hu => simp at hu; subst hu; simp [Addr.add]
    | 2, hu => simp at hu; subst hu; simp [Addr.add]⟩⟩
set_option maxRecDepth 40000 in
set_option maxHeartbeats 6400000 in
theorem ptx_any (A : Option Addr) (n c : Nat) (l : List Pc) (w : World) (hR : Pcs w w.heap.size A n l) (hm : n ≤ maxLen) :
    Calls Try.prog 37 #[.slice A n c] w fun e w' => e = .returned (.tuple #[.string (B (if pcE l = 0 then txtL l else [])), .int .i64 (pcE l)]) ∧ Below w.heap.size w w' := by
  have hck := pcheck_any A n c l w hR hm
  by_cases hE : pcE l = 0
  rotate_left
  · rw [if_neg hE]
    have hv : (pcE l != 0) = true := by simp [hE]
    generalize pcE l = E at *
    go_enter Try.func37, Try.ntmps37
    go_wp2_with fail
    refine hck.mono ?_; rintro e w1 ⟨rfl, hb⟩
    go_wp2_with fail
    go_ret2
    exact ⟨rfl, hb⟩
  · rw [if_pos hE]
    obtain ⟨hn4, hok⟩ := pcE_mem hE
    rw [hE] at hck ⊢
    have hll := hR.len
    rw [hll] at hn4
    go_enter Try.func37, Try.ntmps37
    go_wp2_with fail
    refine hck.mono ?_; rintro e w1 ⟨rfl, hb1⟩
    have hR1 := Lib.hid ((hR.below hb1).more hb1.size)
    have hI0 := Lib.fresh_isBuilder 97 5 w1
    have hB0 := (Below.refl w1.heap.size w1).alloc (Nat.le_refl _) (.cells #[.pointer none, .slice none 0 0] 97)
    clear hck
    go_wp2_with fail
    go_loopw [18] (fun iv wr => ∃ k : Nat, iv = .int .i64 (k : Int) ∧ k ≤ n ∧ Lib.IsBuilder 97 5 w1.heap.size w1.heap.size (Lib.byteCells (txtL (l.take k))) wr ∧ Below w1.heap.size w1 wr) (fun iv _ => n - (intOf iv).toNat)
    case atStart => exact ⟨0, rfl, Nat.zero_le _, hI0, hB0⟩
    case round =>
      clear hI0 hB0
      obtain ⟨k, rfl, hk, hI, hb⟩ := hrel
      by_cases hlt : k < n
      · have hlt' : (k : Int) < (n : Int) := by omega
        have hkl : k < l.length := by omega
        obtain ⟨ad, rfl, hrow⟩ := (hR1.out.below hb).row hlt
        have hmem := pc_mem hkl
        have hoa := hok _ hmem
        have HT := Lib.hid (show txtL (l.take (k + 1)) = txtL (l.take k) ++ (pcN (pc_ l k) ++ [10]) by rw [pc_take hkl, txt_snoc])
        have hlen := txt_len (l.take k) (fun b hb' => hok b (List.mem_of_mem_take hb'))
        rw [List.length_take, Nat.min_eq_left (by omega)] at hlen
        generalize txtL (l.take k) = tx at *
        obtain ⟨a, ha⟩ : ∃ a, pc_ l k = a := ⟨_, rfl⟩
        rw [ha] at hrow hoa HT
        clear hmem ha
        have hsz := hb.size
        have hpl := pcN_len hoa
        have hk1 := pcX_kind hoa
        have s0 := (hk1 a.t (by simp)).2; have s1 := (hk1 (B (pT a.p)) (by simp)).2; have s2 := (hk1 a.z (by simp)).2
        have hpt := fun W => ptext_any a.p.la a.p.lo W
        have e1 : txtT ⟨a.p.la, a.p.lo⟩ = pT a.p := by unfold txtT; rw [if_pos (ok_parts hoa).2.1]
        have e2 : txtE ⟨a.p.la, a.p.lo⟩ = 0 := by unfold txtE; rw [if_pos (ok_parts hoa).2.1]
        simp only [e1, e2] at hpt
        have hj := fun W r => join_any (some ⟨r, 0, none⟩) 3 3 (r + 1) (pcX a) W
        have j1 := pc_join hoa
        have j2 : joiV (pcX a) = pcN a := by unfold joiV; rw [if_pos j1]; rfl
        simp only [j1, j2] at hj
        have hxs : ∀ x ∈ pcX a, x.size ≤ 10000000 := fun x hx => by have := (hk1 x hx).2; omega
        clear e1 e2 j1 j2 hk1 hoa
        have z8 := Blk.new wr 67 a.C
        have i8 := isb_alloc hI (.cells a.C 67); have b8 := hb.alloc hsz (.cells a.C 67)
        clear hI hb
        go_wp2_with (first | (refine wpList_at_g rfl 67 _ rfl w1.heap.size _ a.C rfl _ hrow Try.underlying67 rfl (by kernel_rfl) ?_) | (refine wpList_store_new rfl 67 _ _ rfl rfl wr.heap.size a.C rfl rfl _ ZP wr rfl rfl rfl (by kernel_rfl) (by kernel_rfl) ?_) | (refine wpList_seg_g rfl 23 _ rfl _ 1 a.p.A rfl _ _ _ _ z8 Try.underlying23 rfl (by kernel_rfl) rfl ?_))
        refine (hpt _).mono ?_; rintro e w5 ⟨rfl, hb5⟩
        have z5 := z8.below hb5 z8.lt; have i5 := isb_bel i8 hb5; have b5 := b8.trans (hb5.mono b8.size)
        clear z8 i8 b8 hb5 hpt hrow
        have c0 : w5.cell? ⟨wr.heap.size, 0, none⟩ = some (.string a.t) := z5.cell 0
        have c3 : w5.cell? ⟨wr.heap.size, 3, none⟩ = some (.string a.z) := z5.cell 3
        have b6a := b5.alloc b5.size (.cells #[.string a.t, .string (B (pT a.p)), .string a.z] 9)
        have i6a := isb_alloc i5 (.cells #[.string a.t, .string (B (pT a.p)), .string a.z] 9)
        have hr5 := reads_3s w5 9 a.t (B (pT a.p)) a.z
        go_wp2_with fail
        refine (hj _ _ hr5 (by rw [sz1 _ _ rfl]; exact Nat.le_refl _) (by decide) hxs).mono ?_; rintro e w6 ⟨rfl, hb6⟩
        have i6 := isb_bel i6a hb6; have b6 := b6a.trans (hb6.mono b6a.size)
        clear hj hr5 i6a b6a hb6 i5 b5 z5 c0 c3 hxs
        have hl1 : (Lib.byteCells tx).length + (B (pcN a)).size ≤ 140737488355328 := by rw [Lib.byteCells_length, B_len]; omega
        have hws := Try.Builder_WriteString w1.heap.size w1.heap.size _ (B (pcN a)) _ i6 hl1 b6.size
        have hl2 : (Lib.byteCells tx ++ Lib.strCells (B (pcN a))).length + 1 ≤ 140737488355328 := by rw [List.length_append, Lib.byteCells_length, Lib.strCells_length, B_len]; omega
        have HBC := Lib.hid (show Lib.byteCells (tx ++ (pcN a ++ [10])) = (Lib.byteCells tx ++ Lib.strCells (B (pcN a))) ++ [.int .u8 10] by simp [Lib.byteCells, Lib.strCells, B])
        clear hl1
        go_wp2_with fail
        refine hws.mono ?_; rintro e w7 ⟨rfl, h7, hb7⟩
        have hwb := Try.Builder_WriteByte w1.heap.size w1.heap.size _ 10 w7 (.inr h7) hl2 (b6.trans hb7).size
        clear hws
        go_wp2_with fail
        refine hwb.mono ?_; rintro e w8 ⟨rfl, h8, hb8⟩
        have hI8 : Lib.IsBuilder 97 5 w1.heap.size w1.heap.size (Lib.byteCells (txtL (l.take (k + 1)))) w8 := by rw [HT.out, HBC.out]; exact .inr h8
        have b8 := (b6.trans hb7).trans hb8
        have HI8 := Lib.hid hI8
        clear hwb h7 h8 hb7 hb8 i6 b6 hl2 hI8
        go_wp2_with fail
        go_roundw
        case rel => exact ⟨k + 1, by go_num, by omega, HI8.out, b8⟩
        case measure => simp [intOf]; omega
      · obtain rfl : k = n := by omega
        have hlt' : ¬ (k : Int) < (k : Int) := by omega
        have htk : l.take k = l := List.take_of_length_le (by omega)
        rw [htk] at hI
        go_wp2_with fail
        refine (Try.Builder_String_any w1.heap.size w1.heap.size (txtL l) _ hI hb.size).mono ?_; rintro e w9 ⟨rfl, hb9⟩
        go_wp2_with fail
        go_ret2
        exact ⟨rfl, hb1.trans ((hb.trans hb9).mono hb1.size)⟩
end Go.Proofs.Ytoiccljmdplfgaa.Nr
