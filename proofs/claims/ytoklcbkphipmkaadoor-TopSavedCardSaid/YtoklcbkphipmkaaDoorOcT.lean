/-
  TopSaved, walked.
-/
import Derived.Test.YtoklcbkphipmkaaDoorOcS
import Derived.Test.YtoklcbkphipmkaaDoorLdB
import Derived.Deep.RegionHeld3
import Derived.BigQuiet
import Derived.Deep.CutBlock
namespace Go.Proofs.YtoklcbkphipmkaaDoor.Oc
open Go.ChangeShapes Go.WideShapes Go.ChangeAt Go.RowKit
open Go.Proofs.YtoklcbkphipmkaaDoor
open Go.Proofs.YtoklcbkphipmkaaDoor.Wd
open Go.Proofs.YtoklcbkphipmkaaDoor.Sr
open Go.Proofs.YtoklcbkphipmkaaDoor.Sl
open Go.Proofs.YtoklcbkphipmkaaDoor.Ld
open Go.Proofs.YtoklcbkphipmkaaDoor.Civ (Tab)
open Go.Proofs.YtoklcbkphipmkaaDoor.Va (bcl RuOk rule_any ruE ruE_0 ruE_02)
set_option linter.unusedVariables false
set_option linter.unusedSimpArgs false
theorem ldO_sem (v : Value) : Instr.loadAt 26 v = ldSem 26 v := rfl
theorem ldE_sem (v : Value) : Instr.loadAt 37 v = ldSem 37 v := rfl
/-- true is answered, and what was is kept -/
def OneB (w : World) (e : Ending) (w' : World) : Prop := e = .returned (.bool true) ∧ Below w.heap.size w w'
def tl : Nat → Code → Code
  | 0, c => c
  | k + 1, .seq _ b => tl k b
  | _ + 1, c => c
noncomputable def bdy : Code := (Tryd.f3.body).getD .skip
/-- the events of three years -/
def AllY (rs : List Ru) (y : Int) (L : List Pe) : Prop := ∃ L1 L2 L3, IsY rs (y - 1) L1 ∧ IsY rs y L2 ∧ IsY rs (y + 1) L3 ∧ L = L1 ++ (L2 ++ L3)
/-- the events of the first ones of three years -/
def AllK (rs : List Ru) (y : Int) : Nat → List Pe → Prop
  | 0, L => L = []
  | k + 1, L => ∃ L1 L2, AllK rs y k L1 ∧ IsY rs (y - 1 + k) L2 ∧ L = L1 ++ L2
theorem allk_len {rs : List Ru} {y : Int} : ∀ {k : Nat} {L : List Pe}, AllK rs y k L → L.length ≤ rs.length * k
  | 0, L, h => by rw [show L = [] from h]; exact Nat.zero_le _
  | k + 1, L, h => by
    obtain ⟨L1, L2, h1, h2, rfl⟩ := h
    have := allk_len h1; have := h2.len
    rw [List.length_append, Nat.mul_succ]; omega
theorem ally_of {rs : List Ru} {y : Int} {L : List Pe} (h : AllK rs y 3 L) : AllY rs y L := by
  obtain ⟨L1, L3, ⟨L0, L2, ⟨L9, L8, h0, h1, rfl⟩, h2, rfl⟩, h3, rfl⟩ := h
  obtain rfl : L9 = [] := h0
  refine ⟨L8, L2, L3, ?_, ?_, ?_, by simp⟩
  · rwa [show y - 1 + ((0 : Nat) : Int) = y - 1 by omega] at h1
  · rwa [show y - 1 + ((1 : Nat) : Int) = y by omega] at h2
  · rwa [show y - 1 + ((2 : Nat) : Int) = y + 1 by omega] at h3
theorem alone_all {rs : List Ru} {y : Int} {L : List Pe} {x : Pe} (h : AllY rs y L) (hx : Occ rs x) (hy : x.2 = y) (hc : cnt (L.map (rT rs)) (rT rs x) = 1) : Alone rs x := by
  obtain ⟨L1, L2, L3, h1, h2, h3, rfl⟩ := h
  exact alone_of h1 h2 h3 (h2.mem.2 ⟨hx, hy⟩) hc
theorem cnt_succ {l : List Int} {t : Int} {k : Nat} (h : k < l.length) : cnt (l.take (k + 1)) t = cnt (l.take k) t + if l.getD k 0 = t then 1 else 0 := by
  rw [getD_take 0 h, cnt_app]
  congr 1
  unfold cnt
  by_cases q : l.getD k 0 = t
  · rw [if_pos q, List.filter_cons, if_pos (decide_eq_true q)]; rfl
  · rw [if_neg q, List.filter_cons, if_neg (by rw [decide_eq_true_iff]; exact q)]; rfl
theorem sk_mk {w w' : World} {h : Hd} {er : Er} {g0 g1 go : Nat} {TT KK SV BF : Int} {LL : ByteArray} (b : Below w.heap.size w w') (x : Blk w' g0 26 h.C) (e : Blk w' g1 37 er.C) (o : Blk w' go 49 #[.int .i64 TT, .int .u8 KK, .int .i64 SV, .int .i64 BF, .string LL]) :
    Below w.heap.size w w' ∧ Blk w' g0 26 h.C ∧ Blk w' g1 37 er.C ∧ Blk w' go 49 #[.int .i64 TT, .int .u8 KK, .int .i64 SV, .int .i64 BF, .string LL] ∧ ldT 26 (.pointer (some ⟨g0, 0, none⟩)) w' = some h.C ∧ ldT 37 (.pointer (some ⟨g1, 0, none⟩)) w' = some er.C ∧ w'.cell? ⟨go, 0, none⟩ = some (.int .i64 TT) ∧ w'.cell? ⟨go, 2, none⟩ = some (.int .i64 SV) ∧ w'.cell? ⟨go, 3, none⟩ = some (.int .i64 BF) :=
  ⟨b, x, e, o, ldT_of (ld_seg x Tryd.underlying26 rfl (by kernel_rfl) (by kernel_rfl)), ldT_of (ld_seg e Tryd.underlying37 rfl (by kernel_rfl) (by kernel_rfl)), o.cell 0, o.cell 2, o.cell 3⟩
attribute [local go_sem ↓] ldO_sem ldE_sem
attribute [local go_sem] ldSem_run
set_option maxRecDepth 100000 in
set_option maxHeartbeats 25600000 in
theorem sv_c {h : Hd} {S : So} {er : Er} {rs : List Ru} {y : Int} {w W : World} {g0 g1 c1 : Nat} {A1 : Option Addr} {A2 : Option Addr} {c2 : Nat} {RA : List Oc} {v5 v6 v8 v9 v11 v12 v13 v14 v15 v16 v17 v18 v19 v20 v21 v22 v23 v24 v25 v26 v27 v28 v29 v30 v31 v32 v33 v34 v35 v36 v37 v38 v39 v40 v41 v42 v43 v44 v45 v46 v47 v48 v49 v50 v51 v52 v53 v54 v55 v56 v57 v58 v59 v60 v61 v62 v63 v64 v65 v66 v67 v68 v69 v70 v71 v72 v73 v74 v75 v76 v77 v78 v79 v80 v81 v82 v83 v84 v85 v86 v87 v88 v89 v90 v91 v92 v93 v94 v95 v96 v97 v98 v99 v100 v101 v102 v103 v104 v105 v106 v107 v108 v109 v110 v111 v112 v113 v114 v115 v116 v117 : Value}
    (HS : Hid (SoR w w.heap.size h S)) (hn : h.rn ≤ 12) (hkd : er.kd = 2) (hT : Tab w) (HOK : Hid (Ok rs)) (hrs : nmK S.rs er.ru S.rs.length = rs) (hrl : rs.length ≤ 12) (HBD : Hid (∀ r ∈ rs, r.Bd)) (hy1 : 1600 ≤ y) (hy2 : y ≤ 2090) (hg0 : w.heap.size ≤ g0) (hg1 : w.heap.size ≤ g1)
    (b : Below w.heap.size w W) (x : Blk W g0 26 h.C) (e : Blk W g1 37 er.C) (sl : Sls Ru.C 11 W W.heap.size A1 rs.length rs) (al : Sls (toC rs) 5 W W.heap.size A2 RA.length RA) (hall : AllY rs y (RA.map (·.1))) (hal : RA.length ≤ 36) :
    (tl 7 bdy).wp Tryd.prog (bodyPost Tryd.prog Tryd.f3 (OneB w)) ⟨#[h.V, .agg er.C, .int .i64 y, .pointer (some ⟨g0, 0, none⟩), .pointer (some ⟨g1, 0, none⟩), v5, v6, .slice A1 rs.length c1, v8, v9, .slice A2 RA.length c2, v11, v12, v13, v14, v15, v16, v17, v18, v19, v20, v21, v22, v23, v24, v25, v26, v27, v28, v29, v30, v31, v32, v33, v34, v35, v36, v37, v38, v39, v40, v41, v42, v43, v44, v45, v46, v47, v48, v49, v50, v51, v52, v53, v54, v55, v56, v57, v58, v59, v60, v61, v62, v63, v64, v65, v66, v67, v68, v69, v70, v71, v72, v73, v74, v75, v76, v77, v78, v79, v80, v81, v82, v83, v84, v85, v86, v87, v88, v89, v90, v91, v92, v93, v94, v95, v96, v97, v98, v99, v100, v101, v102, v103, v104, v105, v106, v107, v108, v109, v110, v111, v112, v113, v114, v115, v116, v117], []⟩ W := by
  try dsimp only
  conv => arg 2; whnf
  go_wp2_with fail
  refine (Year_any A1 rs.length c1 rs y W sl HBD.out (by omega) (hT.below hT.1 b) HOK.out ⟨by omega, by omega⟩).mono ?_; rintro e1 w1 ⟨b1, g, L, R, rfl, hL, hTo, hS1⟩
  have B1 := bcl b b1
  have x1 := x.below b1 x.lt; have e1 := e.below b1 e.lt; have al1 := (al.below b1).more b1.size
  have HLY := Lib.hid hL; have HTO := Lib.hid hTo; have HAY := Lib.hid hall
  have hLn : L.length ≤ 12 := Nat.le_trans hL.len hrl
  have hS1 := hS1
  generalize (⟨g, 0, none⟩ : Addr) = ad0 at *
  clear b x e sl al b1 hL hTo hall
  go_upto_region 18 with fail
  have hRl := hS1.len
  generalize L.length = N at *
  obtain ⟨M, hM⟩ : ∃ M, RA.length = M := ⟨_, rfl⟩
  rw [hM] at hal al1 ⊢
  have HM := Lib.hid hM; clear hM
  go_loopw [76] (fun i wr => ∃ k : Nat, i = .int .i64 (k : Int) ∧ k ≤ N ∧ Below w1.heap.size w1 wr) (fun i _ => N - (intOf i).toNat)
  case atStart => exact ⟨0, rfl, Nat.zero_le _, Below.refl _ _⟩
  case round =>
    obtain ⟨k, rfl, hk, b2⟩ := hrel
    by_cases hlt : k < N
    · have hltI : (k : Int) < (N : Int) := by omega
      have hkl : k < R.length := by omega
      obtain ⟨ad, eA, hrow⟩ := (hS1.below b2).row (fun _ => rfl) ((0, 0), 0) hlt
      injection eA with eA; subst eA
      have hmem : R.getD k ((0, 0), 0) ∈ R := getD_mem (L := R) ((0, 0), 0) hkl
      obtain ⟨⟨xe, xs⟩, hxx⟩ : ∃ z, R.getD k ((0, 0), 0) = z := ⟨_, rfl⟩
      rw [hxx] at hrow hmem
      obtain ⟨bb, hbb, hbs⟩ := HTO.out.2 _ hmem
      have hxo : xe ∈ L := by rw [← HTO.out.1]; exact List.mem_map.2 ⟨_, hmem, rfl⟩
      obtain ⟨hocc, hyy⟩ := HLY.out.mem.1 hxo
      have hnear := occ_near hocc
      rw [hyy] at hnear
      have hT1 : -20000000000 ≤ rT rs xe ∧ rT rs xe ≤ 20000000000 := by
        have q1 := Cal.first_mono 1600 y hy1
        have q2 := Cal.first_mono (y + 1) 2091 (by omega)
        rw [show Cal.first 1600 = -135140 by decide] at q1
        rw [show Cal.first 2091 = 44195 by decide] at q2
        omega
      have HALO := Lib.hid (fun (q : cnt ((RA.map (·.1)).map (rT rs)) (rT rs xe) = 1) => alone_all HAY.out hocc hyy q)
      have HS1 := Lib.hid (fun (q : Alone rs xe) (U : World) (bU : Below w.heap.size w U) => show Calls Tryd.prog 9 #[h.V, .agg er.C, .int .i64 (rT rs xe + 1)] U (fun x w' => x = .returned (.int .i64 (ru_ rs xe.1).sv) ∧ Below U.heap.size U w') from
        (saved_ok h S er (rT rs xe + 1) rs U hrs ((HS.out.below bU).more bU.size) hn hkd (hT.below hT.1 bU) HOK.out (by omega) (by omega)).mono fun x w' ⟨p1, b', p2, p3⟩ => by
          have := alone_at hocc q (by omega) (by omega) p2
          subst this
          exact ⟨p3, p1⟩)
      have HS2 := Lib.hid (fun (q : Alone rs xe) (U : World) (bU : Below w.heap.size w U) => show Calls Tryd.prog 9 #[h.V, .agg er.C, .int .i64 (rT rs xe)] U (fun x w' => x = .returned (.int .i64 xs) ∧ Below U.heap.size U w') from
        (saved_ok h S er (rT rs xe) rs U hrs ((HS.out.below bU).more bU.size) hn hkd (hT.below hT.1 bU) HOK.out (by omega) (by omega)).mono fun x w' ⟨p1, b', p2, p3⟩ => by
          have := alone_before HOK.out hocc q (by omega) (by omega) p2 hbb
          rw [p3, this]
          exact ⟨by rw [show xs = svV rs bb from hbs], p1⟩)
      have B2 := B1.trans (b2.mono B1.size)
      have x2 := x1.below b2 x1.lt; have e2 := e1.below b2 e1.lt; have al2 := (al1.below b2).more b2.size
      obtain ⟨TT, hTT⟩ : ∃ t, rT rs xe = t := ⟨_, rfl⟩
      obtain ⟨SV, hSV⟩ : ∃ t, (ru_ rs xe.1).sv = t := ⟨_, rfl⟩
      obtain ⟨KK, hKK⟩ : ∃ t, (ru_ rs xe.1).ck = t := ⟨_, rfl⟩
      obtain ⟨LL, hLL⟩ : ∃ t, (ru_ rs xe.1).lt = t := ⟨_, rfl⟩
      obtain ⟨BF, hBF⟩ : ∃ t, xs = t := ⟨_, rfl⟩
      have hrow2 : Row wr w1.heap.size (ad0.add (k * 5)) #[.int .i64 TT, .int .u8 KK, .int .i64 SV, .int .i64 BF, .string LL] := by rw [← hTT, ← hSV, ← hKK, ← hLL, ← hBF]; exact hrow
      rw [hTT] at HALO HS1 HS2 hT1
      rw [hSV] at HS1
      rw [hBF] at HS2
      clear hTT hSV hKK hLL hBF hrow hbb hbs hxo hocc hyy hnear hmem hxx hkl
      have o3 := Blk.new wr 49 #[.int .i64 TT, .int .u8 KK, .int .i64 SV, .int .i64 BF, .string LL]
      have b3 := bal B2 (.cells #[.int .i64 TT, .int .u8 KK, .int .i64 SV, .int .i64 BF, .string LL] 49); have x3 := x2.alloc (.cells #[.int .i64 TT, .int .u8 KK, .int .i64 SV, .int .i64 BF, .string LL] 49); have e3 := e2.alloc (.cells #[.int .i64 TT, .int .u8 KK, .int .i64 SV, .int .i64 BF, .string LL] 49)
      have al3 := (al2.below (bal (Below.refl _ wr) (.cells #[.int .i64 TT, .int .u8 KK, .int .i64 SV, .int .i64 BF, .string LL] 49))).more (bal (Below.refl _ wr) (.cells #[.int .i64 TT, .int .u8 KK, .int .i64 SV, .int .i64 BF, .string LL] 49)).size
      have b23 := bcl b2 (bal (Below.refl _ wr) (.cells #[.int .i64 TT, .int .u8 KK, .int .i64 SV, .int .i64 BF, .string LL] 49))
      go_upto_region 20 with (first | (refine wpList_at_g rfl 49 _ rfl _ _ #[.int .i64 TT, .int .u8 KK, .int .i64 SV, .int .i64 BF, .string LL] rfl _ hrow2 Tryd.underlying49 rfl (by kernel_rfl) ?_) | (refine wpList_store_new rfl 49 _ _ rfl rfl wr.heap.size #[.int .i64 TT, .int .u8 KK, .int .i64 SV, .int .i64 BF, .string LL] rfl rfl _ ocZ wr rfl rfl rfl (by kernel_rfl) (by simp [Value.oneCell']) ?_))
      clear hrow2 B2 x2 e2 al2
      generalize wr.alloc (.cells #[.int .i64 TT, .int .u8 KK, .int .i64 SV, .int .i64 BF, .string LL] 49) = V at *
      obtain ⟨go, hgo⟩ : ∃ q, wr.heap.size = q := ⟨_, rfl⟩
      simp only [hgo] at o3 ⊢
      clear hgo
      go_upto_block 6 with fail
      go_cut [14] (fun nv wx => nv = .int .i64 ((cnt ((RA.map (·.1)).map (rT rs)) TT : Nat) : Int) ∧ Below V.heap.size V wx)
      case first =>
        have HMP := Lib.hid (show ((RA.map (·.1)).map (rT rs)).length = M from by rw [List.length_map, List.length_map, HM.out])
        have HEL := Lib.hid (show ∀ j, ((RA.map (·.1)).map (rT rs)).getD j (rT rs (0, 0)) = rT rs (RA.getD j ((0, 0), 0)).1 from fun j => by
          rw [List.getD_eq_getElem?_getD, List.getD_eq_getElem?_getD, List.getElem?_map, List.getElem?_map]
          cases RA[j]? <;> rfl)
        have HEN := Lib.hid (show ∀ j, j < M → ((RA.map (·.1)).map (rT rs)).getD j 0 = rT rs (RA.getD j ((0, 0), 0)).1 from fun j hj => by
          rw [← HEL.out j, List.getD_eq_getElem?_getD, List.getD_eq_getElem?_getD, List.getElem?_eq_getElem (by rw [HMP.out]; exact hj)]; rfl)
        generalize (RA.map (·.1)).map (rT rs) = TL at *
        go_wp2_with fail
        go_loopw [14, 82] (fun nv i wq => ∃ j : Nat, i = .int .i64 (j : Int) ∧ j ≤ M ∧ nv = .int .i64 ((cnt (TL.take j) TT : Nat) : Int) ∧ Below V.heap.size V wq) (fun _ i _ => M - (intOf i).toNat)
        case atStart => exact ⟨0, rfl, Nat.zero_le _, rfl, Below.refl _ _⟩
        case round =>
          obtain ⟨j, rfl, hj, rfl, b4⟩ := hrel
          by_cases hl2 : j < M
          · have hl2I : (j : Int) < (M : Int) := by omega
            obtain ⟨ad2, eA2, hrow2⟩ := (al3.below b4).row (fun _ => rfl) ((0, 0), 0) hl2
            subst eA2
            have HCS := Lib.hid (cnt_succ (l := TL) (t := TT) (k := j) (by rw [HMP.out]; exact hl2))
            have HE2 := Lib.hid (HEN.out j hl2)
            obtain ⟨z, hz⟩ : ∃ z, RA.getD j ((0, 0), 0) = z := ⟨_, rfl⟩
            rw [hz] at hrow2 HE2
            clear hz
            obtain ⟨T2, K2, S2, F2, L2, hc2⟩ : ∃ T2 K2 S2 F2 L2, toC rs z = #[.int .i64 T2, .int .u8 K2, .int .i64 S2, .int .i64 F2, .string L2] ∧ rT rs z.1 = T2 := ⟨_, _, _, _, _, rfl, rfl⟩
            rw [hc2.1] at hrow2
            rw [hc2.2] at HE2
            clear hc2
            have o4 := o3.below b4 o3.lt
            have p5 := Blk.new wr 49 #[.int .i64 T2, .int .u8 K2, .int .i64 S2, .int .i64 F2, .string L2]
            have o5 := o4.alloc (.cells #[.int .i64 T2, .int .u8 K2, .int .i64 S2, .int .i64 F2, .string L2] 49)
            have b5 := bcl b4 (bal (Below.refl _ wr) (.cells #[.int .i64 T2, .int .u8 K2, .int .i64 S2, .int .i64 F2, .string L2] 49))
            go_upto_region 24 with (first | (refine wpList_at_g rfl 49 _ rfl _ _ #[.int .i64 T2, .int .u8 K2, .int .i64 S2, .int .i64 F2, .string L2] rfl _ hrow2 Tryd.underlying49 rfl (by kernel_rfl) ?_) | (refine wpList_store_new rfl 49 _ _ rfl rfl wr.heap.size #[.int .i64 T2, .int .u8 K2, .int .i64 S2, .int .i64 F2, .string L2] rfl rfl _ ocZ wr rfl rfl rfl (by kernel_rfl) (by simp [Value.oneCell']) ?_))
            clear hrow2 b4 o4
            generalize wr.alloc (.cells #[.int .i64 T2, .int .u8 K2, .int .i64 S2, .int .i64 F2, .string L2] 49) = U at *
            obtain ⟨gp, hgp⟩ : ∃ q, wr.heap.size = q := ⟨_, rfl⟩
            simp only [hgp] at p5 ⊢
            clear hgp
            have d0 : U.cell? ⟨gp, 0, none⟩ = some (.int .i64 T2) := p5.cell 0
            have d1 : U.cell? ⟨go, 0, none⟩ = some (.int .i64 TT) := o5.cell 0
            have hcl := cnt_le (TL.take j) TT
            have hcl2 : (TL.take j).length ≤ j := by rw [List.length_take]; omega
            by_cases hq : T2 = TT
            · have hqb : (T2 == TT) = true := by simp [hq]
              have HK := Lib.hid (show cnt (TL.take (j + 1)) TT = cnt (TL.take j) TT + 1 from by rw [HCS.out, HE2.out, if_pos hq])
              clear hq
              generalize cnt (TL.take j) TT = cc at *
              have wc : IntKind.i64.wrap ((cc : Int) + 1) = (cc : Int) + 1 := by simp [IntKind.wrap, IntKind.bits, IntKind.signed]; omega
              go_wp2_with fail
              go_roundw
              case rel => exact ⟨j + 1, by go_num, by omega, by rw [HK.out]; simp, b5⟩
              case measure => simp [intOf]; omega
            · have hqb : (T2 == TT) = false := by rw [beq_eq_false_iff_ne]; exact hq
              have HK := Lib.hid (show cnt (TL.take (j + 1)) TT = cnt (TL.take j) TT from by rw [HCS.out, HE2.out, if_neg hq]; rfl)
              clear hq
              go_wp2_with fail
              go_roundw
              case rel => exact ⟨j + 1, by go_num, by omega, by rw [HK.out], b5⟩
              case measure => simp [intOf]; omega
          · obtain rfl : j = M := by omega
            have hl2I : ¬ (j : Int) < (j : Int) := by omega
            have HTK := Lib.hid (show TL.take j = TL from List.take_of_length_le (by rw [HMP.out]; exact Nat.le_refl _))
            go_wp2_with fail
            go_meet
            exact ⟨by rw [HTK.out], b4⟩
      case rest =>
        obtain ⟨rfl, b5⟩ := hcut
        go_step
        have b6 := b3.trans (b5.mono b3.size); have x6 := x3.below b5 x3.lt; have e6 := e3.below b5 e3.lt; have o6 := o3.below b5 o3.lt
        have b26 := b23.trans (b5.mono b23.size)
        clear b5 b3 x3 e3 o3 al3 b23 b2
        generalize cnt ((RA.map (·.1)).map (rT rs)) TT = cc at *
        by_cases hc1 : cc = 1
        · subst hc1
          have hal := HALO.out rfl
          replace HS1 := Lib.hid (HS1.out hal); replace HS2 := Lib.hid (HS2.out hal)
          have wT : IntKind.i64.wrap (TT + 1) = TT + 1 := by simp [IntKind.wrap, IntKind.bits, IntKind.signed]; omega
          go_upto_region 27 with fail
          refine wp_region_held_drew (S := fun w' => Below w1.heap.size w1 w' ∧ Below w.heap.size w w' ∧ Blk w' g0 26 h.C ∧ Blk w' g1 37 er.C ∧ Blk w' go 49 #[.int .i64 TT, .int .u8 KK, .int .i64 SV, .int .i64 BF, .string LL] ∧ ldT 26 (.pointer (some ⟨g0, 0, none⟩)) w' = some h.C ∧ ldT 37 (.pointer (some ⟨g1, 0, none⟩)) w' = some er.C ∧ w'.cell? ⟨go, 0, none⟩ = some (.int .i64 TT) ∧ w'.cell? ⟨go, 2, none⟩ = some (.int .i64 SV) ∧ w'.cell? ⟨go, 3, none⟩ = some (.int .i64 BF)) (by kernel_rfl) (⟨b26.drew, sk_mk b6.drew x6.drew e6.drew o6.drew⟩) (fun hHeld => ?_)
          refine wpAnyH_take (i := 0) (oi := { dst := some 94, op := Op.move (Operand.tmp 14), type := 3, pos := "top08.go:46", after := #[], guard := none }) (v := ?_) rfl (by kernel_rfl) (by kernel_rfl) (by kernel_rfl) (fun _ _ _ h => h) (Or.inl ⟨by rfl, ?_⟩) hHeld ?_
          rotate_left
          · intro w hSw
            try dsimp only at hSw
            go_simp
            try with_reducible rfl
          try simp only [Act.put, List.setIfInBounds_toArray, List.set_cons_zero, List.set_cons_succ]
          refine wpAnyH_take (i := 1) (oi := { dst := some 95, op := Op.binOp BinOp.eql 3 (Operand.tmp 94) (Operand.const (Value.int IntKind.i64 1)) 3, type := 4, pos := "top08.go:46", after := #[{ on := 0, ground := Ground.data }], guard := none }) (v := ?_) rfl (by kernel_rfl) (by kernel_rfl) (by kernel_rfl) (fun _ _ _ h => h) (Or.inl ⟨by rfl, ?_⟩) hHeld ?_
          rotate_left
          · intro w hSw
            try dsimp only at hSw
            go_simp
            try with_reducible rfl
          try simp only [Act.put, List.setIfInBounds_toArray, List.set_cons_zero, List.set_cons_succ]
          refine wpAnyH_take (i := 2) (oi := { dst := some 96, op := Op.move (Operand.tmp 95), type := 4, pos := "top08.go:46", after := #[{ on := 1, ground := Ground.data }], guard := none }) (v := ?_) rfl (by kernel_rfl) (by kernel_rfl) (by kernel_rfl) (fun _ _ _ h => h) (Or.inl ⟨by rfl, ?_⟩) hHeld ?_
          rotate_left
          · intro w hSw
            try dsimp only at hSw
            go_simp
            try with_reducible rfl
          try simp only [Act.put, List.setIfInBounds_toArray, List.set_cons_zero, List.set_cons_succ]
          refine wpAnyH_take (i := 3) (oi := { dst := some 97, op := Op.load 26 (Operand.tmp 3), type := 26, pos := "top08.go:46", after := #[{ on := 2, ground := Ground.guard }], guard := some (2, true) }) (v := ?_) rfl (by kernel_rfl) (by kernel_rfl) (by kernel_rfl) (fun _ _ _ h => h) (Or.inl ⟨by rfl, ?_⟩) hHeld ?_
          rotate_left
          · intro w hSw
            try dsimp only at hSw
            go_simp
            try with_reducible rfl
          try simp only [Act.put, List.setIfInBounds_toArray, List.set_cons_zero, List.set_cons_succ]
          refine wpAnyH_take (i := 4) (oi := { dst := some 98, op := Op.load 37 (Operand.tmp 4), type := 37, pos := "top08.go:46", after := #[{ on := 2, ground := Ground.guard }], guard := some (2, true) }) (v := ?_) rfl (by kernel_rfl) (by kernel_rfl) (by kernel_rfl) (fun _ _ _ h => h) (Or.inl ⟨by rfl, ?_⟩) hHeld ?_
          rotate_left
          · intro w hSw
            try dsimp only at hSw
            go_simp
            try with_reducible rfl
          try simp only [Act.put, List.setIfInBounds_toArray, List.set_cons_zero, List.set_cons_succ]
          refine wpAnyH_take (i := 5) (oi := { dst := some 99, op := Op.fieldAddr 49 (Operand.tmp 13) 0, type := 0, pos := "top08.go:46", after := #[{ on := 2, ground := Ground.guard }], guard := some (2, true) }) (v := ?_) rfl (by kernel_rfl) (by kernel_rfl) (by kernel_rfl) (fun _ _ _ h => h) (Or.inl ⟨by rfl, ?_⟩) hHeld ?_
          rotate_left
          · intro w hSw
            try dsimp only at hSw
            go_simp
            try with_reducible rfl
          try simp only [Act.put, List.setIfInBounds_toArray, List.set_cons_zero, List.set_cons_succ]
          refine wpAnyH_take (i := 6) (oi := { dst := some 100, op := Op.load 2 (Operand.tmp 99), type := 2, pos := "top08.go:46", after := #[{ on := 5, ground := Ground.data }, { on := 2, ground := Ground.guard }], guard := some (2, true) }) (v := ?_) rfl (by kernel_rfl) (by kernel_rfl) (by kernel_rfl) (fun _ _ _ h => h) (Or.inl ⟨by rfl, ?_⟩) hHeld ?_
          rotate_left
          · intro w hSw
            try dsimp only at hSw
            go_simp
            try with_reducible rfl
          try simp only [Act.put, List.setIfInBounds_toArray, List.set_cons_zero, List.set_cons_succ]
          refine wpAnyH_take (i := 7) (oi := { dst := some 101, op := Op.binOp BinOp.add 2 (Operand.tmp 100) (Operand.const (Value.int IntKind.i64 1)) 2, type := 2, pos := "top08.go:46", after := #[{ on := 6, ground := Ground.data }, { on := 2, ground := Ground.guard }], guard := some (2, true) }) (v := ?_) rfl (by kernel_rfl) (by kernel_rfl) (by kernel_rfl) (fun _ _ _ h => h) (Or.inl ⟨by rfl, ?_⟩) hHeld ?_
          rotate_left
          · intro w hSw
            try dsimp only at hSw
            go_simp
            try with_reducible rfl
          try simp only [Act.put, List.setIfInBounds_toArray, List.set_cons_zero, List.set_cons_succ]
          refine wpAnyH_take (i := 9) (oi := { dst := some 103, op := Op.fieldAddr 49 (Operand.tmp 13) 2, type := 0, pos := "top08.go:46", after := #[{ on := 2, ground := Ground.guard }], guard := some (2, true) }) (v := ?_) rfl (by kernel_rfl) (by kernel_rfl) (by kernel_rfl) (fun _ _ _ h => h) (Or.inl ⟨by rfl, ?_⟩) hHeld ?_
          rotate_left
          · intro w hSw
            try dsimp only at hSw
            go_simp
            try with_reducible rfl
          try simp only [Act.put, List.setIfInBounds_toArray, List.set_cons_zero, List.set_cons_succ]
          refine wpAnyH_take (i := 10) (oi := { dst := some 104, op := Op.load 2 (Operand.tmp 103), type := 2, pos := "top08.go:46", after := #[{ on := 9, ground := Ground.data }, { on := 2, ground := Ground.guard }], guard := some (2, true) }) (v := ?_) rfl (by kernel_rfl) (by kernel_rfl) (by kernel_rfl) (fun _ _ _ h => h) (Or.inl ⟨by rfl, ?_⟩) hHeld ?_
          rotate_left
          · intro w hSw
            try dsimp only at hSw
            go_simp
            try with_reducible rfl
          try simp only [Act.put, List.setIfInBounds_toArray, List.set_cons_zero, List.set_cons_succ]
          refine wpAnyH_ready (rs := [8]) (by kernel_rfl) (by simp) ?_
          refine AllReadyH.cons (o := { dst := some 102, op := Op.call { callee := Callee.value (Operand.func 9), args := #[Operand.tmp 97, Operand.tmp 98, Operand.tmp 101], argTypes := #[26, 37, 2] }, type := 2, pos := "top08.go:46", after := #[{ on := 3, ground := Ground.data }, { on := 4, ground := Ground.data }, { on := 7, ground := Ground.data }, { on := 2, ground := Ground.chain }, { on := 2, ground := Ground.guard }], guard := some (2, true) }) rfl (fun K hK => ?_) (AllReadyH.nil)
          go_simp
          refine (HS1.out _ hHeld.2.1).mono ?_; rintro e_ w_1 ⟨rfl, hb_1⟩
          try go_wp2_with fail
          refine hK.out _ _ (⟨hHeld.1.trans (hb_1.mono hHeld.1.size), sk_mk (hHeld.2.1.trans (hb_1.mono hHeld.2.1.size)) (hHeld.2.2.1.below hb_1 hHeld.2.2.1.lt) (hHeld.2.2.2.1.below hb_1 hHeld.2.2.2.1.lt) (hHeld.2.2.2.2.1.below hb_1 hHeld.2.2.2.2.1.lt)⟩) (fun hHeld2 => ?_)
          clear hK K hHeld; have hHeld := hHeld2; clear hHeld2
          try simp only [Act.put, List.setIfInBounds_toArray, List.set_cons_zero, List.set_cons_succ]
          refine wpAnyH_take (i := 11) (oi := { dst := some 105, op := Op.binOp BinOp.neq 2 (Operand.tmp 102) (Operand.tmp 104) 2, type := 4, pos := "top08.go:46", after := #[{ on := 8, ground := Ground.data }, { on := 10, ground := Ground.data }, { on := 2, ground := Ground.guard }], guard := some (2, true) }) (v := ?_) rfl (by kernel_rfl) (by kernel_rfl) (by kernel_rfl) (fun _ _ _ h => h) (Or.inl ⟨by rfl, ?_⟩) hHeld ?_
          rotate_left
          · intro w hSw
            try dsimp only at hSw
            go_simp
            try with_reducible rfl
          try simp only [Act.put, List.setIfInBounds_toArray, List.set_cons_zero, List.set_cons_succ]
          refine wpAnyH_take (i := 12) (oi := { dst := some 106, op := Op.move (Operand.tmp 105), type := 4, pos := "top08.go:46", after := #[{ on := 11, ground := Ground.data }, { on := 8, ground := Ground.chain }, { on := 2, ground := Ground.guard }], guard := some (2, true) }) (v := ?_) rfl (by kernel_rfl) (by kernel_rfl) (by kernel_rfl) (fun _ _ _ h => h) (Or.inl ⟨by rfl, ?_⟩) hHeld ?_
          rotate_left
          · intro w hSw
            try dsimp only at hSw
            go_simp
            try with_reducible rfl
          try simp only [Act.put, List.setIfInBounds_toArray, List.set_cons_zero, List.set_cons_succ]
          refine wpAnyH_take (i := 13) (oi := { dst := some 107, op := Op.load 26 (Operand.tmp 3), type := 26, pos := "top08.go:46", after := #[{ on := 12, ground := Ground.guard }], guard := some (12, false) }) (v := ?_) rfl (by kernel_rfl) (by kernel_rfl) (by kernel_rfl) (fun _ _ _ h => h) (Or.inl ⟨by rfl, ?_⟩) hHeld ?_
          rotate_left
          · intro w hSw
            try dsimp only at hSw
            go_simp
            try with_reducible rfl
          try simp only [Act.put, List.setIfInBounds_toArray, List.set_cons_zero, List.set_cons_succ]
          refine wpAnyH_take (i := 14) (oi := { dst := some 108, op := Op.load 37 (Operand.tmp 4), type := 37, pos := "top08.go:46", after := #[{ on := 12, ground := Ground.guard }], guard := some (12, false) }) (v := ?_) rfl (by kernel_rfl) (by kernel_rfl) (by kernel_rfl) (fun _ _ _ h => h) (Or.inl ⟨by rfl, ?_⟩) hHeld ?_
          rotate_left
          · intro w hSw
            try dsimp only at hSw
            go_simp
            try with_reducible rfl
          try simp only [Act.put, List.setIfInBounds_toArray, List.set_cons_zero, List.set_cons_succ]
          refine wpAnyH_take (i := 15) (oi := { dst := some 109, op := Op.fieldAddr 49 (Operand.tmp 13) 0, type := 0, pos := "top08.go:46", after := #[{ on := 12, ground := Ground.guard }], guard := some (12, false) }) (v := ?_) rfl (by kernel_rfl) (by kernel_rfl) (by kernel_rfl) (fun _ _ _ h => h) (Or.inl ⟨by rfl, ?_⟩) hHeld ?_
          rotate_left
          · intro w hSw
            try dsimp only at hSw
            go_simp
            try with_reducible rfl
          try simp only [Act.put, List.setIfInBounds_toArray, List.set_cons_zero, List.set_cons_succ]
          refine wpAnyH_take (i := 16) (oi := { dst := some 110, op := Op.load 2 (Operand.tmp 109), type := 2, pos := "top08.go:46", after := #[{ on := 15, ground := Ground.data }, { on := 12, ground := Ground.guard }], guard := some (12, false) }) (v := ?_) rfl (by kernel_rfl) (by kernel_rfl) (by kernel_rfl) (fun _ _ _ h => h) (Or.inl ⟨by rfl, ?_⟩) hHeld ?_
          rotate_left
          · intro w hSw
            try dsimp only at hSw
            go_simp
            try with_reducible rfl
          try simp only [Act.put, List.setIfInBounds_toArray, List.set_cons_zero, List.set_cons_succ]
          refine wpAnyH_take (i := 18) (oi := { dst := some 112, op := Op.fieldAddr 49 (Operand.tmp 13) 3, type := 0, pos := "top08.go:46", after := #[{ on := 12, ground := Ground.guard }], guard := some (12, false) }) (v := ?_) rfl (by kernel_rfl) (by kernel_rfl) (by kernel_rfl) (fun _ _ _ h => h) (Or.inl ⟨by rfl, ?_⟩) hHeld ?_
          rotate_left
          · intro w hSw
            try dsimp only at hSw
            go_simp
            try with_reducible rfl
          try simp only [Act.put, List.setIfInBounds_toArray, List.set_cons_zero, List.set_cons_succ]
          refine wpAnyH_take (i := 19) (oi := { dst := some 113, op := Op.load 2 (Operand.tmp 112), type := 2, pos := "top08.go:46", after := #[{ on := 18, ground := Ground.data }, { on := 12, ground := Ground.guard }], guard := some (12, false) }) (v := ?_) rfl (by kernel_rfl) (by kernel_rfl) (by kernel_rfl) (fun _ _ _ h => h) (Or.inl ⟨by rfl, ?_⟩) hHeld ?_
          rotate_left
          · intro w hSw
            try dsimp only at hSw
            go_simp
            try with_reducible rfl
          try simp only [Act.put, List.setIfInBounds_toArray, List.set_cons_zero, List.set_cons_succ]
          refine wpAnyH_ready (rs := [17]) (by kernel_rfl) (by simp) ?_
          refine AllReadyH.cons (o := { dst := some 111, op := Op.call { callee := Callee.value (Operand.func 9), args := #[Operand.tmp 107, Operand.tmp 108, Operand.tmp 110], argTypes := #[26, 37, 2] }, type := 2, pos := "top08.go:46", after := #[{ on := 13, ground := Ground.data }, { on := 14, ground := Ground.data }, { on := 16, ground := Ground.data }, { on := 12, ground := Ground.chain }, { on := 12, ground := Ground.guard }], guard := some (12, false) }) rfl (fun K hK => ?_) (AllReadyH.nil)
          go_simp
          refine (HS2.out _ hHeld.2.1).mono ?_; rintro e_ w_2 ⟨rfl, hb_2⟩
          try go_wp2_with fail
          refine hK.out _ _ (⟨hHeld.1.trans (hb_2.mono hHeld.1.size), sk_mk (hHeld.2.1.trans (hb_2.mono hHeld.2.1.size)) (hHeld.2.2.1.below hb_2 hHeld.2.2.1.lt) (hHeld.2.2.2.1.below hb_2 hHeld.2.2.2.1.lt) (hHeld.2.2.2.2.1.below hb_2 hHeld.2.2.2.2.1.lt)⟩) (fun hHeld2 => ?_)
          clear hK K hHeld; have hHeld := hHeld2; clear hHeld2
          try simp only [Act.put, List.setIfInBounds_toArray, List.set_cons_zero, List.set_cons_succ]
          refine wpAnyH_take (i := 20) (oi := { dst := some 114, op := Op.binOp BinOp.neq 2 (Operand.tmp 111) (Operand.tmp 113) 2, type := 4, pos := "top08.go:46", after := #[{ on := 17, ground := Ground.data }, { on := 19, ground := Ground.data }, { on := 12, ground := Ground.guard }], guard := some (12, false) }) (v := ?_) rfl (by kernel_rfl) (by kernel_rfl) (by kernel_rfl) (fun _ _ _ h => h) (Or.inl ⟨by rfl, ?_⟩) hHeld ?_
          rotate_left
          · intro w hSw
            try dsimp only at hSw
            go_simp
            try with_reducible rfl
          try simp only [Act.put, List.setIfInBounds_toArray, List.set_cons_zero, List.set_cons_succ]
          refine wpAnyH_take (i := 21) (oi := { dst := some 115, op := Op.pick (Operand.tmp 106) (Operand.const (Value.bool true)) (Operand.tmp 114), type := 4, pos := "top08.go:46", after := #[{ on := 12, ground := Ground.data }, { on := 20, ground := Ground.data }, { on := 2, ground := Ground.guard }], guard := some (2, true) }) (v := ?_) rfl (by kernel_rfl) (by kernel_rfl) (by kernel_rfl) (fun _ _ _ h => h) (Or.inl ⟨by rfl, ?_⟩) hHeld ?_
          rotate_left
          · intro w hSw
            try dsimp only at hSw
            go_simp
            try with_reducible rfl
          try simp only [Act.put, List.setIfInBounds_toArray, List.set_cons_zero, List.set_cons_succ]
          refine wpAnyH_take (i := 22) (oi := { dst := some 116, op := Op.pick (Operand.tmp 96) (Operand.tmp 115) (Operand.const (Value.bool false)), type := 4, pos := "top08.go:46", after := #[{ on := 2, ground := Ground.data }, { on := 21, ground := Ground.data }], guard := none }) (v := ?_) rfl (by kernel_rfl) (by kernel_rfl) (by kernel_rfl) (fun _ _ _ h => h) (Or.inl ⟨by rfl, ?_⟩) hHeld ?_
          rotate_left
          · intro w hSw
            try dsimp only at hSw
            go_simp
            try with_reducible rfl
          try simp only [Act.put, List.setIfInBounds_toArray, List.set_cons_zero, List.set_cons_succ]
          refine wpAnyH_done (by kernel_rfl) ?_ _
          have hB26 := hHeld.1
          clear hHeld
          go_wp2_with fail
          go_roundw
          case rel => exact ⟨k + 1, by go_num, by omega, hB26⟩
          case measure => simp [intOf]; omega
        · have hcb : ((cc : Int) == 1) = false := by rw [beq_eq_false_iff_ne]; omega
          have hcb2 : (cc == 1) = false := by rw [beq_eq_false_iff_ne]; omega
          go_upto_region 27 with fail
          refine wp_region_held_drew (S := fun w' => Below w1.heap.size w1 w') (by kernel_rfl) (b26.drew) (fun hHeld => ?_)
          refine wpAnyH_take (i := 0) (oi := { dst := some 94, op := Op.move (Operand.tmp 14), type := 3, pos := "top08.go:46", after := #[], guard := none }) (v := ?_) rfl (by kernel_rfl) (by kernel_rfl) (by kernel_rfl) (fun _ _ _ h => h) (Or.inl ⟨by rfl, ?_⟩) hHeld ?_
          rotate_left
          · intro w hSw
            try dsimp only at hSw
            go_simp
            try with_reducible rfl
          try simp only [Act.put, List.setIfInBounds_toArray, List.set_cons_zero, List.set_cons_succ]
          refine wpAnyH_take (i := 1) (oi := { dst := some 95, op := Op.binOp BinOp.eql 3 (Operand.tmp 94) (Operand.const (Value.int IntKind.i64 1)) 3, type := 4, pos := "top08.go:46", after := #[{ on := 0, ground := Ground.data }], guard := none }) (v := ?_) rfl (by kernel_rfl) (by kernel_rfl) (by kernel_rfl) (fun _ _ _ h => h) (Or.inl ⟨by rfl, ?_⟩) hHeld ?_
          rotate_left
          · intro w hSw
            try dsimp only at hSw
            go_simp
            try with_reducible rfl
          try simp only [Act.put, List.setIfInBounds_toArray, List.set_cons_zero, List.set_cons_succ]
          refine wpAnyH_take (i := 2) (oi := { dst := some 96, op := Op.move (Operand.tmp 95), type := 4, pos := "top08.go:46", after := #[{ on := 1, ground := Ground.data }], guard := none }) (v := ?_) rfl (by kernel_rfl) (by kernel_rfl) (by kernel_rfl) (fun _ _ _ h => h) (Or.inl ⟨by rfl, ?_⟩) hHeld ?_
          rotate_left
          · intro w hSw
            try dsimp only at hSw
            go_simp
            try with_reducible rfl
          try simp only [Act.put, List.setIfInBounds_toArray, List.set_cons_zero, List.set_cons_succ]
          refine wpAnyH_take (i := 3) (oi := { dst := some 97, op := Op.load 26 (Operand.tmp 3), type := 26, pos := "top08.go:46", after := #[{ on := 2, ground := Ground.guard }], guard := some (2, true) }) (v := undef) rfl (by kernel_rfl) (by kernel_rfl) (by kernel_rfl) (fun _ _ _ h => h) (Or.inr ⟨by rfl, rfl⟩) hHeld ?_
          try simp only [Act.put, List.setIfInBounds_toArray, List.set_cons_zero, List.set_cons_succ]
          refine wpAnyH_take (i := 4) (oi := { dst := some 98, op := Op.load 37 (Operand.tmp 4), type := 37, pos := "top08.go:46", after := #[{ on := 2, ground := Ground.guard }], guard := some (2, true) }) (v := undef) rfl (by kernel_rfl) (by kernel_rfl) (by kernel_rfl) (fun _ _ _ h => h) (Or.inr ⟨by rfl, rfl⟩) hHeld ?_
          try simp only [Act.put, List.setIfInBounds_toArray, List.set_cons_zero, List.set_cons_succ]
          refine wpAnyH_take (i := 5) (oi := { dst := some 99, op := Op.fieldAddr 49 (Operand.tmp 13) 0, type := 0, pos := "top08.go:46", after := #[{ on := 2, ground := Ground.guard }], guard := some (2, true) }) (v := undef) rfl (by kernel_rfl) (by kernel_rfl) (by kernel_rfl) (fun _ _ _ h => h) (Or.inr ⟨by rfl, rfl⟩) hHeld ?_
          try simp only [Act.put, List.setIfInBounds_toArray, List.set_cons_zero, List.set_cons_succ]
          refine wpAnyH_take (i := 6) (oi := { dst := some 100, op := Op.load 2 (Operand.tmp 99), type := 2, pos := "top08.go:46", after := #[{ on := 5, ground := Ground.data }, { on := 2, ground := Ground.guard }], guard := some (2, true) }) (v := undef) rfl (by kernel_rfl) (by kernel_rfl) (by kernel_rfl) (fun _ _ _ h => h) (Or.inr ⟨by rfl, rfl⟩) hHeld ?_
          try simp only [Act.put, List.setIfInBounds_toArray, List.set_cons_zero, List.set_cons_succ]
          refine wpAnyH_take (i := 7) (oi := { dst := some 101, op := Op.binOp BinOp.add 2 (Operand.tmp 100) (Operand.const (Value.int IntKind.i64 1)) 2, type := 2, pos := "top08.go:46", after := #[{ on := 6, ground := Ground.data }, { on := 2, ground := Ground.guard }], guard := some (2, true) }) (v := undef) rfl (by kernel_rfl) (by kernel_rfl) (by kernel_rfl) (fun _ _ _ h => h) (Or.inr ⟨by rfl, rfl⟩) hHeld ?_
          try simp only [Act.put, List.setIfInBounds_toArray, List.set_cons_zero, List.set_cons_succ]
          refine wpAnyH_take (i := 8) (oi := { dst := some 102, op := Op.call { callee := Callee.value (Operand.func 9), args := #[Operand.tmp 97, Operand.tmp 98, Operand.tmp 101], argTypes := #[26, 37, 2] }, type := 2, pos := "top08.go:46", after := #[{ on := 3, ground := Ground.data }, { on := 4, ground := Ground.data }, { on := 7, ground := Ground.data }, { on := 2, ground := Ground.chain }, { on := 2, ground := Ground.guard }], guard := some (2, true) }) (v := undef) rfl (by kernel_rfl) (by kernel_rfl) (by kernel_rfl) (fun _ _ _ h => h) (Or.inr ⟨by rfl, rfl⟩) hHeld ?_
          try simp only [Act.put, List.setIfInBounds_toArray, List.set_cons_zero, List.set_cons_succ]
          refine wpAnyH_take (i := 9) (oi := { dst := some 103, op := Op.fieldAddr 49 (Operand.tmp 13) 2, type := 0, pos := "top08.go:46", after := #[{ on := 2, ground := Ground.guard }], guard := some (2, true) }) (v := undef) rfl (by kernel_rfl) (by kernel_rfl) (by kernel_rfl) (fun _ _ _ h => h) (Or.inr ⟨by rfl, rfl⟩) hHeld ?_
          try simp only [Act.put, List.setIfInBounds_toArray, List.set_cons_zero, List.set_cons_succ]
          refine wpAnyH_take (i := 10) (oi := { dst := some 104, op := Op.load 2 (Operand.tmp 103), type := 2, pos := "top08.go:46", after := #[{ on := 9, ground := Ground.data }, { on := 2, ground := Ground.guard }], guard := some (2, true) }) (v := undef) rfl (by kernel_rfl) (by kernel_rfl) (by kernel_rfl) (fun _ _ _ h => h) (Or.inr ⟨by rfl, rfl⟩) hHeld ?_
          try simp only [Act.put, List.setIfInBounds_toArray, List.set_cons_zero, List.set_cons_succ]
          refine wpAnyH_take (i := 11) (oi := { dst := some 105, op := Op.binOp BinOp.neq 2 (Operand.tmp 102) (Operand.tmp 104) 2, type := 4, pos := "top08.go:46", after := #[{ on := 8, ground := Ground.data }, { on := 10, ground := Ground.data }, { on := 2, ground := Ground.guard }], guard := some (2, true) }) (v := undef) rfl (by kernel_rfl) (by kernel_rfl) (by kernel_rfl) (fun _ _ _ h => h) (Or.inr ⟨by rfl, rfl⟩) hHeld ?_
          try simp only [Act.put, List.setIfInBounds_toArray, List.set_cons_zero, List.set_cons_succ]
          refine wpAnyH_take (i := 12) (oi := { dst := some 106, op := Op.move (Operand.tmp 105), type := 4, pos := "top08.go:46", after := #[{ on := 11, ground := Ground.data }, { on := 8, ground := Ground.chain }, { on := 2, ground := Ground.guard }], guard := some (2, true) }) (v := undef) rfl (by kernel_rfl) (by kernel_rfl) (by kernel_rfl) (fun _ _ _ h => h) (Or.inr ⟨by rfl, rfl⟩) hHeld ?_
          try simp only [Act.put, List.setIfInBounds_toArray, List.set_cons_zero, List.set_cons_succ]
          refine wpAnyH_take (i := 13) (oi := { dst := some 107, op := Op.load 26 (Operand.tmp 3), type := 26, pos := "top08.go:46", after := #[{ on := 12, ground := Ground.guard }], guard := some (12, false) }) (v := undef) rfl (by kernel_rfl) (by kernel_rfl) (by kernel_rfl) (fun _ _ _ h => h) (Or.inr ⟨by rfl, rfl⟩) hHeld ?_
          try simp only [Act.put, List.setIfInBounds_toArray, List.set_cons_zero, List.set_cons_succ]
          refine wpAnyH_take (i := 14) (oi := { dst := some 108, op := Op.load 37 (Operand.tmp 4), type := 37, pos := "top08.go:46", after := #[{ on := 12, ground := Ground.guard }], guard := some (12, false) }) (v := undef) rfl (by kernel_rfl) (by kernel_rfl) (by kernel_rfl) (fun _ _ _ h => h) (Or.inr ⟨by rfl, rfl⟩) hHeld ?_
          try simp only [Act.put, List.setIfInBounds_toArray, List.set_cons_zero, List.set_cons_succ]
          refine wpAnyH_take (i := 15) (oi := { dst := some 109, op := Op.fieldAddr 49 (Operand.tmp 13) 0, type := 0, pos := "top08.go:46", after := #[{ on := 12, ground := Ground.guard }], guard := some (12, false) }) (v := undef) rfl (by kernel_rfl) (by kernel_rfl) (by kernel_rfl) (fun _ _ _ h => h) (Or.inr ⟨by rfl, rfl⟩) hHeld ?_
          try simp only [Act.put, List.setIfInBounds_toArray, List.set_cons_zero, List.set_cons_succ]
          refine wpAnyH_take (i := 16) (oi := { dst := some 110, op := Op.load 2 (Operand.tmp 109), type := 2, pos := "top08.go:46", after := #[{ on := 15, ground := Ground.data }, { on := 12, ground := Ground.guard }], guard := some (12, false) }) (v := undef) rfl (by kernel_rfl) (by kernel_rfl) (by kernel_rfl) (fun _ _ _ h => h) (Or.inr ⟨by rfl, rfl⟩) hHeld ?_
          try simp only [Act.put, List.setIfInBounds_toArray, List.set_cons_zero, List.set_cons_succ]
          refine wpAnyH_take (i := 17) (oi := { dst := some 111, op := Op.call { callee := Callee.value (Operand.func 9), args := #[Operand.tmp 107, Operand.tmp 108, Operand.tmp 110], argTypes := #[26, 37, 2] }, type := 2, pos := "top08.go:46", after := #[{ on := 13, ground := Ground.data }, { on := 14, ground := Ground.data }, { on := 16, ground := Ground.data }, { on := 12, ground := Ground.chain }, { on := 12, ground := Ground.guard }], guard := some (12, false) }) (v := undef) rfl (by kernel_rfl) (by kernel_rfl) (by kernel_rfl) (fun _ _ _ h => h) (Or.inr ⟨by rfl, rfl⟩) hHeld ?_
          try simp only [Act.put, List.setIfInBounds_toArray, List.set_cons_zero, List.set_cons_succ]
          refine wpAnyH_take (i := 18) (oi := { dst := some 112, op := Op.fieldAddr 49 (Operand.tmp 13) 3, type := 0, pos := "top08.go:46", after := #[{ on := 12, ground := Ground.guard }], guard := some (12, false) }) (v := undef) rfl (by kernel_rfl) (by kernel_rfl) (by kernel_rfl) (fun _ _ _ h => h) (Or.inr ⟨by rfl, rfl⟩) hHeld ?_
          try simp only [Act.put, List.setIfInBounds_toArray, List.set_cons_zero, List.set_cons_succ]
          refine wpAnyH_take (i := 19) (oi := { dst := some 113, op := Op.load 2 (Operand.tmp 112), type := 2, pos := "top08.go:46", after := #[{ on := 18, ground := Ground.data }, { on := 12, ground := Ground.guard }], guard := some (12, false) }) (v := undef) rfl (by kernel_rfl) (by kernel_rfl) (by kernel_rfl) (fun _ _ _ h => h) (Or.inr ⟨by rfl, rfl⟩) hHeld ?_
          try simp only [Act.put, List.setIfInBounds_toArray, List.set_cons_zero, List.set_cons_succ]
          refine wpAnyH_take (i := 20) (oi := { dst := some 114, op := Op.binOp BinOp.neq 2 (Operand.tmp 111) (Operand.tmp 113) 2, type := 4, pos := "top08.go:46", after := #[{ on := 17, ground := Ground.data }, { on := 19, ground := Ground.data }, { on := 12, ground := Ground.guard }], guard := some (12, false) }) (v := undef) rfl (by kernel_rfl) (by kernel_rfl) (by kernel_rfl) (fun _ _ _ h => h) (Or.inr ⟨by rfl, rfl⟩) hHeld ?_
          try simp only [Act.put, List.setIfInBounds_toArray, List.set_cons_zero, List.set_cons_succ]
          refine wpAnyH_take (i := 21) (oi := { dst := some 115, op := Op.pick (Operand.tmp 106) (Operand.const (Value.bool true)) (Operand.tmp 114), type := 4, pos := "top08.go:46", after := #[{ on := 12, ground := Ground.data }, { on := 20, ground := Ground.data }, { on := 2, ground := Ground.guard }], guard := some (2, true) }) (v := undef) rfl (by kernel_rfl) (by kernel_rfl) (by kernel_rfl) (fun _ _ _ h => h) (Or.inr ⟨by rfl, rfl⟩) hHeld ?_
          try simp only [Act.put, List.setIfInBounds_toArray, List.set_cons_zero, List.set_cons_succ]
          refine wpAnyH_take (i := 22) (oi := { dst := some 116, op := Op.pick (Operand.tmp 96) (Operand.tmp 115) (Operand.const (Value.bool false)), type := 4, pos := "top08.go:46", after := #[{ on := 2, ground := Ground.data }, { on := 21, ground := Ground.data }], guard := none }) (v := ?_) rfl (by kernel_rfl) (by kernel_rfl) (by kernel_rfl) (fun _ _ _ h => h) (Or.inl ⟨by rfl, ?_⟩) hHeld ?_
          rotate_left
          · intro w hSw
            try dsimp only at hSw
            go_simp
            try with_reducible rfl
          try simp only [Act.put, List.setIfInBounds_toArray, List.set_cons_zero, List.set_cons_succ]
          refine wpAnyH_done (by kernel_rfl) ?_ _
          have hB26 := hHeld
          clear hHeld
          go_wp2_with fail
          go_roundw
          case rel => exact ⟨k + 1, by go_num, by omega, hB26⟩
          case measure => simp [intOf]; omega
    · obtain rfl : k = N := by omega
      have hltI : ¬ (k : Int) < (k : Int) := by omega
      go_wp2_with fail
      go_ret
      exact ⟨rfl, B1.trans (b2.mono B1.size)⟩
theorem oc_one (rs : List Ru) (x : Oc) : (toC rs x).all (·.oneCell') = true := by simp [Value.oneCell']
set_option maxRecDepth 100000 in
set_option maxHeartbeats 25600000 in
theorem sv_b {h : Hd} {S : So} {er : Er} {rs : List Ru} {y : Int} {w W : World} {g0 g1 c1 : Nat} {A1 : Option Addr}  {v5 v6 v8 v9 v10 v11 v12 v13 v14 v15 v16 v17 v18 v19 v20 v21 v22 v23 v24 v25 v26 v27 v28 v29 v30 v31 v32 v33 v34 v35 v36 v37 v38 v39 v40 v41 v42 v43 v44 v45 v46 v47 v48 v49 v50 v51 v52 v53 v54 v55 v56 v57 v58 v59 v60 v61 v62 v63 v64 v65 v66 v67 v68 v69 v70 v71 v72 v73 v74 v75 v76 v77 v78 v79 v80 v81 v82 v83 v84 v85 v86 v87 v88 v89 v90 v91 v92 v93 v94 v95 v96 v97 v98 v99 v100 v101 v102 v103 v104 v105 v106 v107 v108 v109 v110 v111 v112 v113 v114 v115 v116 v117 : Value}
    (HS : Hid (SoR w w.heap.size h S)) (hn : h.rn ≤ 12) (hkd : er.kd = 2) (hT : Tab w) (HOK : Hid (Ok rs)) (hrs : nmK S.rs er.ru S.rs.length = rs) (hrl : rs.length ≤ 12) (HBD : Hid (∀ r ∈ rs, r.Bd)) (hy1 : 1600 ≤ y) (hy2 : y ≤ 2090) (hg0 : w.heap.size ≤ g0) (hg1 : w.heap.size ≤ g1)
    (b : Below w.heap.size w W) (x : Blk W g0 26 h.C) (e : Blk W g1 37 er.C) (sl : Sls Ru.C 11 W W.heap.size A1 rs.length rs) :
    (tl 5 bdy).wp Tryd.prog (bodyPost Tryd.prog Tryd.f3 (OneB w)) ⟨#[h.V, .agg er.C, .int .i64 y, .pointer (some ⟨g0, 0, none⟩), .pointer (some ⟨g1, 0, none⟩), v5, v6, .slice A1 rs.length c1, v8, v9, v10, v11, v12, v13, v14, v15, v16, v17, v18, v19, v20, v21, v22, v23, v24, v25, v26, v27, v28, v29, v30, v31, v32, v33, v34, v35, v36, v37, v38, v39, v40, v41, v42, v43, v44, v45, v46, v47, v48, v49, v50, v51, v52, v53, v54, v55, v56, v57, v58, v59, v60, v61, v62, v63, v64, v65, v66, v67, v68, v69, v70, v71, v72, v73, v74, v75, v76, v77, v78, v79, v80, v81, v82, v83, v84, v85, v86, v87, v88, v89, v90, v91, v92, v93, v94, v95, v96, v97, v98, v99, v100, v101, v102, v103, v104, v105, v106, v107, v108, v109, v110, v111, v112, v113, v114, v115, v116, v117], []⟩ W := by
  try dsimp only
  conv => arg 2; whnf
  obtain ⟨i0, hi0, hz0, hz1, hz2⟩ := info_parts info_oc
  have HI := Lib.hid hi0; clear hi0
  go_upto_block 2 with fail
  go_cut [10] (fun v wx => ∃ (A2 : Option Addr) (c2 : Nat) (RA : List Oc), v = .slice A2 RA.length c2 ∧ Below W.heap.size W wx ∧ Sls (toC rs) 5 wx wx.heap.size A2 RA.length RA ∧ AllY rs y (RA.map (·.1)) ∧ RA.length ≤ 36)
  case first =>
    go_wp2_with fail
    go_loopw [10, 11] (fun v yy wr => ∃ (j : Nat) (RA : List Oc), yy = .int .i64 (y - 1 + (j : Int)) ∧ j ≤ 3 ∧ AllK rs y j (RA.map (·.1)) ∧ wr.ownsRow W.heap.size 49 5 v RA.length (flat (toC rs) RA) ∧ Below W.heap.size W wr) (fun _ yy _ => (y + 2 - intOf yy).toNat)
    case atStart => exact ⟨0, [], by simp, Nat.zero_le _, rfl, ⟨rfl, .inl ⟨rfl, rfl⟩⟩, Below.refl _ _⟩
    case round =>
      obtain ⟨j, RA, rfl, hj, hal, o, b2⟩ := hrel
      have hln := allk_len hal
      rw [List.length_map] at hln
      have hln2 : RA.length ≤ 36 := Nat.le_trans hln (Nat.le_trans (Nat.mul_le_mul hrl hj) (by decide))
      have wy : IntKind.i64.wrap (y + 1) = y + 1 := by simp [IntKind.wrap, IntKind.bits, IntKind.signed]; omega
      have HAL := Lib.hid hal; clear hal hln
      by_cases hlt : j < 3
      · have hle : y - 1 + (j : Int) ≤ y + 1 := by omega
        have B2 := bcl b b2
        have hye := Year_any A1 rs.length c1 rs (y - 1 + (j : Int)) wr ((sl.below b2).more b2.size) HBD.out (by omega) (hT.below hT.1 B2) HOK.out ⟨by omega, by omega⟩
        go_wp2_with fail
        refine hye.mono ?_; rintro e1 w1 ⟨b3, g, L, R, rfl, hL, hTo, hS1⟩
        have o3 := own_below o b3
        have b4 := bcl b2 b3
        have hLn : L.length ≤ 12 := Nat.le_trans hL.len hrl
        have HAL2 := Lib.hid (show AllK rs y (j + 1) ((RA ++ R).map (·.1)) from ⟨_, _, HAL.out, hL, by rw [List.map_append, hTo.1]⟩)
        have hRl := hS1.len
        have hrd := hS1.r
        have HBS := Lib.hid b4.size
        have HLL := Lib.hid (show (RA ++ R).length = RA.length + L.length from by rw [List.length_append, hRl])
        obtain ⟨xs, hxs⟩ : ∃ xs, flat (toC rs) RA = xs := ⟨_, rfl⟩
        obtain ⟨N, hN⟩ : ∃ N, RA.length = N := ⟨_, rfl⟩
        rw [hxs, hN] at o3
        rw [hN] at hln2 HLL
        have HXS := Lib.hid hxs
        clear o b2 B2 hye b3 hL hTo hS1 hxs hN hRl
        generalize L.length = n2 at *
        go_wp2_with (at_builtin; refine wpList_append_any _ rfl _ _ 46 rfl W.heap.size 49 i0 _ 5 48 Tryd.underlying46 HI.out hz0 hz1 hz2 rfl (by decide) _ N _ rfl o3 _ _ n2 n2 _ rfl hrd (flat_cells (oc_one rs) _) (by unfold maxLen; omega) (by omega) HBS.out ?_; intro v5 w5 o5 g5 _; have HG := Lib.hid g5; clear g5)
        have b5 := b4.grown HG.out HBS.out (fun g e => (own_ge o3 g e).1)
        have HR := Lib.hid (show w5.ownsRow W.heap.size 49 5 v5 (RA ++ R).length (flat (toC rs) (RA ++ R)) from by rw [HLL.out, flat_append, HXS.out]; exact o5)
        clear o5 o3 hrd b4
        have wy2 : IntKind.i64.wrap (y - 1 + (j : Int) + 1) = y - 1 + (j : Int) + 1 := by simp [IntKind.wrap, IntKind.bits, IntKind.signed]; omega
        go_wp2_with fail
        go_roundw
        case rel => exact ⟨j + 1, RA ++ R, by simp; omega, by omega, HAL2.out, HR.out, b5⟩
        case measure => simp [intOf]; omega
      · obtain rfl : j = 3 := by omega
        have hle : ¬ y - 1 + ((3 : Nat) : Int) ≤ y + 1 := by omega
        obtain ⟨A5, c5, rfl⟩ := own_slice o
        have hS5 := Sls.of_own rfl o
        have HY := Lib.hid (ally_of HAL.out)
        clear o
        go_wp2_with fail
        go_meet
        exact ⟨A5, c5, RA, rfl, b2, hS5, HY.out, hln2⟩
  case rest =>
    obtain ⟨A2, c2, RA, rfl, b2, al, hall, hal⟩ := hcut
    have B := bcl b b2; have x2 := x.below b2 x.lt; have e2 := e.below b2 e.lt; have sl2 := (sl.below b2).more b2.size
    go_step
    exact sv_c HS hn hkd hT HOK hrs hrl HBD hy1 hy2 hg0 hg1 B x2 e2 sl2 al hall hal
set_option maxRecDepth 100000 in
set_option maxHeartbeats 25600000 in
theorem saved_any (h : Hd) (S : So) (er : Er) (y : Int) (w : World) (hT : Tab w) (hS : SoR w w.heap.size h S) (hes : er.ru.size ≤ maxLen) : Calls Tryd.prog 3 #[h.V, .agg er.C, .int .i64 y] w (OneB w) := by
  have x0 := (Blk.new w 26 h.C).alloc (.cells er.C 37)
  have e0 := blk_at (w.alloc (.cells h.C 26)) 37 er.C (sz1 w _ rfl)
  have b0 := bal (bal (Below.refl _ w) (.cells h.C 26)) (.cells er.C 37)
  have hrm := hS.rm.1
  have HS := Lib.hid hS; clear hS
  unfold maxLen at hes hrm
  go_enter Tryd.func3, Tryd.ntmps3
  go_upto_region 1 with fail
  generalize (w.alloc (.cells h.C 26)).alloc (.cells er.C 37) = W at *
  obtain ⟨g0, hg0⟩ : ∃ g, w.heap.size = g := ⟨_, rfl⟩
  obtain ⟨g1, hg1⟩ : ∃ g, g0 + 1 = g := ⟨_, rfl⟩
  have x1 : Blk W g0 26 h.C := by rw [← hg0]; exact x0
  have e1 : Blk W g1 37 er.C := by rw [← hg1, ← hg0]; exact e0
  rw [hg0, hg1]
  have hG0 : w.heap.size ≤ g0 := by omega
  have hG1 : w.heap.size ≤ g1 := by omega
  clear hg0 hg1 x0 e0
  have hbg := begins8_any W (hT.below hT.1 b0)
  go_wp2_with fail
  refine hbg.mono ?_; rintro e_ W1 ⟨rfl, hb⟩
  have x2 := x1.below hb x1.lt; have e2 := e1.below hb e1.lt; have b1 := bcl b0 hb; clear hb x1 e1 b0 hbg
  have hnr := near16 h S 2100 W1 ((HS.out.below b1).more b1.size)
  go_wp2_with (refine wpList_row_g rfl 26 _ rfl _ rfl _ _ _ _ x2 Tryd.underlying26 rfl (by kernel_rfl) ?_)
  refine hnr.mono ?_; rintro e_ W2 ⟨hv, hb⟩
  have x3 := x2.below hb x2.lt; have e3 := e2.below hb e2.lt; have b2 := bcl b1 hb; clear hb x2 e2 b1 hnr
  rcases hv with rfl | ⟨rfl, -, hn⟩
  · go_wp2_with fail
    go_ret
    exact ⟨rfl, b2⟩
  by_cases hy1 : y < 1600
  · go_wp2_with fail
    go_ret
    exact ⟨rfl, b2⟩
  by_cases hy2 : 2090 < y
  · go_wp2_with fail
    go_ret
    exact ⟨rfl, b2⟩
  have d1 : W2.cell? ⟨g1, 1, none⟩ = some (.int .u8 er.kd) := e3.cell 1
  by_cases hkd : er.kd = 2
  rotate_left
  · have hkb : (er.kd != 2) = true := by rw [bne_iff_ne]; exact hkd
    go_wp2_with fail
    go_ret
    exact ⟨rfl, b2⟩
  have hkb : (er.kd != 2) = false := by rw [hkd]; rfl
  have d3 : W2.cell? ⟨g1, 3, none⟩ = some (.string er.ru) := e3.cell 3
  by_cases hrs1 : er.ru.size ≤ 1000
  rotate_left
  · have hI : (1000 : Int) < (er.ru.size : Int) := by omega
    go_wp2_with fail
    go_ret
    exact ⟨rfl, b2⟩
  have hI : ¬ (1000 : Int) < (er.ru.size : Int) := by omega
  have hru := rules_any h S er.ru W2 ((HS.out.below b2).more b2.size) (by omega)
  have hrb := HS.out.rb
  have hl := nmK_len S.rs er.ru S.rs.length
  have hl2 := HS.out.r.len
  have HM := Lib.hid (fun r (q : r ∈ nmK S.rs er.ru S.rs.length) => hrb r (nmK_mem q))
  obtain ⟨rs, hrs⟩ : ∃ rs, nmK S.rs er.ru S.rs.length = rs := ⟨_, rfl⟩
  rw [hrs] at hru hl HM
  clear hrb
  go_wp2_with (refine wpList_row_g rfl 26 _ rfl _ rfl _ _ _ _ x3 Tryd.underlying26 rfl (by kernel_rfl) ?_)
  refine hru.mono ?_; rintro e_ W3 ⟨hb, A1, c1, rfl, sl⟩
  have x4 := x3.below hb x3.lt; have e4 := e3.below hb e3.lt; have b3 := bcl b2 hb; clear hb x3 e3 b2 hru d1 d3 hkb
  have HRS := Lib.hid hrs; clear hrs
  have hrl : rs.length ≤ 12 := by omega
  go_upto_block 0 with fail
  go_cut [] (fun wx => Hid (Ok rs) ∧ Below W3.heap.size W3 wx)
  case first =>
    go_wp2_with fail
    go_loopw [47] (fun i wr => ∃ k : Nat, i = .int .i64 (k : Int) ∧ k ≤ rs.length ∧ (∀ j, j < k → RuOk (ru_ rs j)) ∧ Below W3.heap.size W3 wr) (fun i _ => rs.length - (intOf i).toNat)
    case atStart => exact ⟨0, rfl, Nat.zero_le _, fun j hj => absurd hj (Nat.not_lt_zero _), Below.refl _ _⟩
    case round =>
      obtain ⟨k, rfl, hk, hok, b⟩ := hrel
      have HO := Lib.hid hok; clear hok
      by_cases hlt : k < rs.length
      · have hltI : (k : Int) < (rs.length : Int) := by omega
        obtain ⟨ad, eA, hrow⟩ := (sl.below b).row (fun _ => rfl) Ru.nil hlt
        subst eA
        have hB := HM.out _ (getD_mem (L := rs) Ru.nil hlt)
        obtain ⟨r, hr⟩ : ∃ r, ru_ rs k = r := ⟨_, rfl⟩
        rw [show rs.getD k Ru.nil = r from hr] at hrow hB
        have HR := Lib.hid hr; clear hr
        have b5 := bcl b (bal (Below.refl _ wr) (.cells r.C 42)); have y1 := Blk.new wr 42 r.C
        go_upto_region 9 with (first | (refine wpList_at_g rfl 42 _ rfl _ _ r.C rfl _ hrow Tryd.underlying42 rfl (by kernel_rfl) ?_) | (refine wpList_store_new rfl 42 _ _ rfl rfl wr.heap.size r.C rfl rfl _ ruZ wr rfl rfl rfl (by kernel_rfl) (by kernel_rfl) ?_))
        clear hrow b
        generalize wr.alloc (.cells r.C 42) = V at *
        obtain ⟨q, hq⟩ : ∃ q, wr.heap.size = q := ⟨_, rfl⟩
        simp only [hq] at y1 ⊢
        clear hq
        have hch := rule_any r V hB
        by_cases hro : RuOk r
        · rw [ruE_0.2 hro] at hch
          have HO2 := Lib.hid (show ∀ j, j < k + 1 → RuOk (ru_ rs j) from fun j hj => by
            by_cases q : j = k
            · rw [q, HR.out]; exact hro
            · exact HO.out j (by omega))
          clear hro
          go_wp2_with (refine wpList_row_g rfl 42 _ rfl _ rfl _ _ _ _ y1 Tryd.underlying42 rfl (by kernel_rfl) ?_)
          refine hch.mono ?_; rintro e_ V2 ⟨rfl, hb2⟩
          have b6 := bcl b5 hb2
          clear hch hb2 b5 y1
          go_wp2_with fail
          go_roundw
          case rel => exact ⟨k + 1, by go_num, by omega, HO2.out, b6⟩
          case measure => simp [intOf]; omega
        · have hE2 : ruE r = 2 := by rcases ruE_02 r with q | q
                                     · exact absurd (ruE_0.1 q) hro
                                     · exact q
          rw [hE2] at hch
          have hno : ¬ Ok rs := fun h => hro (by rw [← HR.out]; exact h.at_ hlt)
          clear hro hE2
          go_wp2_with (refine wpList_row_g rfl 42 _ rfl _ rfl _ _ _ _ y1 Tryd.underlying42 rfl (by kernel_rfl) ?_)
          refine hch.mono ?_; rintro e_ V2 ⟨rfl, hb2⟩
          have b6 := bcl b5 hb2
          have B6 := bcl b3 b6
          have x6 := x4.below b6 x4.lt; have e6 := e4.below b6 e4.lt
          have hsv := saved_no h S er 0 rs V2 HRS.out ((HS.out.below B6).more B6.size) hn hkd (hT.below hT.1 B6) hno
          clear hch hb2 b5 y1
          go_wp2_with (first | (refine wpList_row_g rfl 26 _ rfl _ rfl _ _ _ _ x6 Tryd.underlying26 rfl (by kernel_rfl) ?_) | (refine wpList_row_g rfl 37 _ rfl _ rfl _ _ _ _ e6 Tryd.underlying37 rfl (by kernel_rfl) ?_))
          refine hsv.mono ?_; rintro e_ V3 ⟨rfl, hb3⟩
          go_wp2_with fail
          go_ret
          exact ⟨rfl, bcl B6 hb3⟩
      · obtain rfl : k = rs.length := by omega
        have hltI : ¬ (rs.length : Int) < (rs.length : Int) := by omega
        have hokk : Ok rs := fun r hr => by
          obtain ⟨j, hj, rfl⟩ := List.getElem_of_mem hr
          have := HO.out j hj
          unfold ru_ at this
          rwa [List.getD_eq_getElem?_getD, List.getElem?_eq_getElem hj] at this
        have HOK := Lib.hid hokk; clear hokk
        go_wp2_with fail
        go_meet
        exact ⟨HOK, b⟩
  case rest =>
    obtain ⟨HOK, b5⟩ := hcut
    have B := bcl b3 b5; have x5 := x4.below b5 x4.lt; have e5 := e4.below b5 e4.lt; have sl5 := (sl.below b5).more b5.size
    go_step
    exact sv_b HS hn hkd hT HOK HRS.out hrl HM (by omega) (by omega) hG0 hG1 B x5 e5 sl5
end Go.Proofs.YtoklcbkphipmkaaDoor.Oc
