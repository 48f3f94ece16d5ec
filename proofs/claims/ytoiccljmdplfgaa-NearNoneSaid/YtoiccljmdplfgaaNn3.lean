/-
  NearNone: what stands behind the loop.
-/
import Derived.Test.YtoiccljmdplfgaaNnM
import Derived.Deep.DrawnRows
namespace Go.Proofs.Ytoiccljmdplfgaa.Nr
open Go.ChangeShapes Go.WideShapes Go.ChangeAt Go.RowKit Go.Shelf
open Go.Proofs.Ytoiccljmdplfgaa
open Go.Proofs.Ytoiccljmdplfgaa.Wd
open Go.Proofs.Ytoiccljmdplfgaa.Pl
open Go.Proofs.Ytoiccljmdplfgaa.Nv
open Go.Proofs.Ytoiccljmdplfgaa.Ar
open Go.Proofs.Ytoiccljmdplfgaa.Ld
open Go.Proofs.Ytoiccljmdplfgaa.So (ordF ordF_pm ordF_sd sort_any Pm Sd Lt)
open Go.Proofs.Ytoiccljmdplfgaa.Sr (SoR Hd key net key_inj)
open Go.Proofs.Ytoiccljmdplfgaa.Lk (lead zone_any)
set_option linter.unusedVariables false
set_option linter.unusedSimpArgs false
attribute [local go_sem ↓] Go.wp_at_zero Go.wp_at_succ
attribute [local go_sem ↓] ldP_sem ldS_sem ldPl_sem
attribute [local go_sem] ldSem_run
def tl : Nat → Code → Code
  | 0, c => c
  | k + 1, .seq _ b => tl k b
  | _ + 1, c => c
noncomputable def bdy : Code := (Try.f10.body).getD .skip
theorem bool_info : (Try.prog.info? 4).map (fun i => (i.zero, i.size, i.bytes)) = some (some (.bool false), 1, 1) := by kernel_rfl
theorem t19_mk {w W : World} {gp gm g gs n : Nat} {h : Hd} {p : P2} {a m : Pc} {q : Addr} {ord : Nat → Nat} {fs : Nat → Value} (hx : Blk W w.heap.size 65 h.C) (hp : Blk W gp 23 p.A) (hz : Blk W gm 67 m.C) (rg : W.rowIs g 3 n (fun j => .int .i64 (ord j : Int))) (rs : W.rowIs gs 4 n fs) (iv : BI w W) (hrow : Row w w.heap.size q a.C) :
    Blk W w.heap.size 65 h.C ∧ Blk W gp 23 p.A ∧ Blk W gm 67 m.C ∧ W.rowIs g 3 n (fun j => .int .i64 (ord j : Int)) ∧ W.rowIs gs 4 n fs ∧ BI w W ∧ ldT 23 (.pointer (some ⟨q.block, q.off + 1, none⟩)) W = some a.p.A ∧ ldT 23 (.pointer (some ⟨gp, 0, none⟩)) W = some p.A :=
  ⟨hx, hp, hz, rg, rs, iv, ld_row (row_p (hrow.below iv.b)), ldT_of (ld_seg hp Try.underlying23 rfl (by kernel_rfl) (by kernel_rfl))⟩
theorem t19_on {w W W2 : World} {gp gm g gs n : Nat} {h : Hd} {p : P2} {a m : Pc} {q : Addr} {ord : Nat → Nat} {fs : Nat → Value} (hrow : Row w w.heap.size q a.C) (k : Blk W w.heap.size 65 h.C ∧ Blk W gp 23 p.A ∧ Blk W gm 67 m.C ∧ W.rowIs g 3 n (fun j => .int .i64 (ord j : Int)) ∧ W.rowIs gs 4 n fs ∧ BI w W ∧ ldT 23 (.pointer (some ⟨q.block, q.off + 1, none⟩)) W = some a.p.A ∧ ldT 23 (.pointer (some ⟨gp, 0, none⟩)) W = some p.A) (hb : Below W.heap.size W W2) :
    Blk W2 w.heap.size 65 h.C ∧ Blk W2 gp 23 p.A ∧ Blk W2 gm 67 m.C ∧ W2.rowIs g 3 n (fun j => .int .i64 (ord j : Int)) ∧ W2.rowIs gs 4 n fs ∧ BI w W2 ∧ ldT 23 (.pointer (some ⟨q.block, q.off + 1, none⟩)) W2 = some a.p.A ∧ ldT 23 (.pointer (some ⟨gp, 0, none⟩)) W2 = some p.A := by
  obtain ⟨hx, hp, hz, rg, rs, iv, _⟩ := k
  exact t19_mk (hx.below hb hx.lt) (hp.below hb hp.lt) (hz.below hb hz.lt) (row_below rg hb) (row_below rs hb) (iv.call hb) hrow
theorem t38_mk {w W : World} {gp gm g n o0 : Nat} {p : P2} {a m : Pc} {q : Addr} {ord : Nat → Nat} (ho : ord 0 = o0) (hn : 0 < n) (hp : Blk W gp 23 p.A) (hz : Blk W gm 67 m.C) (rg : W.rowIs g 3 n (fun j => .int .i64 (ord j : Int))) (iv : BI w W) (hrow : Row w w.heap.size q a.C) :
    Blk W gp 23 p.A ∧ Blk W gm 67 m.C ∧ W.rowIs g 3 n (fun j => .int .i64 (ord j : Int)) ∧ BI w W ∧ ldT 23 (.pointer (some ⟨q.block, q.off + 1, none⟩)) W = some a.p.A ∧ ldT 23 (.pointer (some ⟨gm, 1, none⟩)) W = some m.p.A ∧ ldT 23 (.pointer (some ⟨gp, 0, none⟩)) W = some p.A ∧ W.cell? ⟨g, 0, none⟩ = some (.int .i64 (o0 : Int)) :=
  ⟨hp, hz, rg, iv, ld_row (row_p (hrow.below iv.b)), ldT_of (ld_seg hz Try.underlying23 rfl (by kernel_rfl) (by kernel_rfl)), ldT_of (ld_seg hp Try.underlying23 rfl (by kernel_rfl) (by kernel_rfl)), by rw [← ho]; exact rg.cell hn⟩
theorem t38_on {w W W2 : World} {gp gm g n o0 : Nat} {p : P2} {a m : Pc} {q : Addr} {ord : Nat → Nat} (ho : ord 0 = o0) (hn : 0 < n) (hrow : Row w w.heap.size q a.C) (k : Blk W gp 23 p.A ∧ Blk W gm 67 m.C ∧ W.rowIs g 3 n (fun j => .int .i64 (ord j : Int)) ∧ BI w W ∧ ldT 23 (.pointer (some ⟨q.block, q.off + 1, none⟩)) W = some a.p.A ∧ ldT 23 (.pointer (some ⟨gm, 1, none⟩)) W = some m.p.A ∧ ldT 23 (.pointer (some ⟨gp, 0, none⟩)) W = some p.A ∧ W.cell? ⟨g, 0, none⟩ = some (.int .i64 (o0 : Int))) (hb : Below W.heap.size W W2) :
    Blk W2 gp 23 p.A ∧ Blk W2 gm 67 m.C ∧ W2.rowIs g 3 n (fun j => .int .i64 (ord j : Int)) ∧ BI w W2 ∧ ldT 23 (.pointer (some ⟨q.block, q.off + 1, none⟩)) W2 = some a.p.A ∧ ldT 23 (.pointer (some ⟨gm, 1, none⟩)) W2 = some m.p.A ∧ ldT 23 (.pointer (some ⟨gp, 0, none⟩)) W2 = some p.A ∧ W2.cell? ⟨g, 0, none⟩ = some (.int .i64 (o0 : Int)) := by
  obtain ⟨hp, hz, rg, iv, _⟩ := k
  exact t38_mk ho hn (hp.below hb hp.lt) (hz.below hb hz.lt) (row_below rg hb) (iv.call hb) hrow
set_option maxRecDepth 100000 in
set_option maxHeartbeats 25600000 in
theorem none_d {A : Option Addr} {n c : Nat} {L : List Pc} {h : Hd} {S : Sr.So} {p : P2} {m : Pc} {d : Int} {w : World} {gp gm g : Nat} {ord : Nat → Nat} {w8 : World} {v5 v9 v10 v12 v13 v14 v15 v16 v17 v18 v19 v20 v21 v22 v23 v24 v25 v26 v27 v28 v29 v30 v31 v32 v33 v34 v35 v36 v37 v38 v39 v40 v41 v42 v43 v44 v45 v46 v47 v48 v49 v50 v51 v52 v53 v54 v55 v56 v57 v58 v59 v60 v61 v62 v63 v64 v65 v66 v67 v68 v69 v70 v71 v72 v73 v74 v75 v76 v77 v78 v79 v80 v81 v82 v83 v84 v85 v86 v87 v88 v89 v90 v91 v92 v93 v94 v95 v96 v97 v98 v99 v100 v101 v102 v103 v104 v105 v106 v107 v108 v109 v110 v111 v112 v113 v114 v115 v116 v117 v118 v119 v120 v121 v122 v123 v124 v125 v126 v127 v128 v129 v130 v131 v132 v133 v134 v135 v136 v137 v138 v139 v140 v141 v142 v143 v144 v145 v146 v147 v148 v149 v150 v151 v152 v153 v154 v155 v156 v157 v158 v159 v160 v161 v162 v163 v164 v165 v166 v167 v168 v169 v170 v171 v172 v173 v174 v175 v176 v177 v178 v179 v180 v181 v182 v183 v184 v185 v186 v187 v188 v189 v190 v191 v192 v193 v194 v195 v196 v197 v198 v199 v200 v201 v202 v203 v204 v205 v206 v207 v208 v209 v210 v211 v212 v213 v214 v215 v216 v217 v218 v219 v220 v221 v222 v223 v224 v225 v226 v227 v228 v229 v230 v231 : Value}
    (hR : Pcs w w.heap.size A n L) (hby : n * 48 ≤ 140737488351232) (hS : SoR w w.heap.size h S) (hmb : m.t.size ≤ maxLen ∧ m.z.size ≤ maxLen) (hn60 : n ≤ 59) (hzl : h.zn ≤ 12) (hll2 : h.ln ≤ 20) (hgp : w.heap.size ≤ gp) (hgm : w.heap.size ≤ gm) (HNC : Hid (ncE L p = 0)) (HORD : Hid (ordF (far_ L p) n = ord)) (HORL : Hid (∀ j, j < n → ord j < n)) (i8 : BI w w8) (x8 : Blk w8 w.heap.size 65 h.C) (y8 : Blk w8 gp 23 p.A) (z8 : Blk w8 gm 67 m.C) (rg : w8.rowIs g 3 n (fun j => .int .i64 (ord j : Int))) :
    (tl 13 bdy).wp Try.prog (bodyPost Try.prog Try.f10 (fun e w' => e = .returned (.bool true) ∧ Below w.heap.size w w')) ⟨#[.slice A n c, h.V, p.V, m.V, .int .i64 d, v5, .pointer (some ⟨w.heap.size, 0, none⟩), .pointer (some ⟨gp, 0, none⟩), .pointer (some ⟨gm, 0, none⟩), v9, v10, .slice (some ⟨g, 0, none⟩) n n, v12, v13, v14, v15, v16, v17, v18, v19, v20, v21, v22, v23, v24, v25, v26, v27, v28, v29, v30, v31, v32, v33, v34, v35, v36, v37, v38, v39, v40, v41, v42, v43, v44, v45, v46, v47, v48, v49, v50, v51, v52, v53, v54, v55, v56, v57, v58, v59, v60, v61, v62, v63, v64, v65, v66, v67, v68, v69, v70, v71, v72, v73, v74, v75, v76, v77, v78, v79, v80, v81, v82, v83, v84, v85, v86, v87, v88, v89, v90, v91, v92, v93, v94, v95, v96, v97, v98, v99, v100, v101, v102, v103, v104, v105, v106, v107, v108, v109, v110, v111, v112, v113, v114, v115, v116, v117, v118, v119, v120, v121, v122, v123, v124, v125, v126, v127, v128, v129, v130, v131, v132, v133, v134, v135, v136, v137, v138, v139, v140, v141, v142, v143, v144, v145, v146, v147, v148, v149, v150, v151, v152, v153, v154, v155, v156, v157, v158, v159, v160, v161, v162, v163, v164, v165, v166, v167, v168, v169, v170, v171, v172, v173, v174, v175, v176, v177, v178, v179, v180, v181, v182, v183, v184, v185, v186, v187, v188, v189, v190, v191, v192, v193, v194, v195, v196, v197, v198, v199, v200, v201, v202, v203, v204, v205, v206, v207, v208, v209, v210, v211, v212, v213, v214, v215, v216, v217, v218, v219, v220, v221, v222, v223, v224, v225, v226, v227, v228, v229, v230, v231], []⟩ w8 := by
  have hll := hR.len
  have hnm : n + 1 ≤ 2932031007404 := by omega
  have hm : n ≤ maxLen := by unfold maxLen; omega
  obtain ⟨i0i, hi0', hz0, hz1, hz2⟩ := info_parts pl_info
  have HI := Lib.hid hi0'
  clear hi0'
  try dsimp only
  conv => arg 2; whnf
  by_cases hn0 : n = 0
  · have hn1 : ((n : Int) == 0) = true := by simp [hn0]
    go_wp2_with fail
    go_ret
    exact ⟨rfl, i8⟩
  · have hn1 : ((n : Int) == 0) = false := by simp; omega
    have b9 := Blk.new w8 67 m.C
    have i9 := i8.alloc (.cells m.C 67); have x9 := x8.alloc (.cells m.C 67); have y9 := y8.alloc (.cells m.C 67); have z9 := z8.alloc (.cells m.C 67); have r9 := rg.alloc (.cells m.C 67)
    have hpm := pcheck_any _ 1 1 [m] _ (pcs_of (L := [m]) b9 (by simp [flatC]) (fun q hq => by rw [List.mem_singleton.1 hq]; exact hmb)) (by decide)
    clear i8 x8 y8 rg b9
    go_wp2_with (refine wpList_row_g rfl 67 _ rfl _ rfl _ _ _ _ z8 Try.underlying67 rfl (by kernel_rfl) ?_)
    refine hpm.mono ?_; rintro e w10 ⟨rfl, hb⟩
    have i10 := i9.call hb; have x10 := x9.below hb x9.lt; have y10 := y9.below hb y9.lt; have z10 := z9.below hb z9.lt; have r10 := row_below r9 hb
    clear i9 x9 y9 z9 r9 hb hpm z8
    by_cases hp1 : pcE [m] = 0
    rotate_left
    · have hq1 : (pcE [m] != 0) = true := by simp [hp1]
      generalize pcE [m] = E1 at *
      go_wp2_with fail
      go_ret
      exact ⟨rfl, i10⟩
    have hq1 : (pcE [m] != 0) = false := by simp [hp1]
    have hnc1 : ncE (L ++ [m]) p = 0 := by
      have h0 := HNC.out
      unfold ncE at h0 ⊢
      by_cases q : pcE L = 0
      · rw [if_pos q] at h0
        rw [if_pos (pc_both q hp1 (by rw [List.length_append, List.length_singleton]; omega))]; exact h0
      · rw [if_neg q] at h0; exact absurd h0 q
    have hfm := first_more (m := m) (p := p) hR.len (show 0 < n by omega)
    have hne1 := near_ok A n c L p w10 ((hR.below i10.b).more i10.b.size) hm HNC.out _ (sort_any (far_ L p) n (by omega))
    have hnr := fun (W : World) (A9 : Option Addr) (c9 : Nat) (k : Pcs W W.heap.size A9 (n + 1) (L ++ [m])) => near_ok A9 (n + 1) c9 (L ++ [m]) p W k (by unfold maxLen; omega) hnc1 _ (sort_any (far_ (L ++ [m]) p) (n + 1) (by omega))
    rw [HORD.out, if_neg hn0, if_neg hn0] at hne1
    simp only [if_neg (Nat.succ_ne_zero n)] at hnr
    rw [HORD.out] at hfm
    generalize ordF (far_ (L ++ [m]) p) (n + 1) 0 = o2 at *
    have ho0 := HORL.out 0 (by omega)
    have HFM := Lib.hid hfm
    clear hfm hnc1 hp1
    generalize pcE [m] = E1 at *
    obtain ⟨o0, hoo⟩ : ∃ o, ord 0 = o := ⟨_, rfl⟩
    rw [hoo] at hne1 ho0
    have HOO := Lib.hid hoo; clear hoo
    go_wp2_with (refine wpList_row_g rfl 23 _ rfl _ rfl _ _ _ _ y10 Try.underlying23 rfl (by kernel_rfl) ?_)
    refine hne1.mono ?_; rintro e w11 ⟨rfl, hb⟩
    have i11 := i10.call hb; have x11 := x10.below hb x10.lt; have y11 := y10.below hb y10.lt; have z11 := z10.below hb z10.lt; have r11 := row_below r10 hb
    clear i10 x10 y10 z10 r10 hb hne1
    go_upto_region 37 with fail
    obtain ⟨W0, rfl⟩ : ∃ W0 : World, W0 = w11 := ⟨_, rfl⟩
    have x0 : Blk W0.drew w.heap.size 65 h.C := x11
    have y0 : Blk W0.drew gp 23 p.A := y11
    have z0 : Blk W0.drew gm 67 m.C := z11
    have iv0 : BI w W0.drew := i11.drew
    have r0 : W0.drew.rowIs g 3 n (fun j => .int .i64 (ord j : Int)) := r11
    clear x11 y11 z11 i11 r11
    go_cut [27, 28] (fun v u wx => v = .int .i64 (o2 : Int) ∧ u = .int .i64 0 ∧ BI w wx ∧ Blk wx gp 23 p.A ∧ Blk wx gm 67 m.C ∧ wx.rowIs g 3 n (fun j => .int .i64 (ord j : Int)))
    case first =>
      refine wp_region_held_drew (S := fun w' => Blk w' w.heap.size 65 h.C ∧ ldT 65 (.pointer (some ⟨w.heap.size, 0, none⟩)) w' = some h.C ∧ Blk w' gp 23 p.A ∧ ldT 23 (.pointer (some ⟨gp, 0, none⟩)) w' = some p.A ∧ Blk w' gm 67 m.C ∧ ldT 67 (.pointer (some ⟨gm, 0, none⟩)) w' = some m.C) (by kernel_rfl) (sp_of x0 y0 z0) (fun hHeld => ?_)
      refine wpAnyH_take (i := 1) (oi := { dst := some 178, op := Op.move (Operand.tmp 0), type := 51, pos := "law.go:93", after := #[], guard := none }) (v := ?_) rfl (by kernel_rfl) (by kernel_rfl) (by kernel_rfl) (fun _ _ _ h => h) (Or.inl ⟨by rfl, ?_⟩) hHeld ?_
      rotate_left
      · intro w hSw
        try dsimp only at hSw
        go_simp
        try with_reducible rfl
      try simp only [Act.put, List.setIfInBounds_toArray, List.set_cons_zero, List.set_cons_succ]
      refine wpAnyH_take (i := 3) (oi := { dst := some 180, op := Op.load 67 (Operand.tmp 8), type := 67, pos := "law.go:93", after := #[], guard := none }) (v := ?_) rfl (by kernel_rfl) (by kernel_rfl) (by kernel_rfl) (fun _ _ _ h => h) (Or.inl ⟨by rfl, ?_⟩) hHeld ?_
      rotate_left
      · intro w hSw
        try dsimp only at hSw
        go_simp
        try with_reducible rfl
      try simp only [Act.put, List.setIfInBounds_toArray, List.set_cons_zero, List.set_cons_succ]
      refine wpAnyH_take (i := 6) (oi := { dst := some 183, op := Op.load 23 (Operand.tmp 7), type := 23, pos := "law.go:93", after := #[], guard := none }) (v := ?_) rfl (by kernel_rfl) (by kernel_rfl) (by kernel_rfl) (fun _ _ _ h => h) (Or.inl ⟨by rfl, ?_⟩) hHeld ?_
      rotate_left
      · intro w hSw
        try dsimp only at hSw
        go_simp
        try with_reducible rfl
      try simp only [Act.put, List.setIfInBounds_toArray, List.set_cons_zero, List.set_cons_succ]
      refine wpAnyH_ready (rs := [0, 4]) (by kernel_rfl) (by simp) ?_
      refine AllReadyH.cons (o := { dst := some 177, op := Op.buildSlice 51 0 #[], type := 51, pos := "law.go:93", after := #[], guard := none }) rfl (fun K hK => ?_) (AllReadyH.cons (o := { dst := some 181, op := Op.buildSlice 51 1 #[(0, Operand.tmp 180)], type := 51, pos := "law.go:93", after := #[{ on := 3, ground := Ground.data }], guard := none }) rfl (fun K hK => ?_) (AllReadyH.nil))
      · skip
        go_simp
        have own_1 := own_xP (base := W0.drew.heap.size) (W0.drew) (Nat.le_refl W0.drew.heap.size)
        have iv_1 := iv0.alloc (.cells (#[] : Array Value) 67)
        have x_1 := x0.alloc (.cells (#[] : Array Value) 67)
        have y_1 := y0.alloc (.cells (#[] : Array Value) 67)
        have z_1 := z0.alloc (.cells (#[] : Array Value) 67)
        have r_1 := r0.alloc (.cells (#[] : Array Value) 67)
        have sz_1 : W0.drew.heap.size ≤ ((W0.drew).alloc (.cells (#[] : Array Value) 67)).heap.size := by rw [sz1 _ _ rfl]; exact Nat.le_succ_of_le (Nat.le_refl W0.drew.heap.size)
        refine hK.out _ _ (sp_of x_1 y_1 z_1) (fun hHeld2 => ?_)
        clear hK K hHeld; have hHeld := hHeld2; clear hHeld2
        try simp only [Act.put, List.setIfInBounds_toArray, List.set_cons_zero, List.set_cons_succ]
        refine wpAnyH_ready (rs := [2, 4]) (by kernel_rfl) (by simp) ?_
        refine AllReadyH.cons (o := { dst := some 179, op := Op.call { callee := Callee.builtin Builtin.append, args := #[Operand.tmp 177, Operand.tmp 178], argTypes := #[51, 51] }, type := 51, pos := "law.go:93", after := #[{ on := 0, ground := Ground.data }, { on := 1, ground := Ground.data }], guard := none }) rfl (fun K hK => ?_) (AllReadyH.cons (o := { dst := some 181, op := Op.buildSlice 51 1 #[(0, Operand.tmp 180)], type := 51, pos := "law.go:93", after := #[{ on := 3, ground := Ground.data }], guard := none }) rfl (fun K hK => ?_) (AllReadyH.nil))
        · skip
          refine wp_append_any _ (.tmp 177) (.tmp 178) 51 rfl W0.drew.heap.size 67 i0i _ 4 48 Try.underlying51 HI.out hz0 hz1 hz2 rfl (by decide) _ 0 _ rfl own_1 _ _ n c (flatC L) rfl (hR.below iv_1.b).r (flatC_one L) (by unfold maxLen; omega) (by omega) sz_1 ?_
          intro v_2 W_2 own_2 hg_2 hat_2
          have iv_2 : BI w W_2 := Below.grown iv_1.b hg_2 iv_1.b.size (fun g hg => Nat.le_trans iv0.b.size (own_1.lt g hg).1)
          have x_2 := x_1.grown hg_2 (fun e => by have q1 := (own_1.lt _ e.symm).1; have q2 := x0.lt; omega)
          have y_2 := y_1.grown hg_2 (fun e => by have q1 := (own_1.lt _ e.symm).1; have q2 := y0.lt; omega)
          have z_2 := z_1.grown hg_2 (fun e => by have q1 := (own_1.lt _ e.symm).1; have q2 := z0.lt; omega)
          have r_2 := r_1.of_block (hg_2.block _ r_1.lt (fun e => by have q1 := (own_1.lt _ e.symm).1; have q2 := r0.lt; omega))
          have sz_2 : W0.drew.heap.size ≤ W_2.heap.size := Nat.le_trans sz_1 hg_2.size
          refine hK.out _ _ (sp_of x_2 y_2 z_2) (fun hHeld2 => ?_)
          clear hK K hHeld; have hHeld := hHeld2; clear hHeld2
          try simp only [Act.put, List.setIfInBounds_toArray, List.set_cons_zero, List.set_cons_succ]
          refine wpAnyH_ready (rs := [4]) (by kernel_rfl) (by simp) ?_
          refine AllReadyH.cons (o := { dst := some 181, op := Op.buildSlice 51 1 #[(0, Operand.tmp 180)], type := 51, pos := "law.go:93", after := #[{ on := 3, ground := Ground.data }], guard := none }) rfl (fun K hK => ?_) (AllReadyH.nil)
          go_simp
          have q_3 := Blk.new (W_2) 67 m.C
          have own_3 := own_2.alloc (.cells m.C 67)
          have iv_3 := iv_2.alloc (.cells m.C 67)
          have x_3 := x_2.alloc (.cells m.C 67)
          have y_3 := y_2.alloc (.cells m.C 67)
          have z_3 := z_2.alloc (.cells m.C 67)
          have r_3 := r_2.alloc (.cells m.C 67)
          have sz_3 : W0.drew.heap.size ≤ ((W_2).alloc (.cells m.C 67)).heap.size := by rw [sz1 _ _ rfl]; exact Nat.le_succ_of_le sz_2
          refine hK.out _ _ (sp_of x_3 y_3 z_3) (fun hHeld2 => ?_)
          clear hK K hHeld; have hHeld := hHeld2; clear hHeld2
          try simp only [Act.put, List.setIfInBounds_toArray, List.set_cons_zero, List.set_cons_succ]
          refine wpAnyH_ready (rs := [5]) (by kernel_rfl) (by simp) ?_
          refine AllReadyH.cons (o := { dst := some 182, op := Op.call { callee := Callee.builtin Builtin.append, args := #[Operand.tmp 179, Operand.tmp 181], argTypes := #[51, 51] }, type := 51, pos := "law.go:93", after := #[{ on := 2, ground := Ground.data }, { on := 4, ground := Ground.data }, { on := 2, ground := Ground.chain }], guard := none }) rfl (fun K hK => ?_) (AllReadyH.nil)
          refine wp_append_any _ (.tmp 179) (.tmp 181) 51 rfl W0.drew.heap.size 67 i0i _ 4 48 Try.underlying51 HI.out hz0 hz1 hz2 rfl (by decide) _ (0 + n) _ rfl own_3 _ _ 1 1 (flatC [m]) rfl (one_readsC q_3) (flatC_one _) (by unfold maxLen; omega) (by omega) sz_3 ?_
          intro v_4 W_4 own_4 hg_4 hat_4
          have iv_4 : BI w W_4 := Below.grown iv_3.b hg_4 iv_3.b.size (fun g hg => Nat.le_trans iv0.b.size (own_3.lt g hg).1)
          have x_4 := x_3.grown hg_4 (fun e => by have q1 := (own_3.lt _ e.symm).1; have q2 := x0.lt; omega)
          have y_4 := y_3.grown hg_4 (fun e => by have q1 := (own_3.lt _ e.symm).1; have q2 := y0.lt; omega)
          have z_4 := z_3.grown hg_4 (fun e => by have q1 := (own_3.lt _ e.symm).1; have q2 := z0.lt; omega)
          have r_4 := r_3.of_block (hg_4.block _ r_3.lt (fun e => by have q1 := (own_3.lt _ e.symm).1; have q2 := r0.lt; omega))
          have sz_4 : W0.drew.heap.size ≤ W_4.heap.size := Nat.le_trans sz_3 hg_4.size
          rw [List.nil_append, ← flatC_app, Nat.zero_add] at own_4
          obtain ⟨g9, c9, e9, hc9⟩ := own_formP own_4 (by omega)
          subst e9
          refine hK.out _ _ (sp_of x_4 y_4 z_4) (fun hHeld2 => ?_)
          clear hK K hHeld; have hHeld := hHeld2; clear hHeld2
          try simp only [Act.put, List.setIfInBounds_toArray, List.set_cons_zero, List.set_cons_succ]
          refine wpAnyH_ready (rs := [7]) (by kernel_rfl) (by simp) ?_
          refine AllReadyH.cons (o := { dst := some 184, op := Op.call { callee := Callee.value (Operand.func 47), args := #[Operand.tmp 182, Operand.tmp 183], argTypes := #[51, 23] }, type := 75, pos := "law.go:93", after := #[{ on := 5, ground := Ground.data }, { on := 6, ground := Ground.data }, { on := 5, ground := Ground.chain }], guard := none }) rfl (fun K hK => ?_) (AllReadyH.nil)
          go_simp
          refine (hnr _ _ _ (pcs_app rfl own_4 hR hmb iv_4)).mono ?_; rintro e w_5 ⟨rfl, hb_5⟩
          have iv_5 := iv_4.call hb_5
          have x_5 := x_4.below hb_5 x_4.lt
          have y_5 := y_4.below hb_5 y_4.lt
          have z_5 := z_4.below hb_5 z_4.lt
          have r_5 := row_below r_4 hb_5
          try go_wp2_with fail
          refine hK.out _ _ (sp_of x_5 y_5 z_5) (fun hHeld2 => ?_)
          clear hK K hHeld; have hHeld := hHeld2; clear hHeld2
          try simp only [Act.put, List.setIfInBounds_toArray, List.set_cons_zero, List.set_cons_succ]
          refine wpAnyH_take (i := 8) (oi := { dst := some 176, op := Op.move (Operand.tmp 184), type := 75, pos := "law.go:93", after := #[{ on := 7, ground := Ground.data }], guard := none }) (v := ?_) rfl (by kernel_rfl) (by kernel_rfl) (by kernel_rfl) (fun _ _ _ h => h) (Or.inl ⟨by rfl, ?_⟩) hHeld ?_
          rotate_left
          · intro w hSw
            try dsimp only at hSw
            go_simp
            try with_reducible rfl
          try simp only [Act.put, List.setIfInBounds_toArray, List.set_cons_zero, List.set_cons_succ]
          refine wpAnyH_take (i := 9) (oi := { dst := some 185, op := Op.extract (Operand.tmp 176) 0, type := 3, pos := "law.go:93", after := #[{ on := 8, ground := Ground.data }], guard := none }) (v := ?_) rfl (by kernel_rfl) (by kernel_rfl) (by kernel_rfl) (fun _ _ _ h => h) (Or.inl ⟨by rfl, ?_⟩) hHeld ?_
          rotate_left
          · intro w hSw
            try dsimp only at hSw
            go_simp
            try with_reducible rfl
          try simp only [Act.put, List.setIfInBounds_toArray, List.set_cons_zero, List.set_cons_succ]
          refine wpAnyH_take (i := 10) (oi := { dst := some 186, op := Op.extract (Operand.tmp 176) 1, type := 25, pos := "law.go:93", after := #[{ on := 8, ground := Ground.data }, { on := 11, ground := Ground.gcOnly Departure.lateStores }], guard := none }) (v := ?_) rfl (by kernel_rfl) (by kernel_rfl) (by kernel_rfl) (fun _ _ _ h => h) (Or.inl ⟨by rfl, ?_⟩) hHeld ?_
          rotate_left
          · intro w hSw
            try dsimp only at hSw
            go_simp
            try with_reducible rfl
          try simp only [Act.put, List.setIfInBounds_toArray, List.set_cons_zero, List.set_cons_succ]
          refine wpAnyH_take (i := 11) (oi := { dst := some 27, op := Op.assign (Operand.tmp 185), type := 3, pos := "law.go:93", after := #[{ on := 9, ground := Ground.data }, { on := 7, ground := Ground.chain }, { on := 0, ground := Ground.phase }, { on := 1, ground := Ground.phase }, { on := 2, ground := Ground.phase }, { on := 3, ground := Ground.phase }, { on := 4, ground := Ground.phase }, { on := 5, ground := Ground.phase }, { on := 6, ground := Ground.phase }, { on := 7, ground := Ground.phase }, { on := 8, ground := Ground.phase }, { on := 9, ground := Ground.phase }, { on := 10, ground := Ground.textOnly Departure.lateStores }], guard := none }) (v := ?_) rfl (by kernel_rfl) (by kernel_rfl) (by kernel_rfl) (fun _ _ _ h => h) (Or.inl ⟨by rfl, ?_⟩) hHeld ?_
          rotate_left
          · intro w hSw
            try dsimp only at hSw
            go_simp
            try with_reducible rfl
          try simp only [Act.put, List.setIfInBounds_toArray, List.set_cons_zero, List.set_cons_succ]
          refine wpAnyH_take (i := 12) (oi := { dst := some 28, op := Op.assign (Operand.tmp 186), type := 25, pos := "law.go:93", after := #[{ on := 10, ground := Ground.data }, { on := 11, ground := Ground.chain }, { on := 0, ground := Ground.phase }, { on := 1, ground := Ground.phase }, { on := 2, ground := Ground.phase }, { on := 3, ground := Ground.phase }, { on := 4, ground := Ground.phase }, { on := 5, ground := Ground.phase }, { on := 6, ground := Ground.phase }, { on := 7, ground := Ground.phase }, { on := 8, ground := Ground.phase }, { on := 9, ground := Ground.phase }, { on := 10, ground := Ground.phase }, { on := 11, ground := Ground.phase }], guard := none }) (v := ?_) rfl (by kernel_rfl) (by kernel_rfl) (by kernel_rfl) (fun _ _ _ h => h) (Or.inl ⟨by rfl, ?_⟩) hHeld ?_
          rotate_left
          · intro w hSw
            try dsimp only at hSw
            go_simp
            try with_reducible rfl
          try simp only [Act.put, List.setIfInBounds_toArray, List.set_cons_zero, List.set_cons_succ]
          refine wpAnyH_done (by kernel_rfl) ?_ _
          clear hHeld
          go_wp2_with fail
          go_meet
          exact ⟨rfl, rfl, iv_5, y_5, z_5, r_5⟩
        · skip
          go_simp
          have q_6 := blk_at ((W0.drew).alloc (.cells (#[] : Array Value) 67)) 67 m.C (sz1 W0.drew _ rfl)
          have own_6 := own_1.alloc (.cells m.C 67)
          have iv_6 := iv_1.alloc (.cells m.C 67)
          have x_6 := x_1.alloc (.cells m.C 67)
          have y_6 := y_1.alloc (.cells m.C 67)
          have z_6 := z_1.alloc (.cells m.C 67)
          have r_6 := r_1.alloc (.cells m.C 67)
          have sz_6 : W0.drew.heap.size ≤ (((W0.drew).alloc (.cells (#[] : Array Value) 67)).alloc (.cells m.C 67)).heap.size := by rw [sz1 _ _ rfl]; exact Nat.le_succ_of_le sz_1
          refine hK.out _ _ (sp_of x_6 y_6 z_6) (fun hHeld2 => ?_)
          clear hK K hHeld; have hHeld := hHeld2; clear hHeld2
          try simp only [Act.put, List.setIfInBounds_toArray, List.set_cons_zero, List.set_cons_succ]
          refine wpAnyH_ready (rs := [2]) (by kernel_rfl) (by simp) ?_
          refine AllReadyH.cons (o := { dst := some 179, op := Op.call { callee := Callee.builtin Builtin.append, args := #[Operand.tmp 177, Operand.tmp 178], argTypes := #[51, 51] }, type := 51, pos := "law.go:93", after := #[{ on := 0, ground := Ground.data }, { on := 1, ground := Ground.data }], guard := none }) rfl (fun K hK => ?_) (AllReadyH.nil)
          refine wp_append_any _ (.tmp 177) (.tmp 178) 51 rfl W0.drew.heap.size 67 i0i _ 4 48 Try.underlying51 HI.out hz0 hz1 hz2 rfl (by decide) _ 0 _ rfl own_6 _ _ n c (flatC L) rfl (hR.below iv_6.b).r (flatC_one L) (by unfold maxLen; omega) (by omega) sz_6 ?_
          intro v_7 W_7 own_7 hg_7 hat_7
          have iv_7 : BI w W_7 := Below.grown iv_6.b hg_7 iv_6.b.size (fun g hg => Nat.le_trans iv0.b.size (own_6.lt g hg).1)
          have x_7 := x_6.grown hg_7 (fun e => by have q1 := (own_6.lt _ e.symm).1; have q2 := x0.lt; omega)
          have y_7 := y_6.grown hg_7 (fun e => by have q1 := (own_6.lt _ e.symm).1; have q2 := y0.lt; omega)
          have z_7 := z_6.grown hg_7 (fun e => by have q1 := (own_6.lt _ e.symm).1; have q2 := z0.lt; omega)
          have r_7 := r_6.of_block (hg_7.block _ r_6.lt (fun e => by have q1 := (own_6.lt _ e.symm).1; have q2 := r0.lt; omega))
          have q_7 := q_6.grown hg_7 (fun e => by first | (have e2 : some (W0.drew.heap.size + 1) = some W0.drew.heap.size := e; injection e2; omega) | (have e2 : some W0.drew.heap.size = some (W0.drew.heap.size + 1) := e; injection e2; omega))
          have sz_7 : W0.drew.heap.size ≤ W_7.heap.size := Nat.le_trans sz_6 hg_7.size
          refine hK.out _ _ (sp_of x_7 y_7 z_7) (fun hHeld2 => ?_)
          clear hK K hHeld; have hHeld := hHeld2; clear hHeld2
          try simp only [Act.put, List.setIfInBounds_toArray, List.set_cons_zero, List.set_cons_succ]
          refine wpAnyH_ready (rs := [5]) (by kernel_rfl) (by simp) ?_
          refine AllReadyH.cons (o := { dst := some 182, op := Op.call { callee := Callee.builtin Builtin.append, args := #[Operand.tmp 179, Operand.tmp 181], argTypes := #[51, 51] }, type := 51, pos := "law.go:93", after := #[{ on := 2, ground := Ground.data }, { on := 4, ground := Ground.data }, { on := 2, ground := Ground.chain }], guard := none }) rfl (fun K hK => ?_) (AllReadyH.nil)
          refine wp_append_any _ (.tmp 179) (.tmp 181) 51 rfl W0.drew.heap.size 67 i0i _ 4 48 Try.underlying51 HI.out hz0 hz1 hz2 rfl (by decide) _ (0 + n) _ rfl own_7 _ _ 1 1 (flatC [m]) rfl (one_readsC q_7) (flatC_one _) (by unfold maxLen; omega) (by omega) sz_7 ?_
          intro v_8 W_8 own_8 hg_8 hat_8
          have iv_8 : BI w W_8 := Below.grown iv_7.b hg_8 iv_7.b.size (fun g hg => Nat.le_trans iv0.b.size (own_7.lt g hg).1)
          have x_8 := x_7.grown hg_8 (fun e => by have q1 := (own_7.lt _ e.symm).1; have q2 := x0.lt; omega)
          have y_8 := y_7.grown hg_8 (fun e => by have q1 := (own_7.lt _ e.symm).1; have q2 := y0.lt; omega)
          have z_8 := z_7.grown hg_8 (fun e => by have q1 := (own_7.lt _ e.symm).1; have q2 := z0.lt; omega)
          have r_8 := r_7.of_block (hg_8.block _ r_7.lt (fun e => by have q1 := (own_7.lt _ e.symm).1; have q2 := r0.lt; omega))
          have sz_8 : W0.drew.heap.size ≤ W_8.heap.size := Nat.le_trans sz_7 hg_8.size
          rw [List.nil_append, ← flatC_app, Nat.zero_add] at own_8
          obtain ⟨g9, c9, e9, hc9⟩ := own_formP own_8 (by omega)
          subst e9
          refine hK.out _ _ (sp_of x_8 y_8 z_8) (fun hHeld2 => ?_)
          clear hK K hHeld; have hHeld := hHeld2; clear hHeld2
          try simp only [Act.put, List.setIfInBounds_toArray, List.set_cons_zero, List.set_cons_succ]
          refine wpAnyH_ready (rs := [7]) (by kernel_rfl) (by simp) ?_
          refine AllReadyH.cons (o := { dst := some 184, op := Op.call { callee := Callee.value (Operand.func 47), args := #[Operand.tmp 182, Operand.tmp 183], argTypes := #[51, 23] }, type := 75, pos := "law.go:93", after := #[{ on := 5, ground := Ground.data }, { on := 6, ground := Ground.data }, { on := 5, ground := Ground.chain }], guard := none }) rfl (fun K hK => ?_) (AllReadyH.nil)
          go_simp
          refine (hnr _ _ _ (pcs_app rfl own_8 hR hmb iv_8)).mono ?_; rintro e w_9 ⟨rfl, hb_9⟩
          have iv_9 := iv_8.call hb_9
          have x_9 := x_8.below hb_9 x_8.lt
          have y_9 := y_8.below hb_9 y_8.lt
          have z_9 := z_8.below hb_9 z_8.lt
          have r_9 := row_below r_8 hb_9
          try go_wp2_with fail
          refine hK.out _ _ (sp_of x_9 y_9 z_9) (fun hHeld2 => ?_)
          clear hK K hHeld; have hHeld := hHeld2; clear hHeld2
          try simp only [Act.put, List.setIfInBounds_toArray, List.set_cons_zero, List.set_cons_succ]
          refine wpAnyH_take (i := 8) (oi := { dst := some 176, op := Op.move (Operand.tmp 184), type := 75, pos := "law.go:93", after := #[{ on := 7, ground := Ground.data }], guard := none }) (v := ?_) rfl (by kernel_rfl) (by kernel_rfl) (by kernel_rfl) (fun _ _ _ h => h) (Or.inl ⟨by rfl, ?_⟩) hHeld ?_
          rotate_left
          · intro w hSw
            try dsimp only at hSw
            go_simp
            try with_reducible rfl
          try simp only [Act.put, List.setIfInBounds_toArray, List.set_cons_zero, List.set_cons_succ]
          refine wpAnyH_take (i := 9) (oi := { dst := some 185, op := Op.extract (Operand.tmp 176) 0, type := 3, pos := "law.go:93", after := #[{ on := 8, ground := Ground.data }], guard := none }) (v := ?_) rfl (by kernel_rfl) (by kernel_rfl) (by kernel_rfl) (fun _ _ _ h => h) (Or.inl ⟨by rfl, ?_⟩) hHeld ?_
          rotate_left
          · intro w hSw
            try dsimp only at hSw
            go_simp
            try with_reducible rfl
          try simp only [Act.put, List.setIfInBounds_toArray, List.set_cons_zero, List.set_cons_succ]
          refine wpAnyH_take (i := 10) (oi := { dst := some 186, op := Op.extract (Operand.tmp 176) 1, type := 25, pos := "law.go:93", after := #[{ on := 8, ground := Ground.data }, { on := 11, ground := Ground.gcOnly Departure.lateStores }], guard := none }) (v := ?_) rfl (by kernel_rfl) (by kernel_rfl) (by kernel_rfl) (fun _ _ _ h => h) (Or.inl ⟨by rfl, ?_⟩) hHeld ?_
          rotate_left
          · intro w hSw
            try dsimp only at hSw
            go_simp
            try with_reducible rfl
          try simp only [Act.put, List.setIfInBounds_toArray, List.set_cons_zero, List.set_cons_succ]
          refine wpAnyH_take (i := 11) (oi := { dst := some 27, op := Op.assign (Operand.tmp 185), type := 3, pos := "law.go:93", after := #[{ on := 9, ground := Ground.data }, { on := 7, ground := Ground.chain }, { on := 0, ground := Ground.phase }, { on := 1, ground := Ground.phase }, { on := 2, ground := Ground.phase }, { on := 3, ground := Ground.phase }, { on := 4, ground := Ground.phase }, { on := 5, ground := Ground.phase }, { on := 6, ground := Ground.phase }, { on := 7, ground := Ground.phase }, { on := 8, ground := Ground.phase }, { on := 9, ground := Ground.phase }, { on := 10, ground := Ground.textOnly Departure.lateStores }], guard := none }) (v := ?_) rfl (by kernel_rfl) (by kernel_rfl) (by kernel_rfl) (fun _ _ _ h => h) (Or.inl ⟨by rfl, ?_⟩) hHeld ?_
          rotate_left
          · intro w hSw
            try dsimp only at hSw
            go_simp
            try with_reducible rfl
          try simp only [Act.put, List.setIfInBounds_toArray, List.set_cons_zero, List.set_cons_succ]
          refine wpAnyH_take (i := 12) (oi := { dst := some 28, op := Op.assign (Operand.tmp 186), type := 25, pos := "law.go:93", after := #[{ on := 10, ground := Ground.data }, { on := 11, ground := Ground.chain }, { on := 0, ground := Ground.phase }, { on := 1, ground := Ground.phase }, { on := 2, ground := Ground.phase }, { on := 3, ground := Ground.phase }, { on := 4, ground := Ground.phase }, { on := 5, ground := Ground.phase }, { on := 6, ground := Ground.phase }, { on := 7, ground := Ground.phase }, { on := 8, ground := Ground.phase }, { on := 9, ground := Ground.phase }, { on := 10, ground := Ground.phase }, { on := 11, ground := Ground.phase }], guard := none }) (v := ?_) rfl (by kernel_rfl) (by kernel_rfl) (by kernel_rfl) (fun _ _ _ h => h) (Or.inl ⟨by rfl, ?_⟩) hHeld ?_
          rotate_left
          · intro w hSw
            try dsimp only at hSw
            go_simp
            try with_reducible rfl
          try simp only [Act.put, List.setIfInBounds_toArray, List.set_cons_zero, List.set_cons_succ]
          refine wpAnyH_done (by kernel_rfl) ?_ _
          clear hHeld
          go_wp2_with fail
          go_meet
          exact ⟨rfl, rfl, iv_9, y_9, z_9, r_9⟩
      · skip
        go_simp
        have q_10 := Blk.new (W0.drew) 67 m.C
        have iv_10 := iv0.alloc (.cells m.C 67)
        have x_10 := x0.alloc (.cells m.C 67)
        have y_10 := y0.alloc (.cells m.C 67)
        have z_10 := z0.alloc (.cells m.C 67)
        have r_10 := r0.alloc (.cells m.C 67)
        have sz_10 : W0.drew.heap.size ≤ ((W0.drew).alloc (.cells m.C 67)).heap.size := by rw [sz1 _ _ rfl]; exact Nat.le_succ_of_le (Nat.le_refl W0.drew.heap.size)
        refine hK.out _ _ (sp_of x_10 y_10 z_10) (fun hHeld2 => ?_)
        clear hK K hHeld; have hHeld := hHeld2; clear hHeld2
        try simp only [Act.put, List.setIfInBounds_toArray, List.set_cons_zero, List.set_cons_succ]
        refine wpAnyH_ready (rs := [0]) (by kernel_rfl) (by simp) ?_
        refine AllReadyH.cons (o := { dst := some 177, op := Op.buildSlice 51 0 #[], type := 51, pos := "law.go:93", after := #[], guard := none }) rfl (fun K hK => ?_) (AllReadyH.nil)
        go_simp
        have own_11 := own_xP (base := W0.drew.heap.size) ((W0.drew).alloc (.cells m.C 67)) sz_10
        rw [sz1 W0.drew _ rfl] at own_11
        have q_11 := q_10.alloc (.cells (#[] : Array Value) 67)
        have iv_11 := iv_10.alloc (.cells (#[] : Array Value) 67)
        have x_11 := x_10.alloc (.cells (#[] : Array Value) 67)
        have y_11 := y_10.alloc (.cells (#[] : Array Value) 67)
        have z_11 := z_10.alloc (.cells (#[] : Array Value) 67)
        have r_11 := r_10.alloc (.cells (#[] : Array Value) 67)
        have sz_11 : W0.drew.heap.size ≤ (((W0.drew).alloc (.cells m.C 67)).alloc (.cells (#[] : Array Value) 67)).heap.size := by rw [sz1 _ _ rfl]; exact Nat.le_succ_of_le sz_10
        refine hK.out _ _ (sp_of x_11 y_11 z_11) (fun hHeld2 => ?_)
        clear hK K hHeld; have hHeld := hHeld2; clear hHeld2
        try simp only [Act.put, List.setIfInBounds_toArray, List.set_cons_zero, List.set_cons_succ]
        refine wpAnyH_ready (rs := [2]) (by kernel_rfl) (by simp) ?_
        refine AllReadyH.cons (o := { dst := some 179, op := Op.call { callee := Callee.builtin Builtin.append, args := #[Operand.tmp 177, Operand.tmp 178], argTypes := #[51, 51] }, type := 51, pos := "law.go:93", after := #[{ on := 0, ground := Ground.data }, { on := 1, ground := Ground.data }], guard := none }) rfl (fun K hK => ?_) (AllReadyH.nil)
        refine wp_append_any _ (.tmp 177) (.tmp 178) 51 rfl W0.drew.heap.size 67 i0i _ 4 48 Try.underlying51 HI.out hz0 hz1 hz2 rfl (by decide) _ 0 _ rfl own_11 _ _ n c (flatC L) rfl (hR.below iv_11.b).r (flatC_one L) (by unfold maxLen; omega) (by omega) sz_11 ?_
        intro v_12 W_12 own_12 hg_12 hat_12
        have iv_12 : BI w W_12 := Below.grown iv_11.b hg_12 iv_11.b.size (fun g hg => Nat.le_trans iv0.b.size (own_11.lt g hg).1)
        have x_12 := x_11.grown hg_12 (fun e => by have q1 := (own_11.lt _ e.symm).1; have q2 := x0.lt; omega)
        have y_12 := y_11.grown hg_12 (fun e => by have q1 := (own_11.lt _ e.symm).1; have q2 := y0.lt; omega)
        have z_12 := z_11.grown hg_12 (fun e => by have q1 := (own_11.lt _ e.symm).1; have q2 := z0.lt; omega)
        have r_12 := r_11.of_block (hg_12.block _ r_11.lt (fun e => by have q1 := (own_11.lt _ e.symm).1; have q2 := r0.lt; omega))
        have q_12 := q_11.grown hg_12 (fun e => by first | (have e2 : some (W0.drew.heap.size + 1) = some W0.drew.heap.size := e; injection e2; omega) | (have e2 : some W0.drew.heap.size = some (W0.drew.heap.size + 1) := e; injection e2; omega))
        have sz_12 : W0.drew.heap.size ≤ W_12.heap.size := Nat.le_trans sz_11 hg_12.size
        refine hK.out _ _ (sp_of x_12 y_12 z_12) (fun hHeld2 => ?_)
        clear hK K hHeld; have hHeld := hHeld2; clear hHeld2
        try simp only [Act.put, List.setIfInBounds_toArray, List.set_cons_zero, List.set_cons_succ]
        refine wpAnyH_ready (rs := [5]) (by kernel_rfl) (by simp) ?_
        refine AllReadyH.cons (o := { dst := some 182, op := Op.call { callee := Callee.builtin Builtin.append, args := #[Operand.tmp 179, Operand.tmp 181], argTypes := #[51, 51] }, type := 51, pos := "law.go:93", after := #[{ on := 2, ground := Ground.data }, { on := 4, ground := Ground.data }, { on := 2, ground := Ground.chain }], guard := none }) rfl (fun K hK => ?_) (AllReadyH.nil)
        refine wp_append_any _ (.tmp 179) (.tmp 181) 51 rfl W0.drew.heap.size 67 i0i _ 4 48 Try.underlying51 HI.out hz0 hz1 hz2 rfl (by decide) _ (0 + n) _ rfl own_12 _ _ 1 1 (flatC [m]) rfl (one_readsC q_12) (flatC_one _) (by unfold maxLen; omega) (by omega) sz_12 ?_
        intro v_13 W_13 own_13 hg_13 hat_13
        have iv_13 : BI w W_13 := Below.grown iv_12.b hg_13 iv_12.b.size (fun g hg => Nat.le_trans iv0.b.size (own_12.lt g hg).1)
        have x_13 := x_12.grown hg_13 (fun e => by have q1 := (own_12.lt _ e.symm).1; have q2 := x0.lt; omega)
        have y_13 := y_12.grown hg_13 (fun e => by have q1 := (own_12.lt _ e.symm).1; have q2 := y0.lt; omega)
        have z_13 := z_12.grown hg_13 (fun e => by have q1 := (own_12.lt _ e.symm).1; have q2 := z0.lt; omega)
        have r_13 := r_12.of_block (hg_13.block _ r_12.lt (fun e => by have q1 := (own_12.lt _ e.symm).1; have q2 := r0.lt; omega))
        have sz_13 : W0.drew.heap.size ≤ W_13.heap.size := Nat.le_trans sz_12 hg_13.size
        rw [List.nil_append, ← flatC_app, Nat.zero_add] at own_13
        obtain ⟨g9, c9, e9, hc9⟩ := own_formP own_13 (by omega)
        subst e9
        refine hK.out _ _ (sp_of x_13 y_13 z_13) (fun hHeld2 => ?_)
        clear hK K hHeld; have hHeld := hHeld2; clear hHeld2
        try simp only [Act.put, List.setIfInBounds_toArray, List.set_cons_zero, List.set_cons_succ]
        refine wpAnyH_ready (rs := [7]) (by kernel_rfl) (by simp) ?_
        refine AllReadyH.cons (o := { dst := some 184, op := Op.call { callee := Callee.value (Operand.func 47), args := #[Operand.tmp 182, Operand.tmp 183], argTypes := #[51, 23] }, type := 75, pos := "law.go:93", after := #[{ on := 5, ground := Ground.data }, { on := 6, ground := Ground.data }, { on := 5, ground := Ground.chain }], guard := none }) rfl (fun K hK => ?_) (AllReadyH.nil)
        go_simp
        refine (hnr _ _ _ (pcs_app rfl own_13 hR hmb iv_13)).mono ?_; rintro e w_14 ⟨rfl, hb_14⟩
        have iv_14 := iv_13.call hb_14
        have x_14 := x_13.below hb_14 x_13.lt
        have y_14 := y_13.below hb_14 y_13.lt
        have z_14 := z_13.below hb_14 z_13.lt
        have r_14 := row_below r_13 hb_14
        try go_wp2_with fail
        refine hK.out _ _ (sp_of x_14 y_14 z_14) (fun hHeld2 => ?_)
        clear hK K hHeld; have hHeld := hHeld2; clear hHeld2
        try simp only [Act.put, List.setIfInBounds_toArray, List.set_cons_zero, List.set_cons_succ]
        refine wpAnyH_take (i := 8) (oi := { dst := some 176, op := Op.move (Operand.tmp 184), type := 75, pos := "law.go:93", after := #[{ on := 7, ground := Ground.data }], guard := none }) (v := ?_) rfl (by kernel_rfl) (by kernel_rfl) (by kernel_rfl) (fun _ _ _ h => h) (Or.inl ⟨by rfl, ?_⟩) hHeld ?_
        rotate_left
        · intro w hSw
          try dsimp only at hSw
          go_simp
          try with_reducible rfl
        try simp only [Act.put, List.setIfInBounds_toArray, List.set_cons_zero, List.set_cons_succ]
        refine wpAnyH_take (i := 9) (oi := { dst := some 185, op := Op.extract (Operand.tmp 176) 0, type := 3, pos := "law.go:93", after := #[{ on := 8, ground := Ground.data }], guard := none }) (v := ?_) rfl (by kernel_rfl) (by kernel_rfl) (by kernel_rfl) (fun _ _ _ h => h) (Or.inl ⟨by rfl, ?_⟩) hHeld ?_
        rotate_left
        · intro w hSw
          try dsimp only at hSw
          go_simp
          try with_reducible rfl
        try simp only [Act.put, List.setIfInBounds_toArray, List.set_cons_zero, List.set_cons_succ]
        refine wpAnyH_take (i := 10) (oi := { dst := some 186, op := Op.extract (Operand.tmp 176) 1, type := 25, pos := "law.go:93", after := #[{ on := 8, ground := Ground.data }, { on := 11, ground := Ground.gcOnly Departure.lateStores }], guard := none }) (v := ?_) rfl (by kernel_rfl) (by kernel_rfl) (by kernel_rfl) (fun _ _ _ h => h) (Or.inl ⟨by rfl, ?_⟩) hHeld ?_
        rotate_left
        · intro w hSw
          try dsimp only at hSw
          go_simp
          try with_reducible rfl
        try simp only [Act.put, List.setIfInBounds_toArray, List.set_cons_zero, List.set_cons_succ]
        refine wpAnyH_take (i := 11) (oi := { dst := some 27, op := Op.assign (Operand.tmp 185), type := 3, pos := "law.go:93", after := #[{ on := 9, ground := Ground.data }, { on := 7, ground := Ground.chain }, { on := 0, ground := Ground.phase }, { on := 1, ground := Ground.phase }, { on := 2, ground := Ground.phase }, { on := 3, ground := Ground.phase }, { on := 4, ground := Ground.phase }, { on := 5, ground := Ground.phase }, { on := 6, ground := Ground.phase }, { on := 7, ground := Ground.phase }, { on := 8, ground := Ground.phase }, { on := 9, ground := Ground.phase }, { on := 10, ground := Ground.textOnly Departure.lateStores }], guard := none }) (v := ?_) rfl (by kernel_rfl) (by kernel_rfl) (by kernel_rfl) (fun _ _ _ h => h) (Or.inl ⟨by rfl, ?_⟩) hHeld ?_
        rotate_left
        · intro w hSw
          try dsimp only at hSw
          go_simp
          try with_reducible rfl
        try simp only [Act.put, List.setIfInBounds_toArray, List.set_cons_zero, List.set_cons_succ]
        refine wpAnyH_take (i := 12) (oi := { dst := some 28, op := Op.assign (Operand.tmp 186), type := 25, pos := "law.go:93", after := #[{ on := 10, ground := Ground.data }, { on := 11, ground := Ground.chain }, { on := 0, ground := Ground.phase }, { on := 1, ground := Ground.phase }, { on := 2, ground := Ground.phase }, { on := 3, ground := Ground.phase }, { on := 4, ground := Ground.phase }, { on := 5, ground := Ground.phase }, { on := 6, ground := Ground.phase }, { on := 7, ground := Ground.phase }, { on := 8, ground := Ground.phase }, { on := 9, ground := Ground.phase }, { on := 10, ground := Ground.phase }, { on := 11, ground := Ground.phase }], guard := none }) (v := ?_) rfl (by kernel_rfl) (by kernel_rfl) (by kernel_rfl) (fun _ _ _ h => h) (Or.inl ⟨by rfl, ?_⟩) hHeld ?_
        rotate_left
        · intro w hSw
          try dsimp only at hSw
          go_simp
          try with_reducible rfl
        try simp only [Act.put, List.setIfInBounds_toArray, List.set_cons_zero, List.set_cons_succ]
        refine wpAnyH_done (by kernel_rfl) ?_ _
        clear hHeld
        go_wp2_with fail
        go_meet
        exact ⟨rfl, rfl, iv_14, y_14, z_14, r_14⟩
    case rest =>
    clear x0 y0 z0 iv0 r0 hnr
    obtain ⟨rfl, rfl, i12, y12, z12, r12⟩ := hcut
    obtain ⟨W12, rfl⟩ : ∃ W : World, W = wc := ⟨_, rfl⟩
    obtain ⟨ad, rfl, hrow⟩ := hR.row ho0
    have hn9 : 0 < n := by omega
    have hk1 : (o0 : Int) < (n : Int) := by omega
    have hdm := fun W => dist_any m.p p W
    have hda := fun W => dist_any (pc_ L o0).p p W
    have hfm := HFM.out
    unfold far_ at hfm
    rw [HOO.out] at hfm
    generalize distV m.p p = Dm at *
    generalize distV (pc_ L o0).p p = Da at *
    generalize pc_ L o0 = a at *
    obtain ⟨q, hq⟩ : ∃ q, ad.add (o0 * 4) = q := ⟨_, rfl⟩
    rw [hq] at hrow
    have HF2 := Lib.hid hfm
    clear hfm HFM
    have ZZ := Lib.hid (t38_mk (W := W12.drew) HOO.out hn9 y12 z12 r12 i12.drew hrow)
    clear y12 z12 r12 i12
    go_upto_region 38 with fail
    refine wp_region_held_drew (S := fun w' => Blk w' gp 23 p.A ∧ Blk w' gm 67 m.C ∧ w'.rowIs g 3 n (fun j => .int .i64 (ord j : Int)) ∧ BI w w' ∧ ldT 23 (.pointer (some ⟨q.block, q.off + 1, none⟩)) w' = some a.p.A ∧ ldT 23 (.pointer (some ⟨gm, 1, none⟩)) w' = some m.p.A ∧ ldT 23 (.pointer (some ⟨gp, 0, none⟩)) w' = some p.A ∧ w'.cell? ⟨g, 0, none⟩ = some (.int .i64 (o0 : Int))) (by kernel_rfl) (ZZ.out) (fun hHeld => ?_)
    refine wpAnyH_take (i := 0) (oi := { dst := some 187, op := Op.fieldAddr 67 (Operand.tmp 8) 1, type := 0, pos := "law.go:94", after := #[], guard := none }) (v := ?_) rfl (by kernel_rfl) (by kernel_rfl) (by kernel_rfl) (fun _ _ _ h => h) (Or.inl ⟨by rfl, ?_⟩) hHeld ?_
    rotate_left
    · intro w hSw
      try dsimp only at hSw
      go_simp
      try with_reducible rfl
    try simp only [Act.put, List.setIfInBounds_toArray, List.set_cons_zero, List.set_cons_succ]
    refine wpAnyH_take (i := 1) (oi := { dst := some 188, op := Op.load 23 (Operand.tmp 187), type := 23, pos := "law.go:94", after := #[{ on := 0, ground := Ground.data }], guard := none }) (v := ?_) rfl (by kernel_rfl) (by kernel_rfl) (by kernel_rfl) (fun _ _ _ h => h) (Or.inl ⟨by rfl, ?_⟩) hHeld ?_
    rotate_left
    · intro w hSw
      try dsimp only at hSw
      go_simp
      try with_reducible rfl
    try simp only [Act.put, List.setIfInBounds_toArray, List.set_cons_zero, List.set_cons_succ]
    refine wpAnyH_take (i := 2) (oi := { dst := some 189, op := Op.load 23 (Operand.tmp 7), type := 23, pos := "law.go:94", after := #[], guard := none }) (v := ?_) rfl (by kernel_rfl) (by kernel_rfl) (by kernel_rfl) (fun _ _ _ h => h) (Or.inl ⟨by rfl, ?_⟩) hHeld ?_
    rotate_left
    · intro w hSw
      try dsimp only at hSw
      go_simp
      try with_reducible rfl
    try simp only [Act.put, List.setIfInBounds_toArray, List.set_cons_zero, List.set_cons_succ]
    refine wpAnyH_take (i := 4) (oi := { dst := some 191, op := Op.move (Operand.tmp 0), type := 51, pos := "law.go:94", after := #[], guard := none }) (v := ?_) rfl (by kernel_rfl) (by kernel_rfl) (by kernel_rfl) (fun _ _ _ h => h) (Or.inl ⟨by rfl, ?_⟩) hHeld ?_
    rotate_left
    · intro w hSw
      try dsimp only at hSw
      go_simp
      try with_reducible rfl
    try simp only [Act.put, List.setIfInBounds_toArray, List.set_cons_zero, List.set_cons_succ]
    refine wpAnyH_take (i := 5) (oi := { dst := some 192, op := Op.move (Operand.tmp 11), type := 69, pos := "law.go:94", after := #[], guard := none }) (v := ?_) rfl (by kernel_rfl) (by kernel_rfl) (by kernel_rfl) (fun _ _ _ h => h) (Or.inl ⟨by rfl, ?_⟩) hHeld ?_
    rotate_left
    · intro w hSw
      try dsimp only at hSw
      go_simp
      try with_reducible rfl
    try simp only [Act.put, List.setIfInBounds_toArray, List.set_cons_zero, List.set_cons_succ]
    refine wpAnyH_take (i := 6) (oi := { dst := some 193, op := Op.indexAddr 69 (Operand.tmp 192) (Operand.const (Value.int IntKind.i64 0)), type := 0, pos := "law.go:94", after := #[{ on := 5, ground := Ground.data }], guard := none }) (v := ?_) rfl (by kernel_rfl) (by kernel_rfl) (by kernel_rfl) (fun _ _ _ h => h) (Or.inl ⟨by rfl, ?_⟩) hHeld ?_
    rotate_left
    · intro w hSw
      try dsimp only at hSw
      go_simp
      try with_reducible rfl
    try simp only [Act.put, List.setIfInBounds_toArray, List.set_cons_zero, List.set_cons_succ]
    refine wpAnyH_take (i := 7) (oi := { dst := some 194, op := Op.load 3 (Operand.tmp 193), type := 3, pos := "law.go:94", after := #[{ on := 6, ground := Ground.data }], guard := none }) (v := ?_) rfl (by kernel_rfl) (by kernel_rfl) (by kernel_rfl) (fun _ _ _ h => h) (Or.inl ⟨by rfl, ?_⟩) hHeld ?_
    rotate_left
    · intro w hSw
      try dsimp only at hSw
      go_simp
      try with_reducible rfl
    try simp only [Act.put, List.setIfInBounds_toArray, List.set_cons_zero, List.set_cons_succ]
    refine wpAnyH_take (i := 8) (oi := { dst := some 195, op := Op.indexAddr 51 (Operand.tmp 191) (Operand.tmp 194), type := 0, pos := "law.go:94", after := #[{ on := 4, ground := Ground.data }, { on := 7, ground := Ground.data }], guard := none }) (v := ?_) rfl (by kernel_rfl) (by kernel_rfl) (by kernel_rfl) (fun _ _ _ h => h) (Or.inl ⟨by rfl, ?_⟩) hHeld ?_
    rotate_left
    · intro w hSw
      try dsimp only at hSw
      go_simp
      try with_reducible rfl
    try simp only [Act.put, List.setIfInBounds_toArray, List.set_cons_zero, List.set_cons_succ]
    refine wpAnyH_take (i := 9) (oi := { dst := some 196, op := Op.fieldAddr 67 (Operand.tmp 195) 1, type := 0, pos := "law.go:94", after := #[{ on := 8, ground := Ground.data }], guard := none }) (v := ?_) rfl (by kernel_rfl) (by kernel_rfl) (by kernel_rfl) (fun _ _ _ h => h) (Or.inl ⟨by rfl, ?_⟩) hHeld ?_
    rotate_left
    · intro w hSw
      try dsimp only at hSw
      go_simp
      try with_reducible rfl
    try simp only [Act.put, List.setIfInBounds_toArray, List.set_cons_zero, List.set_cons_succ]
    refine wpAnyH_take (i := 10) (oi := { dst := some 197, op := Op.load 23 (Operand.tmp 196), type := 23, pos := "law.go:94", after := #[{ on := 9, ground := Ground.data }], guard := none }) (v := ?_) rfl (by kernel_rfl) (by kernel_rfl) (by kernel_rfl) (fun _ _ _ h => h) (Or.inl ⟨by rfl, ?_⟩) hHeld ?_
    rotate_left
    · intro w hSw
      try dsimp only at hSw
      go_simp
      try with_reducible rfl
    try simp only [Act.put, List.setIfInBounds_toArray, List.set_cons_zero, List.set_cons_succ]
    refine wpAnyH_take (i := 11) (oi := { dst := some 198, op := Op.load 23 (Operand.tmp 7), type := 23, pos := "law.go:94", after := #[], guard := none }) (v := ?_) rfl (by kernel_rfl) (by kernel_rfl) (by kernel_rfl) (fun _ _ _ h => h) (Or.inl ⟨by rfl, ?_⟩) hHeld ?_
    rotate_left
    · intro w hSw
      try dsimp only at hSw
      go_simp
      try with_reducible rfl
    try simp only [Act.put, List.setIfInBounds_toArray, List.set_cons_zero, List.set_cons_succ]
    refine wpAnyH_ready (rs := [3]) (by kernel_rfl) (by simp) ?_
    refine AllReadyH.cons (o := { dst := some 190, op := Op.call { callee := Callee.value (Operand.func 17), args := #[Operand.tmp 188, Operand.tmp 189], argTypes := #[23, 23] }, type := 2, pos := "law.go:94", after := #[{ on := 1, ground := Ground.data }, { on := 2, ground := Ground.data }], guard := none }) rfl (fun K hK => ?_) (AllReadyH.nil)
    go_simp
    refine (hdm _).mono ?_; rintro e w_1 ⟨rfl, hb_1⟩
    try go_wp2_with fail
    refine hK.out _ _ (t38_on HOO.out hn9 hrow hHeld hb_1) (fun hHeld2 => ?_)
    clear hK K hHeld; have hHeld := hHeld2; clear hHeld2
    try simp only [Act.put, List.setIfInBounds_toArray, List.set_cons_zero, List.set_cons_succ]
    refine wpAnyH_ready (rs := [12]) (by kernel_rfl) (by simp) ?_
    refine AllReadyH.cons (o := { dst := some 199, op := Op.call { callee := Callee.value (Operand.func 17), args := #[Operand.tmp 197, Operand.tmp 198], argTypes := #[23, 23] }, type := 2, pos := "law.go:94", after := #[{ on := 10, ground := Ground.data }, { on := 11, ground := Ground.data }, { on := 3, ground := Ground.chain }], guard := none }) rfl (fun K hK => ?_) (AllReadyH.nil)
    go_simp
    refine (hda _).mono ?_; rintro e w_2 ⟨rfl, hb_2⟩
    try go_wp2_with fail
    refine hK.out _ _ (t38_on HOO.out hn9 hrow hHeld hb_2) (fun hHeld2 => ?_)
    clear hK K hHeld; have hHeld := hHeld2; clear hHeld2
    try simp only [Act.put, List.setIfInBounds_toArray, List.set_cons_zero, List.set_cons_succ]
    refine wpAnyH_take (i := 13) (oi := { dst := some 200, op := Op.binOp BinOp.lss 2 (Operand.tmp 190) (Operand.tmp 199) 2, type := 4, pos := "law.go:94", after := #[{ on := 3, ground := Ground.data }, { on := 12, ground := Ground.data }], guard := none }) (v := ?_) rfl (by kernel_rfl) (by kernel_rfl) (by kernel_rfl) (fun _ _ _ h => h) (Or.inl ⟨by rfl, ?_⟩) hHeld ?_
    rotate_left
    · intro w hSw
      try dsimp only at hSw
      go_simp
      try with_reducible rfl
    try simp only [Act.put, List.setIfInBounds_toArray, List.set_cons_zero, List.set_cons_succ]
    refine wpAnyH_take (i := 14) (oi := { dst := some 29, op := Op.assign (Operand.tmp 200), type := 4, pos := "law.go:94", after := #[{ on := 13, ground := Ground.data }, { on := 12, ground := Ground.chain }, { on := 0, ground := Ground.phase }, { on := 1, ground := Ground.phase }, { on := 2, ground := Ground.phase }, { on := 3, ground := Ground.phase }, { on := 4, ground := Ground.phase }, { on := 5, ground := Ground.phase }, { on := 6, ground := Ground.phase }, { on := 7, ground := Ground.phase }, { on := 8, ground := Ground.phase }, { on := 9, ground := Ground.phase }, { on := 10, ground := Ground.phase }, { on := 11, ground := Ground.phase }, { on := 12, ground := Ground.phase }, { on := 13, ground := Ground.phase }], guard := none }) (v := ?_) rfl (by kernel_rfl) (by kernel_rfl) (by kernel_rfl) (fun _ _ _ h => h) (Or.inl ⟨by rfl, ?_⟩) hHeld ?_
    rotate_left
    · intro w hSw
      try dsimp only at hSw
      go_simp
      try with_reducible rfl
    try simp only [Act.put, List.setIfInBounds_toArray, List.set_cons_zero, List.set_cons_succ]
    refine wpAnyH_done (by kernel_rfl) ?_ _
    obtain ⟨-, -, -, i13, -, -, -, c0⟩ := hHeld
    clear ZZ hdm hda hrow
    by_cases hD : Dm < Da
    · have h2 : o2 = n := HF2.out.1 hD
      have e1 : ((o2 : Int) == (n : Int)) = true := by simp [h2]
      clear HF2 h2
      go_wp2_with fail
      go_ret
      exact ⟨rfl, i13⟩
    · have h2 : o2 = o0 := HF2.out.2 (by omega)
      have e1 : ((o2 : Int) == (o0 : Int)) = true := by simp [h2]
      clear HF2 h2
      go_wp2_with fail
      go_ret
      exact ⟨rfl, i13⟩
end Go.Proofs.Ytoiccljmdplfgaa.Nr
