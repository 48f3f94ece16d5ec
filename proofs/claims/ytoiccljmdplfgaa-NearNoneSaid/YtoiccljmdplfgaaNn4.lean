/-
  NearNone: from the loop on.
-/
import Derived.Test.YtoiccljmdplfgaaNn3
import Derived.Deep.DrawnRows
namespace Go.Proofs.Ytoiccljmdplfgaa.Nr
open Go.ChangeShapes Go.WideShapes Go.ChangeAt Go.RowKit Go.Shelf
open Go.Proofs.Ytoiccljmdplfgaa
open Go.Proofs.Ytoiccljmdplfgaa.Wd
open Go.Proofs.Ytoiccljmdplfgaa.Pl
open Go.Proofs.Ytoiccljmdplfgaa.Nv
open Go.Proofs.Ytoiccljmdplfgaa.Ar
open Go.Proofs.Ytoiccljmdplfgaa.Ld
open Go.Proofs.Ytoiccljmdplfgaa.So (ordF ordF_pm ordF_sd sort_any Pm Sd Lt)
open Go.Proofs.Ytoiccljmdplfgaa.Sr (SoR Hd key net key_inj)
open Go.Proofs.Ytoiccljmdplfgaa.Lk (lead zone_any)
set_option linter.unusedVariables false
set_option linter.unusedSimpArgs false
attribute [local go_sem ↓] Go.wp_at_zero Go.wp_at_succ
attribute [local go_sem ↓] ldP_sem ldS_sem ldPl_sem
attribute [local go_sem] ldSem_run
set_option maxRecDepth 100000 in
set_option maxHeartbeats 25600000 in
theorem none_c {A : Option Addr} {n c : Nat} {L : List Pc} {h : Hd} {S : Sr.So} {p : P2} {m : Pc} {d : Int} {w : World} {gp gm g : Nat} {ord : Nat → Nat} {w6 : World} {v5 v9 v10 v12 v13 v14 v16 v17 v18 v19 v20 v21 v22 v23 v24 v25 v26 v27 v28 v29 v30 v31 v32 v33 v34 v35 v36 v37 v38 v39 v40 v41 v42 v43 v44 v45 v46 v47 v48 v49 v50 v51 v52 v53 v54 v55 v56 v57 v58 v59 v60 v61 v62 v63 v64 v65 v66 v67 v68 v69 v70 v71 v72 v73 v74 v75 v76 v77 v78 v79 v80 v81 v82 v83 v84 v85 v86 v87 v88 v89 v90 v91 v92 v93 v94 v95 v96 v97 v98 v99 v100 v101 v102 v103 v104 v105 v106 v107 v108 v109 v110 v111 v112 v113 v114 v115 v116 v117 v118 v119 v120 v121 v122 v123 v124 v125 v126 v127 v128 v129 v130 v131 v132 v133 v134 v135 v136 v137 v138 v139 v140 v141 v142 v143 v144 v145 v146 v147 v148 v149 v150 v151 v152 v153 v154 v155 v156 v157 v158 v159 v160 v161 v162 v163 v164 v165 v166 v167 v168 v169 v170 v171 v172 v173 v174 v175 v176 v177 v178 v179 v180 v181 v182 v183 v184 v185 v186 v187 v188 v189 v190 v191 v192 v193 v194 v195 v196 v197 v198 v199 v200 v201 v202 v203 v204 v205 v206 v207 v208 v209 v210 v211 v212 v213 v214 v215 v216 v217 v218 v219 v220 v221 v222 v223 v224 v225 v226 v227 v228 v229 v230 v231 : Value}
    (hR : Pcs w w.heap.size A n L) (hby : n * 48 ≤ 140737488351232) (hS : SoR w w.heap.size h S) (hmb : m.t.size ≤ maxLen ∧ m.z.size ≤ maxLen) (hn60 : n ≤ 59) (hzl : h.zn ≤ 12) (hll2 : h.ln ≤ 20) (hgp : w.heap.size ≤ gp) (hgm : w.heap.size ≤ gm) (HNC : Hid (ncE L p = 0)) (HORD : Hid (ordF (far_ L p) n = ord)) (HORL : Hid (∀ j, j < n → ord j < n)) (i4 : BI w w6) (x4 : Blk w6 w.heap.size 65 h.C) (y4 : Blk w6 gp 23 p.A) (z4 : Blk w6 gm 67 m.C) (rg : w6.rowIs g 3 n (fun j => .int .i64 (ord j : Int))) :
    (tl 10 bdy).wp Try.prog (bodyPost Try.prog Try.f10 (fun e w' => e = .returned (.bool true) ∧ Below w.heap.size w w')) ⟨#[.slice A n c, h.V, p.V, m.V, .int .i64 d, v5, .pointer (some ⟨w.heap.size, 0, none⟩), .pointer (some ⟨gp, 0, none⟩), .pointer (some ⟨gm, 0, none⟩), v9, v10, .slice (some ⟨g, 0, none⟩) n n, v12, v13, v14, .int .i64 ((wiL L p d n).length : Int), v16, v17, v18, v19, v20, v21, v22, v23, v24, v25, v26, v27, v28, v29, v30, v31, v32, v33, v34, v35, v36, v37, v38, v39, v40, v41, v42, v43, v44, v45, v46, v47, v48, v49, v50, v51, v52, v53, v54, v55, v56, v57, v58, v59, v60, v61, v62, v63, v64, v65, v66, v67, v68, v69, v70, v71, v72, v73, v74, v75, v76, v77, v78, v79, v80, v81, v82, v83, v84, v85, v86, v87, v88, v89, v90, v91, v92, v93, v94, v95, v96, v97, v98, v99, v100, v101, v102, v103, v104, v105, v106, v107, v108, v109, v110, v111, v112, v113, v114, v115, v116, v117, v118, v119, v120, v121, v122, v123, v124, v125, v126, v127, v128, v129, v130, v131, v132, v133, v134, v135, v136, v137, v138, v139, v140, v141, v142, v143, v144, v145, v146, v147, v148, v149, v150, v151, v152, v153, v154, v155, v156, v157, v158, v159, v160, v161, v162, v163, v164, v165, v166, v167, v168, v169, v170, v171, v172, v173, v174, v175, v176, v177, v178, v179, v180, v181, v182, v183, v184, v185, v186, v187, v188, v189, v190, v191, v192, v193, v194, v195, v196, v197, v198, v199, v200, v201, v202, v203, v204, v205, v206, v207, v208, v209, v210, v211, v212, v213, v214, v215, v216, v217, v218, v219, v220, v221, v222, v223, v224, v225, v226, v227, v228, v229, v230, v231], []⟩ w6 := by
  have hll := hR.len
  have hnm : n + 1 ≤ 2932031007404 := by omega
  have hm : n ≤ maxLen := by unfold maxLen; omega
  obtain ⟨i0i, hi0', hz0, hz1, hz2⟩ := info_parts pl_info
  have HI := Lib.hid hi0'
  clear hi0'
  try dsimp only
  conv => arg 2; whnf
  have hcW := within_ok A n c L p d w6 ((hR.below i4.b).more i4.b.size) hm HNC.out
  have hwl := wiL_len L p d n
  go_wp2_with (refine wpList_row_g rfl 23 _ rfl _ rfl _ _ _ _ y4 Try.underlying23 rfl (by kernel_rfl) ?_)
  refine hcW.mono ?_; rintro e w7 ⟨v, rfl, hb, ho⟩
  obtain ⟨A7, c7, rfl⟩ := own_shape ho
  clear ho hcW
  generalize (wiL L p d n).length = ct at *
  have i7 := i4.call hb; have x7 := x4.below hb x4.lt; have y7 := y4.below hb y4.lt; have z7 := z4.below hb z4.lt
  replace rg := row_below rg hb
  clear i4 x4 y4 z4 hb
  have hcZ := nzone_ok A n c L p h S w7 ((hR.below i7.b).more i7.b.size) ((hS.below i7.b).more i7.b.size) hm HNC.out (by omega) (by omega) (by omega)
  rw [HORD.out] at hcZ
  go_wp2_with (first | refine wpList_row_g rfl 65 _ rfl _ rfl _ _ _ _ x7 Try.underlying65 rfl (by kernel_rfl) ?_ | refine wpList_row_g rfl 23 _ rfl _ rfl _ _ _ _ y7 Try.underlying23 rfl (by kernel_rfl) ?_)
  refine hcZ.mono ?_; rintro e w8 ⟨b, E, rfl, hb, hzq⟩
  have i8 := i7.call hb; have x8 := x7.below hb x7.lt; have y8 := y7.below hb y7.lt; have z8 := z7.below hb z7.lt
  replace rg := row_below rg hb
  clear i7 x7 y7 z7 hb hcZ
  go_upto_if 152 with fail
  go_cut [] (fun wx => BI w wx ∧ Blk wx w.heap.size 65 h.C ∧ Blk wx gp 23 p.A ∧ Blk wx gm 67 m.C ∧ wx.rowIs g 3 n (fun j => .int .i64 (ord j : Int)))
  case first =>
    by_cases hE : E = 0
    · have he : (E == 0) = true := by simp [hE]
      have hbz : b.size ≤ maxLen ∧ (lead (net S) (key b)).e = 0 := by
        rcases hzq with ⟨j, q1, q2, q3, _⟩ | ⟨_, _, q3⟩
        · exact ⟨by rw [q2]; exact (hR.p _ (pc_mem (by have := HORL.out j q1; omega))).2, q3⟩
        · omega
      have hzz := zone_any h S b w8 ((hS.below i8.b).more i8.b.size) hbz.1 (by omega) (by omega)
      rw [hbz.2] at hzz
      generalize (lead (net S) (key b)).p = zp at *
      clear hE hzq hbz
      go_wp2_with (refine wpList_row_g rfl 65 _ rfl _ rfl _ _ _ _ x8 Try.underlying65 rfl (by kernel_rfl) ?_)
      refine hzz.mono ?_; rintro e w9 ⟨rfl, hb⟩
      go_wp2_with fail
      go_meet
      exact ⟨i8.call hb, x8.below hb x8.lt, y8.below hb y8.lt, z8.below hb z8.lt, row_below rg hb⟩
    · have he : (E == 0) = false := by simp [hE]
      clear hE hzq
      go_wp2_with fail
      go_meet
      exact ⟨i8, x8, y8, z8, rg⟩
  case rest =>
  clear i8 x8 y8 z8 rg hzq
  obtain ⟨i8, x8, y8, z8, rg⟩ := hcut
  go_step
  exact none_d hR hby hS hmb hn60 hzl hll2 hgp hgm HNC HORD HORL i8 x8 y8 z8 rg
set_option maxRecDepth 100000 in
set_option maxHeartbeats 25600000 in
theorem none_b {A : Option Addr} {n c : Nat} {L : List Pc} {h : Hd} {S : Sr.So} {p : P2} {m : Pc} {d : Int} {w : World} {gp gm g : Nat} {ord : Nat → Nat} {gs : Nat} {W4 : World} {v5 v9 v10 v12 v16 v17 v18 v19 v20 v21 v22 v23 v24 v25 v26 v27 v28 v29 v30 v31 v32 v33 v34 v35 v36 v37 v38 v39 v40 v41 v42 v43 v44 v45 v46 v47 v48 v49 v50 v51 v52 v53 v54 v55 v56 v57 v58 v59 v60 v61 v62 v63 v64 v65 v66 v67 v68 v69 v70 v71 v72 v73 v74 v75 v76 v77 v78 v79 v80 v81 v82 v83 v84 v85 v86 v87 v88 v89 v90 v91 v92 v93 v94 v95 v96 v97 v98 v99 v100 v101 v102 v103 v104 v105 v106 v107 v108 v109 v110 v111 v112 v113 v114 v115 v116 v117 v118 v119 v120 v121 v122 v123 v124 v125 v126 v127 v128 v129 v130 v131 v132 v133 v134 v135 v136 v137 v138 v139 v140 v141 v142 v143 v144 v145 v146 v147 v148 v149 v150 v151 v152 v153 v154 v155 v156 v157 v158 v159 v160 v161 v162 v163 v164 v165 v166 v167 v168 v169 v170 v171 v172 v173 v174 v175 v176 v177 v178 v179 v180 v181 v182 v183 v184 v185 v186 v187 v188 v189 v190 v191 v192 v193 v194 v195 v196 v197 v198 v199 v200 v201 v202 v203 v204 v205 v206 v207 v208 v209 v210 v211 v212 v213 v214 v215 v216 v217 v218 v219 v220 v221 v222 v223 v224 v225 v226 v227 v228 v229 v230 v231 : Value}
    (hR : Pcs w w.heap.size A n L) (hby : n * 48 ≤ 140737488351232) (hS : SoR w w.heap.size h S) (hmb : m.t.size ≤ maxLen ∧ m.z.size ≤ maxLen) (hn60 : n ≤ 59) (hzl : h.zn ≤ 12) (hll2 : h.ln ≤ 20) (hgp : w.heap.size ≤ gp) (hgm : w.heap.size ≤ gm) (HNC : Hid (ncE L p = 0)) (HORD : Hid (ordF (far_ L p) n = ord)) (HORL : Hid (∀ j, j < n → ord j < n)) (hgg : g ≠ gs) (hg0 : w.heap.size ≠ gs) (hg1 : gp ≠ gs) (hg2 : gm ≠ gs) (hg3 : w.heap.size ≤ gs) (i4 : BI w W4) (x4 : Blk W4 w.heap.size 65 h.C) (y4 : Blk W4 gp 23 p.A) (z4 : Blk W4 gm 67 m.C) (rg : W4.rowIs g 3 n (fun j => .int .i64 (ord j : Int))) (rs0 : W4.rowIs gs 4 n fun _ => .bool false) :
    (tl 9 bdy).wp Try.prog (bodyPost Try.prog Try.f10 (fun e w' => e = .returned (.bool true) ∧ Below w.heap.size w w')) ⟨#[.slice A n c, h.V, p.V, m.V, .int .i64 d, v5, .pointer (some ⟨w.heap.size, 0, none⟩), .pointer (some ⟨gp, 0, none⟩), .pointer (some ⟨gm, 0, none⟩), v9, v10, .slice (some ⟨g, 0, none⟩) n n, v12, .slice (some ⟨gs, 0, none⟩) n n, .int .i64 (-1), .int .i64 0, v16, v17, v18, v19, v20, v21, v22, v23, v24, v25, v26, v27, v28, v29, v30, v31, v32, v33, v34, v35, v36, v37, v38, v39, v40, v41, v42, v43, v44, v45, v46, v47, v48, v49, v50, v51, v52, v53, v54, v55, v56, v57, v58, v59, v60, v61, v62, v63, v64, v65, v66, v67, v68, v69, v70, v71, v72, v73, v74, v75, v76, v77, v78, v79, v80, v81, v82, v83, v84, v85, v86, v87, v88, v89, v90, v91, v92, v93, v94, v95, v96, v97, v98, v99, v100, v101, v102, v103, v104, v105, v106, v107, v108, v109, v110, v111, v112, v113, v114, v115, v116, v117, v118, v119, v120, v121, v122, v123, v124, v125, v126, v127, v128, v129, v130, v131, v132, v133, v134, v135, v136, v137, v138, v139, v140, v141, v142, v143, v144, v145, v146, v147, v148, v149, v150, v151, v152, v153, v154, v155, v156, v157, v158, v159, v160, v161, v162, v163, v164, v165, v166, v167, v168, v169, v170, v171, v172, v173, v174, v175, v176, v177, v178, v179, v180, v181, v182, v183, v184, v185, v186, v187, v188, v189, v190, v191, v192, v193, v194, v195, v196, v197, v198, v199, v200, v201, v202, v203, v204, v205, v206, v207, v208, v209, v210, v211, v212, v213, v214, v215, v216, v217, v218, v219, v220, v221, v222, v223, v224, v225, v226, v227, v228, v229, v230, v231], []⟩ W4 := by
  have hll := hR.len
  have hnm : n + 1 ≤ 2932031007404 := by omega
  have hm : n ≤ maxLen := by unfold maxLen; omega
  obtain ⟨i0i, hi0', hz0, hz1, hz2⟩ := info_parts pl_info
  have HI := Lib.hid hi0'
  clear hi0'
  try dsimp only
  conv => arg 2; whnf
  have hfn := fun j => far_nonneg L p j
  have hinj := ord_inj (far_ L p) n
  have hlast := fun i (hi : i < n) => last_le (far := far_ L p) (n := n) hfn hi
  have hcnt := cnt_all L p d n
  rw [HORD.out] at hinj hcnt
  simp only [HORD.out] at hlast
  have HINJ := Lib.hid hinj; have HLAST := Lib.hid hlast; have HCNT := Lib.hid hcnt
  clear hinj hlast hcnt
  refine wp_seq_k ?_; intro K hK
  go_cut [15] (fun nv wx => nv = .int .i64 ((wiL L p d n).length : Int) ∧ BI w wx ∧ Blk wx w.heap.size 65 h.C ∧ Blk wx gp 23 p.A ∧ Blk wx gm 67 m.C ∧ wx.rowIs g 3 n (fun j => .int .i64 (ord j : Int)))
  case rest =>
    clear i4 x4 y4 z4 rg rs0
    obtain ⟨rfl, i4, x4, y4, z4, rg⟩ := hcut
    refine hK _ _ ?_
    exact none_c hR hby hS hmb hn60 hzl hll2 hgp hgm HNC HORD HORL i4 x4 y4 z4 rg
  case first =>
  clear hK K
  go_wp2_with fail
  go_loopw [14, 15, 76] (fun lv nv iv wr => ∃ i : Nat, iv = .int .i64 i ∧ i ≤ n ∧ lv = .int .i64 (lastV (far_ L p) ord i) ∧ nv = .int .i64 (cntV (far_ L p) ord d i : Nat) ∧ Blk wr w.heap.size 65 h.C ∧ Blk wr gp 23 p.A ∧ Blk wr gm 67 m.C ∧ wr.rowIs g 3 n (fun j => .int .i64 (ord j : Int)) ∧ wr.rowIs gs 4 n (fun j => .bool (seenV ord i j)) ∧ BI w wr) (fun _ _ iv _ => n - (intOf iv).toNat)
  case atStart => exact ⟨0, rfl, Nat.zero_le _, rfl, rfl, x4, y4, z4, rg, rs0, i4⟩
  case round =>
    clear x4 y4 z4 rg rs0 i4
    obtain ⟨i, rfl, hi, rfl, rfl, x4, y4, z4, rg, rs, i4⟩ := hrel
    by_cases hlt : i < n
    · have hlt' : (i : Int) < (n : Int) := by omega
      have hk := HORL.out i hlt
      obtain ⟨l1, l2⟩ := HLAST.out i hlt
      have hsn := seen_no HINJ.out i
      have hcl := cnt_le (far_ L p) ord d i
      have HSS := Lib.hid (fun j => seen_succ ord i j)
      have HLS := Lib.hid (show lastV (far_ L p) ord (i + 1) = far_ L p (ord i) from rfl)
      have HCS := Lib.hid (show cntV (far_ L p) ord d (i + 1) = if far_ L p (ord i) ≤ d then cntV (far_ L p) ord d i + 1 else cntV (far_ L p) ord d i from rfl)
      have c1 := rg.cell hlt
      have cS := rs.cell hk; have uS := rs.frozen (ord i)
      rw [hsn] at cS
      clear hsn
      obtain ⟨ad, rfl, hrow⟩ := hR.row hk
      have hdi := fun W => dist_any (pc_ L (ord i)).p p W
      obtain ⟨D, hD⟩ : ∃ D, far_ L p (ord i) = D := ⟨_, rfl⟩
      simp only [show distV (pc_ L (ord i)).p p = D from hD] at hdi
      rw [hD] at l1 l2 HLS HCS
      clear hD
      generalize hla : lastV (far_ L p) ord i = la at *
      generalize cntV (far_ L p) ord d i = cn at *
      have HPREV := Lib.hid l2
      clear l2
      generalize pc_ L (ord i) = a at *
      obtain ⟨q, hq⟩ : ∃ q, ad.add (ord i * 4) = q := ⟨_, rfl⟩
      rw [hq] at hrow
      obtain ⟨o, ho⟩ : ∃ o, ord i = o := ⟨_, rfl⟩
      rw [ho] at c1 cS uS hk hq
      have HO := Lib.hid ho
      have hk1 : (o : Int) < (n : Int) := by omega
      have hk2 : ¬ (n : Int) ≤ (o : Int) := by omega
      have hd0 : decide ((o : Int) < 0) = false := decide_eq_false (by omega)
      have rs1 := rs.set o (.bool true)
      have rs2 : (wr.setCell ⟨gs, o, none⟩ (.bool true)).rowIs gs 4 n (fun j => .bool (seenV ord (i + 1) j)) := rs1.congr (fun j _ => by
        rw [HSS.out j, ho]
        by_cases e : j = o
        · rw [if_pos e, if_pos e]
        · rw [if_neg e, if_neg e])
      have x5 := blk_set (g := gs) (k := o) x4 hg0 (.bool true); have y5 := blk_set (g := gs) (k := o) y4 hg1 (.bool true); have z5 := blk_set (g := gs) (k := o) z4 hg2 (.bool true)
      have rg5 := rg.setOther (a := ⟨gs, o, none⟩) hgg (.bool true)
      have i5 := i4.b.setCell (p := ⟨gs, o, none⟩) hg3 (.bool true)
      clear rs1 rs x4 y4 z4 rg i4 ho
      go_upto_region 19 with fail
      have ZZ := Lib.hid (t19_mk (W := (wr.setCell ⟨gs, o, none⟩ (.bool true)).drew) x5 y5 z5 rg5 rs2 (show BI w (wr.setCell ⟨gs, o, none⟩ (.bool true)) from i5).drew hrow)
      clear x5 y5 z5 rg5 rs2 i5 cS uS c1
      refine wp_region_held_drew (S := fun w' => Blk w' w.heap.size 65 h.C ∧ Blk w' gp 23 p.A ∧ Blk w' gm 67 m.C ∧ w'.rowIs g 3 n (fun j => .int .i64 (ord j : Int)) ∧ w'.rowIs gs 4 n (fun j => .bool (seenV ord (i + 1) j)) ∧ BI w w' ∧ ldT 23 (.pointer (some ⟨q.block, q.off + 1, none⟩)) w' = some a.p.A ∧ ldT 23 (.pointer (some ⟨gp, 0, none⟩)) w' = some p.A) (by kernel_rfl) (ZZ.out) (fun hHeld => ?_)
      refine wpAnyH_take (i := 0) (oi := { dst := some 98, op := Op.move (Operand.tmp 0), type := 51, pos := "law.go:71", after := #[], guard := none }) (v := ?_) rfl (by kernel_rfl) (by kernel_rfl) (by kernel_rfl) (fun _ _ _ h => h) (Or.inl ⟨by rfl, ?_⟩) hHeld ?_
      rotate_left
      · intro w hSw
        try dsimp only at hSw
        go_simp
        try with_reducible rfl
      try simp only [Act.put, List.setIfInBounds_toArray, List.set_cons_zero, List.set_cons_succ]
      refine wpAnyH_take (i := 1) (oi := { dst := some 99, op := Op.move (Operand.tmp 17), type := 3, pos := "law.go:71", after := #[], guard := none }) (v := ?_) rfl (by kernel_rfl) (by kernel_rfl) (by kernel_rfl) (fun _ _ _ h => h) (Or.inl ⟨by rfl, ?_⟩) hHeld ?_
      rotate_left
      · intro w hSw
        try dsimp only at hSw
        go_simp
        try with_reducible rfl
      try simp only [Act.put, List.setIfInBounds_toArray, List.set_cons_zero, List.set_cons_succ]
      refine wpAnyH_take (i := 2) (oi := { dst := some 100, op := Op.indexAddr 51 (Operand.tmp 98) (Operand.tmp 99), type := 0, pos := "law.go:71", after := #[{ on := 0, ground := Ground.data }, { on := 1, ground := Ground.data }], guard := none }) (v := ?_) rfl (by kernel_rfl) (by kernel_rfl) (by kernel_rfl) (fun _ _ _ h => h) (Or.inl ⟨by rfl, ?_⟩) hHeld ?_
      rotate_left
      · intro w hSw
        try dsimp only at hSw
        go_simp
        try with_reducible rfl
      try simp only [Act.put, List.setIfInBounds_toArray, List.set_cons_zero, List.set_cons_succ]
      refine wpAnyH_take (i := 3) (oi := { dst := some 101, op := Op.fieldAddr 67 (Operand.tmp 100) 1, type := 0, pos := "law.go:71", after := #[{ on := 2, ground := Ground.data }], guard := none }) (v := ?_) rfl (by kernel_rfl) (by kernel_rfl) (by kernel_rfl) (fun _ _ _ h => h) (Or.inl ⟨by rfl, ?_⟩) hHeld ?_
      rotate_left
      · intro w hSw
        try dsimp only at hSw
        go_simp
        try with_reducible rfl
      try simp only [Act.put, List.setIfInBounds_toArray, List.set_cons_zero, List.set_cons_succ]
      refine wpAnyH_take (i := 4) (oi := { dst := some 102, op := Op.load 23 (Operand.tmp 101), type := 23, pos := "law.go:71", after := #[{ on := 3, ground := Ground.data }], guard := none }) (v := ?_) rfl (by kernel_rfl) (by kernel_rfl) (by kernel_rfl) (fun _ _ _ h => h) (Or.inl ⟨by rfl, ?_⟩) hHeld ?_
      rotate_left
      · intro w hSw
        try dsimp only at hSw
        go_simp
        try with_reducible rfl
      try simp only [Act.put, List.setIfInBounds_toArray, List.set_cons_zero, List.set_cons_succ]
      refine wpAnyH_take (i := 5) (oi := { dst := some 103, op := Op.load 23 (Operand.tmp 7), type := 23, pos := "law.go:71", after := #[], guard := none }) (v := ?_) rfl (by kernel_rfl) (by kernel_rfl) (by kernel_rfl) (fun _ _ _ h => h) (Or.inl ⟨by rfl, ?_⟩) hHeld ?_
      rotate_left
      · intro w hSw
        try dsimp only at hSw
        go_simp
        try with_reducible rfl
      try simp only [Act.put, List.setIfInBounds_toArray, List.set_cons_zero, List.set_cons_succ]
      refine wpAnyH_ready (rs := [6]) (by kernel_rfl) (by simp) ?_
      refine AllReadyH.cons (o := { dst := some 104, op := Op.call { callee := Callee.value (Operand.func 17), args := #[Operand.tmp 102, Operand.tmp 103], argTypes := #[23, 23] }, type := 2, pos := "law.go:71", after := #[{ on := 4, ground := Ground.data }, { on := 5, ground := Ground.data }], guard := none }) rfl (fun K hK => ?_) (AllReadyH.nil)
      go_simp
      refine (hdi _).mono ?_; rintro e w_1 ⟨rfl, hb_1⟩
      try go_wp2_with fail
      refine hK.out _ _ (t19_on hrow hHeld hb_1) (fun hHeld2 => ?_)
      clear hK K hHeld; have hHeld := hHeld2; clear hHeld2
      try simp only [Act.put, List.setIfInBounds_toArray, List.set_cons_zero, List.set_cons_succ]
      refine wpAnyH_take (i := 7) (oi := { dst := some 18, op := Op.assign (Operand.tmp 104), type := 2, pos := "law.go:71", after := #[{ on := 6, ground := Ground.data }, { on := 6, ground := Ground.chain }, { on := 0, ground := Ground.phase }, { on := 1, ground := Ground.phase }, { on := 2, ground := Ground.phase }, { on := 3, ground := Ground.phase }, { on := 4, ground := Ground.phase }, { on := 5, ground := Ground.phase }, { on := 6, ground := Ground.phase }], guard := none }) (v := ?_) rfl (by kernel_rfl) (by kernel_rfl) (by kernel_rfl) (fun _ _ _ h => h) (Or.inl ⟨by rfl, ?_⟩) hHeld ?_
      rotate_left
      · intro w hSw
        try dsimp only at hSw
        go_simp
        try with_reducible rfl
      try simp only [Act.put, List.setIfInBounds_toArray, List.set_cons_zero, List.set_cons_succ]
      refine wpAnyH_done (by kernel_rfl) ?_ _
      obtain ⟨x6, y6, z6, rg, rs, i6, -⟩ := hHeld
      clear ZZ hdi hrow
      have hd1 : ¬ D < la := by omega
      by_cases hDe : D = la
      · have e1 : (D == la) = true := by simp [hDe]
        obtain ⟨j, hij, hoj⟩ := HPREV.out hDe
        have cj := rg.cell (show j < n by omega)
        have hj1 : (i : Int) - 1 = (j : Int) := by omega
        have hj2 : (j : Int) < (n : Int) := by omega
        rw [HO.out] at hoj
        generalize ord j = oj at *
        have hj3 : ¬ (o : Int) < (oj : Int) := by omega
        have hj4 : decide (o < oj) = false := decide_eq_false (by omega)
        clear HPREV hDe hij
        by_cases hDd : D ≤ d
        · have HC2 := Lib.hid (HCS.out.trans (if_pos hDd))
          go_wp2_with fail
          go_roundw
          case rel => exact ⟨i + 1, by go_num, by omega, by rw [HLS.out], by rw [HC2.out]; go_num, x6, y6, z6, rg, rs, i6⟩
          case measure => simp [intOf]; omega
        · have HC2 := Lib.hid (HCS.out.trans (if_neg hDd))
          go_wp2_with fail
          go_roundw
          case rel => exact ⟨i + 1, by go_num, by omega, by rw [HLS.out], by rw [HC2.out], x6, y6, z6, rg, rs, i6⟩
          case measure => simp [intOf]; omega
      · have e1 : (D == la) = false := by simp [hDe]
        clear HPREV hDe
        by_cases hDd : D ≤ d
        · have HC2 := Lib.hid (HCS.out.trans (if_pos hDd))
          go_wp2_with fail
          go_roundw
          case rel => exact ⟨i + 1, by go_num, by omega, by rw [HLS.out], by rw [HC2.out]; go_num, x6, y6, z6, rg, rs, i6⟩
          case measure => simp [intOf]; omega
        · have HC2 := Lib.hid (HCS.out.trans (if_neg hDd))
          go_wp2_with fail
          go_roundw
          case rel => exact ⟨i + 1, by go_num, by omega, by rw [HLS.out], by rw [HC2.out], x6, y6, z6, rg, rs, i6⟩
          case measure => simp [intOf]; omega
    · obtain rfl : i = n := by omega
      have hlt' : ¬ (i : Int) < (i : Int) := by omega
      rw [HCNT.out]
      go_wp2_with fail
      go_meet
      exact ⟨rfl, i4, x4, y4, z4, rg⟩
end Go.Proofs.Ytoiccljmdplfgaa.Nr
