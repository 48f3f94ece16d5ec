/-
  TopYears, walked.
-/
import Derived.Test.YtoklcbkphipmkaaDoorOcS
import Derived.Test.YtoklcbkphipmkaaDoorOcL
import Derived.Test.YtoklcbkphipmkaaDoorLdB
import Derived.Deep.RegionHeld3
import Derived.BigQuiet
import Derived.Deep.CutBlock
namespace Go.Proofs.YtoklcbkphipmkaaDoor.Oc
open Go.ChangeShapes Go.WideShapes Go.ChangeAt Go.RowKit
open Go.Proofs.YtoklcbkphipmkaaDoor
open Go.Proofs.YtoklcbkphipmkaaDoor.Wd
open Go.Proofs.YtoklcbkphipmkaaDoor.Sr
open Go.Proofs.YtoklcbkphipmkaaDoor.Sl
open Go.Proofs.YtoklcbkphipmkaaDoor.Ld
open Go.Proofs.YtoklcbkphipmkaaDoor.Civ (Tab)
open Go.Proofs.YtoklcbkphipmkaaDoor.Mo (nomV nomE nominal_any)
open Go.Proofs.YtoklcbkphipmkaaDoor.Va (bcl RuOk rule_any ruE ruE_0 ruE_02)
set_option linter.unusedVariables false
set_option linter.unusedSimpArgs false
theorem ldR_sem (v : Value) : Instr.loadAt 42 v = ldSem 42 v := rfl
theorem i64b {n : Int} (h : (Lit.int .i64 n).wf = true) : -9223372036854775808 ≤ n ∧ n ≤ 9223372036854775807 := by
  simp [Lit.wf, IntKind.min, IntKind.max, IntKind.signed, IntKind.bits] at h; omega
/-- true is answered, and what was is kept -/
def OneB (w : World) (e : Ending) (w' : World) : Prop := e = .returned (.bool true) ∧ Below w.heap.size w w'
def tl : Nat → Code → Code
  | 0, c => c
  | k + 1, .seq _ b => tl k b
  | _ + 1, c => c
noncomputable def bdy : Code := (Tryd.f4.body).getD .skip
/-- a rule that holds up to another year; from another year on -/
abbrev ruTo (r : Ru) (y : Int) : Ru := ⟨r.nm, r.fr, y, r.mo, r.kd, r.dn, r.dw, r.sec, r.ck, r.sv, r.lt⟩
abbrev ruFr (r : Ru) (y : Int) : Ru := ⟨r.nm, y, r.tt, r.mo, r.kd, r.dn, r.dw, r.sec, r.ck, r.sv, r.lt⟩
theorem toC_of {r a : Ru} (h : a = ruTo r a.tt ∨ a = ruFr r a.fr) : toC [a] = toC [r] := by
  funext x
  obtain ⟨⟨i, y⟩, s⟩ := x
  cases i with
  | zero => rcases h with h | h <;> (rw [h]; rfl)
  | succ i => rfl
noncomputable def evL (r : Ru) (y : Int) : List Pe := if one r y then [(0, y)] else []
theorem evL_len (r : Ru) (y : Int) : (evL r y).length ≤ 1 := by unfold evL; split <;> simp
theorem parts {r : Ru} {mid : Int} (h1 : r.fr < mid) (h2 : mid ≤ r.tt) (y : Int) : evL (ruTo r (mid - 1)) y ++ evL (ruFr r mid) y = evL r y := by
  unfold evL
  have e1 : one (ruTo r (mid - 1)) y ↔ one r y ∧ y ≤ mid - 1 := ⟨fun h => ⟨⟨h.1, by have h' : y ≤ mid - 1 := h.2.1; show y ≤ r.tt; omega, h.2.2⟩, h.2.1⟩, fun h => ⟨h.1.1, h.2, h.1.2.2⟩⟩
  have e2 : one (ruFr r mid) y ↔ one r y ∧ mid ≤ y := ⟨fun h => ⟨⟨by have h' : mid ≤ y := h.1; show r.fr ≤ y; omega, h.2.1, h.2.2⟩, h.1⟩, fun h => ⟨h.2, h.1.2.1, h.1.2.2⟩⟩
  by_cases q : one r y
  · by_cases q2 : y ≤ mid - 1
    · rw [if_pos (e1.2 ⟨q, q2⟩), if_neg (fun h => by have := (e2.1 h).2; omega), if_pos q]; rfl
    · rw [if_neg (fun h => q2 (e1.1 h).2), if_pos (e2.2 ⟨q, by omega⟩), if_pos q]; rfl
  · rw [if_neg (fun h => q (e1.1 h).1), if_neg (fun h => q (e2.1 h).1), if_neg q]; rfl
/-- what Year answers of one rule -/
def YaP (r : Ru) (y : Int) (n : Nat) (U : World) (e : Ending) (w' : World) : Prop := ∃ (g : Nat) (R : List Oc), e = .returned (.slice (some ⟨g, 0, none⟩) n n) ∧ Sls (toC [r]) 5 w' w'.heap.size (some ⟨g, 0, none⟩) n R ∧ Below U.heap.size U w' ∧ U.heap.size ≤ g ∧ ∀ x ∈ R, x.1 = (0, y)
set_option maxRecDepth 100000 in
set_option maxHeartbeats 6400000 in
theorem Year_new (A : Option Addr) (n c : Nat) (rs : List Ru) (y : Int) (w : World) (hS : Sls Ru.C 11 w w.heap.size A n rs) (hb : ∀ r ∈ rs, r.Bd) (hn : n ≤ 1000) (hT : Tab w) (hok : Ok rs) (hy : 1 ≤ y ∧ y ≤ 9999) :
    Calls Tryd.prog 10 #[.slice A n c, .int .i64 y] w fun e w' => Below w.heap.size w w' ∧ ∃ (g : Nat) (L : List Pe) (R : List Oc), e = .returned (.slice (some ⟨g, 0, none⟩) L.length L.length) ∧ IsY rs y L ∧ Told rs L R ∧ Sls (toC rs) 5 w' w'.heap.size (some ⟨g, 0, none⟩) L.length R ∧ w.heap.size ≤ g := by
  have hof := of_any A n c rs w hS hb hn hT
  have hn2 : rs.length ≤ 1000 := by rw [hS.len]; exact hn
  go_enter Tryd.func10, Tryd.ntmps10
  go_wp2_with fail
  refine hof.mono ?_; rintro e w1 ⟨b1, q⟩
  rcases q with ⟨_, p, mb, pc, PA, rfl, al⟩ | ⟨q, _⟩
  · clear hof
    have h1 : ¬ y < 1 := by omega
    have h2 : ¬ 9999 < y := by omega
    go_upto_region 4 with fail
    go_wp2_with fail
    refine (year_any _ _ p mb n c A PA _ pc rs y w1 al ⟨by omega, by omega⟩).mono ?_; rintro x w2 ⟨v, rfl, hv, al2, bt2⟩
    obtain ⟨A', n', c', L, rfl, hL, hS2, _, _⟩ := hv
    have b2 := b1.trans (bt2.below al.ge.1 al.bw)
    have hlen := hL.len
    have hln := hS2.len
    have HL := Lib.hid hL; clear hL
    go_wp2_with fail
    refine (told_any _ _ p mb n c A PA _ pc rs A' n' c' L w2 al2 hok hS2 (fun e he => (HL.out.mem.1 he).1) (by omega)).mono ?_; rintro x w3 ⟨g, R, rfl, hT3, hS3, al3, bt3, hg3⟩
    have b3 := b2.trans (bt3.below al.ge.1 al2.bw)
    have HT3 := Lib.hid hT3; clear hT3
    have HG3 := Lib.hid (Nat.le_trans b2.size hg3)
    go_wp2_with fail
    go_ret
    exact ⟨b3, g, L, R, by rw [hln]; rfl, HL.out, HT3.out, hS3, HG3.out⟩
  · exact absurd hok q
theorem one_sls {W : World} {g : Nat} {a : Ru} (x : Blk W g 42 a.C) : Sls Ru.C 11 W W.heap.size (some ⟨g, 0, none⟩) 1 [a] := Sls.of_blk (L := [a]) (fun _ => rfl) x (by rw [flat_one])
theorem ok_one {r : Ru} (h : RuOk r) : Ok [r] := fun a ha => by rw [List.mem_singleton.1 ha]; exact h
theorem bd_one {r : Ru} (h : r.Bd) : ∀ a ∈ [r], a.Bd := fun a ha => by rw [List.mem_singleton.1 ha]; exact h
/-- Year of a part of a rule -/
theorem year_part {r a : Ru} {y : Int} {n : Nat} (hr : toC [a] = toC [r]) (hok : RuOk a) (hb : a.Bd) (hy : 1 ≤ y ∧ y ≤ 9999) (hn : (evL a y).length = n) (g : Nat) (U : World) (hT : Tab U) (x : Blk U g 42 a.C) : Calls Tryd.prog 10 #[.slice (some ⟨g, 0, none⟩) 1 1, .int .i64 y] U (YaP r y n U) :=
  (Year_new _ 1 1 [a] y U (one_sls x) (bd_one hb) (by decide) hT (ok_one hok) hy).mono fun e w' ⟨h1, g', L, R, h2, h3, h4, h5, h6⟩ => by
    have hL : L = evL a y := one_year h3
    rw [hL, hn] at h2 h5
    rw [hr] at h5
    refine ⟨g', R, h2, h5, h1, h6, fun x hx => ?_⟩
    have hm : x.1 ∈ L := by rw [← h4.1]; exact List.mem_map.2 ⟨x, hx, rfl⟩
    rw [hL] at hm
    unfold evL at hm
    split at hm
    · exact List.mem_singleton.1 hm
    · cases hm
theorem info_oc5 : (Tryd.prog.info? 49).map (fun i => (i.zero, i.size, i.bytes)) = some (some (.agg ocZ), 5, 48) := by kernel_rfl
theorem oc_one (rs : List Ru) (x : Oc) : (toC rs x).all (·.oneCell') = true := by simp [Value.oneCell']
theorem own_none (w : World) {base : Nat} (hb : base ≤ w.heap.size) : (w.alloc (.cells (#[] : Array Value) 49)).ownsRow base 49 5 (.slice (some ⟨w.heap.size, 0, none⟩) 0 0) 0 [] :=
  World.ownsRow_lit (base := base) (e := 49) (size := 5) w (#[] : Array Value) 0 hb (by unfold maxLen; omega) rfl
theorem sls_grown {w w' : World} {α : Type} {f : α → Array Value} {sz n g : Nat} {L : List α} {v : Value} (s : Sls f sz w w.heap.size (some ⟨g, 0, none⟩) n L) (hg : w.grownBy w' v.ownBlock) (hne : 0 < n → v.ownBlock ≠ some g) : Sls f sz w' w'.heap.size (some ⟨g, 0, none⟩) n L := by
  refine (⟨s.len, s.r.1, fun hn => ?_⟩ : Sls f sz w' w.heap.size (some ⟨g, 0, none⟩) n L).more hg.size
  obtain ⟨ad, e, hb, hc⟩ := s.r.2 hn
  injection e with e
  subst e
  exact ⟨_, rfl, hb, fun j u hu => (World.cell?_of_block (w := w) (hg.block _ (by rw [Wd.block_of_add]; exact hb) (by rw [Wd.block_of_add]; exact fun e => hne hn e.symm))).trans (hc j u hu)⟩
theorem sls_lt {w : World} {α : Type} {f : α → Array Value} {sz n g B : Nat} {L : List α} (s : Sls f sz w B (some ⟨g, 0, none⟩) n L) (hn : 0 < n) : g < B := by
  obtain ⟨ad, e, hb, _⟩ := s.r.2 hn
  injection e with e
  subst e
  exact hb
attribute [local go_sem ↓] ldR_sem
attribute [local go_sem] ldSem_run
theorem sk13 {W5 w' : World} {r : Ru} {mid : Int} {ga gb : Nat} (b : Below W5.heap.size W5 w') (xa : Blk w' ga 42 (ruTo r (mid - 1)).C) (xb : Blk w' gb 42 (ruFr r mid).C) : Below W5.heap.size W5 w' ∧ Blk w' ga 42 (ruTo r (mid - 1)).C ∧ Blk w' gb 42 (ruFr r mid).C ∧ ldT 42 (.pointer (some ⟨ga, 0, none⟩)) w' = some (ruTo r (mid - 1)).C ∧ ldT 42 (.pointer (some ⟨gb, 0, none⟩)) w' = some (ruFr r mid).C :=
  ⟨b, xa, xb, ldT_of (ld_seg xa Tryd.underlying42 rfl (by kernel_rfl) (by kernel_rfl)), ldT_of (ld_seg xb Tryd.underlying42 rfl (by kernel_rfl) (by kernel_rfl))⟩
/-- what is had behind both parts -/
def PaE (W5 : World) (r : Ru) (y : Int) (n : Nat) (v : Value) (wx : World) : Prop := ∃ (A : Option Addr) (c : Nat) (R : List Oc), v = .slice A n c ∧ Below W5.heap.size W5 wx ∧ (0 < n → ∃ g, A = some ⟨g, 0, none⟩) ∧ Sls (toC [r]) 5 wx wx.heap.size A n R ∧ ∀ x ∈ R, x.1 = (0, y)
theorem mem_app {R1 R2 : List Oc} {y : Int} (h1 : ∀ x ∈ R1, x.1 = (0, y)) (h2 : ∀ x ∈ R2, x.1 = (0, y)) : ∀ x ∈ R1 ++ R2, x.1 = (0, y) := fun x hx => (List.mem_append.1 hx).elim (h1 x) (h2 x)
theorem part_end {W5 wx : World} {r : Ru} {y : Int} {n : Nat} {v : Value} {R : List Oc} (o : wx.ownsRow W5.heap.size 49 5 v n (flat (toC [r]) R)) (b : Below W5.heap.size W5 wx) (hm : ∀ x ∈ R, x.1 = (0, y)) : PaE W5 r y n v wx := by
  obtain ⟨A, c, rfl⟩ := own_slice o
  have hl := (Reads.of_own o).1
  rw [flat_len (sz := 5) (fun _ => rfl)] at hl
  refine ⟨A, c, R, rfl, b, fun hn => ?_, ⟨by omega, Reads.of_own o⟩, hm⟩
  obtain ⟨g, cap, hA, _⟩ := o.form hn
  exact ⟨g, by injection hA⟩
/-- the code of region 13, out of the body -/
def hd1 : Code → Code
  | .seq a _ => a
  | c => c
def inb : Code → Code
  | .block _ c => c
  | c => c
def inl : Code → Code
  | .loop c => c
  | c => c
noncomputable def c13 : Code := hd1 (tl 1 (inb (hd1 (tl 1 (inl (inb (tl 1 (hd1 (tl 7 bdy)))))))))
set_option maxRecDepth 100000 in
set_option maxHeartbeats 25600000 in
theorem r13_any {r : Ru} {mid y : Int} {w W5 : World} {ga gb na nb N1 : Nat} {v0 v1 v2 v3 v4 v5 v6 v7 v8 v11 v12 v13 v15 v16 v17 v18 v19 v20 v21 v22 v23 v24 v25 v26 v27 v28 v29 v30 v31 v32 v33 v34 v35 v36 v37 v38 v39 v40 v41 v42 v43 v44 v45 v46 v47 v48 v49 v50 v51 v52 v53 v54 v55 v56 v57 v58 v59 v60 v61 v62 v63 v64 v65 v66 v67 v68 v69 v70 v71 v72 v73 v74 v75 v76 v77 v78 v79 v80 v81 v82 v83 v84 v85 v86 v87 v88 v89 v90 v91 v92 v93 v94 v95 v96 v97 v98 v99 v100 v101 v102 v103 v104 v105 v106 v107 v108 v109 v110 v111 v112 v113 v114 v115 v116 v117 v118 v119 v120 v121 v122 v123 v124 v125 v126 v127 v128 v129 v130 v131 v132 v133 v134 v135 v136 v137 v138 v139 v140 v141 v142 v143 v144 v145 v146 v147 v148 v149 v150 v151 v152 v153 v154 v155 v156 v157 v158 v159 v160 v161 v162 v163 v164 v165 v166 v167 v168 v169 v170 v171 v172 v173 v174 v175 v176 v177 v178 v179 v180 v181 v182 v183 v184 v185 v186 v187 v188 v189 v190 v191 v192 v193 v194 v195 v196 v197 v198 : Value} (K : Act → World → Prop) (Q : Exit → Act → World → Prop) (hQ : ∀ c (a : Act) (k : Nat) v u, Q (Exit.panic c) (a.put (some k) v) u → Q (Exit.panic c) a u)
    (xa5 : Blk W5 ga 42 (ruTo r (mid - 1)).C) (xb5 : Blk W5 gb 42 (ruFr r mid).C) (hPL : na + nb = N1) (hL1 : N1 ≤ 1)
    (YA : Hid (∀ (g : Nat) (U : World), Below W5.heap.size W5 U → Blk U g 42 (ruTo r (mid - 1)).C → Calls Tryd.prog 10 #[.slice (some ⟨g, 0, none⟩) 1 1, .int .i64 y] U (YaP r y na U)))
    (YB : Hid (∀ (g : Nat) (U : World), Below W5.heap.size W5 U → Blk U g 42 (ruFr r mid).C → Calls Tryd.prog 10 #[.slice (some ⟨g, 0, none⟩) 1 1, .int .i64 y] U (YaP r y nb U)))
    (HK_ : Hid (∀ (v_ : Value) (wx : World) (x86 x87 x88 x89 x90 x91 x92 x93 x94 x95 x96 : Value), PaE W5 r y (na + nb) v_ wx → K ⟨#[v0, v1, v2, v3, v4, v5, v6, v7, v8, .pointer (some ⟨ga, 0, none⟩), .pointer (some ⟨gb, 0, none⟩), v11, v12, v13, .int .i64 y, v15, v_, v17, v18, v19, v20, v21, v22, v23, v24, v25, v26, v27, v28, v29, v30, v31, v32, v33, v34, v35, v36, v37, v38, v39, v40, v41, v42, v43, v44, v45, v46, v47, v48, v49, v50, v51, v52, v53, v54, v55, v56, v57, v58, v59, v60, v61, v62, v63, v64, v65, v66, v67, v68, v69, v70, v71, v72, v73, v74, v75, v76, v77, v78, v79, v80, v81, v82, v83, v84, v85, x86, x87, x88, x89, x90, x91, x92, x93, x94, x95, x96, v97, v98, v99, v100, v101, v102, v103, v104, v105, v106, v107, v108, v109, v110, v111, v112, v113, v114, v115, v116, v117, v118, v119, v120, v121, v122, v123, v124, v125, v126, v127, v128, v129, v130, v131, v132, v133, v134, v135, v136, v137, v138, v139, v140, v141, v142, v143, v144, v145, v146, v147, v148, v149, v150, v151, v152, v153, v154, v155, v156, v157, v158, v159, v160, v161, v162, v163, v164, v165, v166, v167, v168, v169, v170, v171, v172, v173, v174, v175, v176, v177, v178, v179, v180, v181, v182, v183, v184, v185, v186, v187, v188, v189, v190, v191, v192, v193, v194, v195, v196, v197, v198], []⟩ wx)) :
    Code.wp Tryd.prog c13 (Exit.then K Q) ⟨#[v0, v1, v2, v3, v4, v5, v6, v7, v8, .pointer (some ⟨ga, 0, none⟩), .pointer (some ⟨gb, 0, none⟩), v11, v12, v13, .int .i64 y, v15, v16, v17, v18, v19, v20, v21, v22, v23, v24, v25, v26, v27, v28, v29, v30, v31, v32, v33, v34, v35, v36, v37, v38, v39, v40, v41, v42, v43, v44, v45, v46, v47, v48, v49, v50, v51, v52, v53, v54, v55, v56, v57, v58, v59, v60, v61, v62, v63, v64, v65, v66, v67, v68, v69, v70, v71, v72, v73, v74, v75, v76, v77, v78, v79, v80, v81, v82, v83, v84, v85, v86, v87, v88, v89, v90, v91, v92, v93, v94, v95, v96, v97, v98, v99, v100, v101, v102, v103, v104, v105, v106, v107, v108, v109, v110, v111, v112, v113, v114, v115, v116, v117, v118, v119, v120, v121, v122, v123, v124, v125, v126, v127, v128, v129, v130, v131, v132, v133, v134, v135, v136, v137, v138, v139, v140, v141, v142, v143, v144, v145, v146, v147, v148, v149, v150, v151, v152, v153, v154, v155, v156, v157, v158, v159, v160, v161, v162, v163, v164, v165, v166, v167, v168, v169, v170, v171, v172, v173, v174, v175, v176, v177, v178, v179, v180, v181, v182, v183, v184, v185, v186, v187, v188, v189, v190, v191, v192, v193, v194, v195, v196, v197, v198], []⟩ W5 := by
  obtain ⟨i0, hi0, hz0, hz1, hz2⟩ := info_parts info_oc5
  have HI := Lib.hid hi0; clear hi0
  unfold YaP at YA YB
  try dsimp only
  conv => arg 2; whnf
  go_upto_region 13 with fail
  refine wp_region_held_drew (S := fun w' => Below W5.heap.size W5 w' ∧ Blk w' ga 42 (ruTo r (mid - 1)).C ∧ Blk w' gb 42 (ruFr r mid).C ∧ ldT 42 (.pointer (some ⟨ga, 0, none⟩)) w' = some (ruTo r (mid - 1)).C ∧ ldT 42 (.pointer (some ⟨gb, 0, none⟩)) w' = some (ruFr r mid).C) (by kernel_rfl) (sk13 (Below.refl _ _).drew xa5.drew xb5.drew) (fun hHeld => ?_)
  generalize W5.drew = Wd at *
  refine wpAnyH_take (i := 1) (oi := { dst := some 87, op := Op.load 42 (Operand.tmp 9), type := 42, pos := "top08.go:67", after := #[], guard := none }) (v := ?_) rfl (by kernel_rfl) (by kernel_rfl) (by kernel_rfl) (fun _ _ _ h => hQ _ _ _ _ _ h) (Or.inl ⟨by rfl, ?_⟩) hHeld ?_
  rotate_left
  · intro w hSw
    try dsimp only at hSw
    go_simp
    try with_reducible rfl
  try simp only [Act.put, List.setIfInBounds_toArray, List.set_cons_zero, List.set_cons_succ]
  refine wpAnyH_take (i := 3) (oi := { dst := some 89, op := Op.move (Operand.tmp 14), type := 3, pos := "top08.go:67", after := #[], guard := none }) (v := ?_) rfl (by kernel_rfl) (by kernel_rfl) (by kernel_rfl) (fun _ _ _ h => hQ _ _ _ _ _ h) (Or.inl ⟨by rfl, ?_⟩) hHeld ?_
  rotate_left
  · intro w hSw
    try dsimp only at hSw
    go_simp
    try with_reducible rfl
  try simp only [Act.put, List.setIfInBounds_toArray, List.set_cons_zero, List.set_cons_succ]
  refine wpAnyH_take (i := 6) (oi := { dst := some 92, op := Op.load 42 (Operand.tmp 10), type := 42, pos := "top08.go:67", after := #[], guard := none }) (v := ?_) rfl (by kernel_rfl) (by kernel_rfl) (by kernel_rfl) (fun _ _ _ h => hQ _ _ _ _ _ h) (Or.inl ⟨by rfl, ?_⟩) hHeld ?_
  rotate_left
  · intro w hSw
    try dsimp only at hSw
    go_simp
    try with_reducible rfl
  try simp only [Act.put, List.setIfInBounds_toArray, List.set_cons_zero, List.set_cons_succ]
  refine wpAnyH_take (i := 8) (oi := { dst := some 94, op := Op.move (Operand.tmp 14), type := 3, pos := "top08.go:67", after := #[], guard := none }) (v := ?_) rfl (by kernel_rfl) (by kernel_rfl) (by kernel_rfl) (fun _ _ _ h => hQ _ _ _ _ _ h) (Or.inl ⟨by rfl, ?_⟩) hHeld ?_
  rotate_left
  · intro w hSw
    try dsimp only at hSw
    go_simp
    try with_reducible rfl
  try simp only [Act.put, List.setIfInBounds_toArray, List.set_cons_zero, List.set_cons_succ]
  refine wpAnyH_ready (rs := [0, 2, 7]) (by kernel_rfl) (by simp) ?_
  refine AllReadyH.cons (o := { dst := some 86, op := Op.buildSlice 46 0 #[], type := 46, pos := "top08.go:67", after := #[], guard := none }) rfl (fun K hK => ?_) (AllReadyH.cons (o := { dst := some 88, op := Op.buildSlice 22 1 #[(0, Operand.tmp 87)], type := 22, pos := "top08.go:67", after := #[{ on := 1, ground := Ground.data }], guard := none }) rfl (fun K hK => ?_) (AllReadyH.cons (o := { dst := some 93, op := Op.buildSlice 22 1 #[(0, Operand.tmp 92)], type := 22, pos := "top08.go:67", after := #[{ on := 6, ground := Ground.data }], guard := none }) rfl (fun K hK => ?_) (AllReadyH.nil)))
  · skip
    go_simp
    have al_1 : Below Wd.heap.size Wd (Wd.alloc (.cells (#[] : Array Value) 49)) := Below.alloc (Below.refl _ _) (Nat.le_refl _) _
    have gl_1 : Wd.heap.size < (Wd.alloc (.cells (#[] : Array Value) 49)).heap.size := (Blk.new Wd 49 (#[] : Array Value)).lt
    have fo_1 := own_none (base := W5.heap.size) Wd hHeld.1.size
    have HS_1 := sk13 (hHeld.1.trans (al_1.mono hHeld.1.size)) (hHeld.2.1.below al_1 hHeld.2.1.lt) (hHeld.2.2.1.below al_1 hHeld.2.2.1.lt)
    generalize Wd.alloc (.cells (#[] : Array Value) 49) = W_1 at *
    obtain ⟨g_1, hg_1⟩ : ∃ g, Wd.heap.size = g := ⟨_, rfl⟩
    rw [hg_1] at fo_1 gl_1 ⊢
    clear al_1 hg_1
    refine hK.out _ _ (HS_1) (fun hHeld2 => ?_)
    clear hK K hHeld; have hHeld := hHeld2; clear hHeld2
    try simp only [Act.put, List.setIfInBounds_toArray, List.set_cons_zero, List.set_cons_succ]
    refine wpAnyH_ready (rs := [2, 7]) (by kernel_rfl) (by simp) ?_
    refine AllReadyH.cons (o := { dst := some 88, op := Op.buildSlice 22 1 #[(0, Operand.tmp 87)], type := 22, pos := "top08.go:67", after := #[{ on := 1, ground := Ground.data }], guard := none }) rfl (fun K hK => ?_) (AllReadyH.cons (o := { dst := some 93, op := Op.buildSlice 22 1 #[(0, Operand.tmp 92)], type := 22, pos := "top08.go:67", after := #[{ on := 6, ground := Ground.data }], guard := none }) rfl (fun K hK => ?_) (AllReadyH.nil))
    · skip
      go_simp
      have al_2 : Below W_1.heap.size W_1 (W_1.alloc (.cells (ruTo r (mid - 1)).C 42)) := Below.alloc (Below.refl _ _) (Nat.le_refl _) _
      have gl_2 : W_1.heap.size < (W_1.alloc (.cells (ruTo r (mid - 1)).C 42)).heap.size := (Blk.new W_1 42 (ruTo r (mid - 1)).C).lt
      have fo_2 := own_below fo_1 al_2
      have fyA_2 := Blk.new W_1 42 (ruTo r (mid - 1)).C
      have HS_2 := sk13 (hHeld.1.trans (al_2.mono hHeld.1.size)) (hHeld.2.1.below al_2 hHeld.2.1.lt) (hHeld.2.2.1.below al_2 hHeld.2.2.1.lt)
      generalize W_1.alloc (.cells (ruTo r (mid - 1)).C 42) = W_2 at *
      obtain ⟨g_2, hg_2⟩ : ∃ g, W_1.heap.size = g := ⟨_, rfl⟩
      rw [hg_2] at fyA_2 gl_2 ⊢
      clear al_2 hg_2
      refine hK.out _ _ (HS_2) (fun hHeld2 => ?_)
      clear hK K hHeld; have hHeld := hHeld2; clear hHeld2
      try simp only [Act.put, List.setIfInBounds_toArray, List.set_cons_zero, List.set_cons_succ]
      refine wpAnyH_ready (rs := [4, 7]) (by kernel_rfl) (by simp) ?_
      refine AllReadyH.cons (o := { dst := some 90, op := Op.call { callee := Callee.value (Operand.func 10), args := #[Operand.tmp 88, Operand.tmp 89], argTypes := #[22, 3] }, type := 46, pos := "top08.go:67", after := #[{ on := 2, ground := Ground.data }, { on := 3, ground := Ground.data }], guard := none }) rfl (fun K hK => ?_) (AllReadyH.cons (o := { dst := some 93, op := Op.buildSlice 22 1 #[(0, Operand.tmp 92)], type := 22, pos := "top08.go:67", after := #[{ on := 6, ground := Ground.data }], guard := none }) rfl (fun K hK => ?_) (AllReadyH.nil))
      · skip
        go_simp
        refine (YA.out _ _ hHeld.1 fyA_2).mono ?_; rintro e_3 w_3 ⟨gr_3, R_3, rfl, hs_3, hb_3, hge_3, hm_3⟩
        try go_wp2_with fail
        have fo_3 := own_below fo_2 hb_3
        have HS_3 := sk13 (hHeld.1.trans (hb_3.mono hHeld.1.size)) (hHeld.2.1.below hb_3 hHeld.2.1.lt) (hHeld.2.2.1.below hb_3 hHeld.2.2.1.lt)
        clear hb_3
        refine hK.out _ _ (HS_3) (fun hHeld2 => ?_)
        clear hK K hHeld; have hHeld := hHeld2; clear hHeld2
        try simp only [Act.put, List.setIfInBounds_toArray, List.set_cons_zero, List.set_cons_succ]
        refine wpAnyH_ready (rs := [5, 7]) (by kernel_rfl) (by simp) ?_
        refine AllReadyH.cons (o := { dst := some 91, op := Op.call { callee := Callee.builtin Builtin.append, args := #[Operand.tmp 86, Operand.tmp 90], argTypes := #[46, 46] }, type := 46, pos := "top08.go:67", after := #[{ on := 0, ground := Ground.data }, { on := 4, ground := Ground.data }, { on := 4, ground := Ground.chain }], guard := none }) rfl (fun K hK => ?_) (AllReadyH.cons (o := { dst := some 93, op := Op.buildSlice 22 1 #[(0, Operand.tmp 92)], type := 22, pos := "top08.go:67", after := #[{ on := 6, ground := Ground.data }], guard := none }) rfl (fun K hK => ?_) (AllReadyH.nil))
        · skip
          rw [if_pos (by rfl)]
          refine wp_append_any _ (.tmp 86) (.tmp 90) 46 rfl W5.heap.size 49 i0 _ 5 48 Tryd.underlying46 HI.out hz0 hz1 hz2 rfl (by decide) _ 0 _ rfl fo_3 _ _ na na _ rfl hs_3.r (flat_cells (oc_one [r]) _) (by unfold maxLen; omega) (by omega) hHeld.1.size ?_
          intro v_4 W_4 fo_4 hg_4 hat_4
          have HS_4 := sk13 (hHeld.1.grown hg_4 hHeld.1.size (fun g e => (own_ge fo_3 g e).1)) (hHeld.2.1.grown hg_4 (fun e => own_blk_ne fo_3 hHeld.2.1 (by decide) e.symm)) (hHeld.2.2.1.grown hg_4 (fun e => own_blk_ne fo_3 hHeld.2.2.1 (by decide) e.symm))
          clear hg_4 hat_4
          refine hK.out _ _ (HS_4) (fun hHeld2 => ?_)
          clear hK K hHeld; have hHeld := hHeld2; clear hHeld2
          try simp only [Act.put, List.setIfInBounds_toArray, List.set_cons_zero, List.set_cons_succ]
          refine wpAnyH_ready (rs := [7]) (by kernel_rfl) (by simp) ?_
          refine AllReadyH.cons (o := { dst := some 93, op := Op.buildSlice 22 1 #[(0, Operand.tmp 92)], type := 22, pos := "top08.go:67", after := #[{ on := 6, ground := Ground.data }], guard := none }) rfl (fun K hK => ?_) (AllReadyH.nil)
          go_simp
          have al_5 : Below W_4.heap.size W_4 (W_4.alloc (.cells (ruFr r mid).C 42)) := Below.alloc (Below.refl _ _) (Nat.le_refl _) _
          have gl_5 : W_4.heap.size < (W_4.alloc (.cells (ruFr r mid).C 42)).heap.size := (Blk.new W_4 42 (ruFr r mid).C).lt
          have fo_5 := own_below fo_4 al_5
          have fyB_5 := Blk.new W_4 42 (ruFr r mid).C
          have HS_5 := sk13 (hHeld.1.trans (al_5.mono hHeld.1.size)) (hHeld.2.1.below al_5 hHeld.2.1.lt) (hHeld.2.2.1.below al_5 hHeld.2.2.1.lt)
          generalize W_4.alloc (.cells (ruFr r mid).C 42) = W_5 at *
          obtain ⟨g_5, hg_5⟩ : ∃ g, W_4.heap.size = g := ⟨_, rfl⟩
          rw [hg_5] at fyB_5 gl_5 ⊢
          clear al_5 hg_5
          refine hK.out _ _ (HS_5) (fun hHeld2 => ?_)
          clear hK K hHeld; have hHeld := hHeld2; clear hHeld2
          try simp only [Act.put, List.setIfInBounds_toArray, List.set_cons_zero, List.set_cons_succ]
          refine wpAnyH_ready (rs := [9]) (by kernel_rfl) (by simp) ?_
          refine AllReadyH.cons (o := { dst := some 95, op := Op.call { callee := Callee.value (Operand.func 10), args := #[Operand.tmp 93, Operand.tmp 94], argTypes := #[22, 3] }, type := 46, pos := "top08.go:67", after := #[{ on := 7, ground := Ground.data }, { on := 8, ground := Ground.data }, { on := 5, ground := Ground.chain }], guard := none }) rfl (fun K hK => ?_) (AllReadyH.nil)
          go_simp
          refine (YB.out _ _ hHeld.1 fyB_5).mono ?_; rintro e_6 w_6 ⟨gr_6, R_6, rfl, hs_6, hb_6, hge_6, hm_6⟩
          try go_wp2_with fail
          have fo_6 := own_below fo_5 hb_6
          have HS_6 := sk13 (hHeld.1.trans (hb_6.mono hHeld.1.size)) (hHeld.2.1.below hb_6 hHeld.2.1.lt) (hHeld.2.2.1.below hb_6 hHeld.2.2.1.lt)
          clear hb_6
          refine hK.out _ _ (HS_6) (fun hHeld2 => ?_)
          clear hK K hHeld; have hHeld := hHeld2; clear hHeld2
          try simp only [Act.put, List.setIfInBounds_toArray, List.set_cons_zero, List.set_cons_succ]
          refine wpAnyH_ready (rs := [10]) (by kernel_rfl) (by simp) ?_
          refine AllReadyH.cons (o := { dst := some 96, op := Op.call { callee := Callee.builtin Builtin.append, args := #[Operand.tmp 91, Operand.tmp 95], argTypes := #[46, 46] }, type := 46, pos := "top08.go:67", after := #[{ on := 5, ground := Ground.data }, { on := 9, ground := Ground.data }, { on := 9, ground := Ground.chain }], guard := none }) rfl (fun K hK => ?_) (AllReadyH.nil)
          rw [if_pos (by rfl)]
          refine wp_append_any _ (.tmp 91) (.tmp 95) 46 rfl W5.heap.size 49 i0 _ 5 48 Tryd.underlying46 HI.out hz0 hz1 hz2 rfl (by decide) _ (0 + na) _ rfl fo_6 _ _ nb nb _ rfl hs_6.r (flat_cells (oc_one [r]) _) (by unfold maxLen; omega) (by omega) hHeld.1.size ?_
          intro v_7 W_7 fo_7 hg_7 hat_7
          have HS_7 := sk13 (hHeld.1.grown hg_7 hHeld.1.size (fun g e => (own_ge fo_6 g e).1)) (hHeld.2.1.grown hg_7 (fun e => own_blk_ne fo_6 hHeld.2.1 (by decide) e.symm)) (hHeld.2.2.1.grown hg_7 (fun e => own_blk_ne fo_6 hHeld.2.2.1 (by decide) e.symm))
          rw [List.nil_append, ← flat_append, Nat.zero_add] at fo_7
          clear hg_7 hat_7
          refine hK.out _ _ (HS_7) (fun hHeld2 => ?_)
          clear hK K hHeld; have hHeld := hHeld2; clear hHeld2
          try simp only [Act.put, List.setIfInBounds_toArray, List.set_cons_zero, List.set_cons_succ]
          refine wpAnyH_take (i := 11) (oi := { dst := some 16, op := Op.assign (Operand.tmp 96), type := 46, pos := "top08.go:67", after := #[{ on := 10, ground := Ground.data }, { on := 10, ground := Ground.chain }, { on := 0, ground := Ground.phase }, { on := 1, ground := Ground.phase }, { on := 2, ground := Ground.phase }, { on := 3, ground := Ground.phase }, { on := 4, ground := Ground.phase }, { on := 5, ground := Ground.phase }, { on := 6, ground := Ground.phase }, { on := 7, ground := Ground.phase }, { on := 8, ground := Ground.phase }, { on := 9, ground := Ground.phase }, { on := 10, ground := Ground.phase }], guard := none }) (v := ?_) rfl (by kernel_rfl) (by kernel_rfl) (by kernel_rfl) (fun _ _ _ h => hQ _ _ _ _ _ h) (Or.inl ⟨by rfl, ?_⟩) hHeld ?_
          rotate_left
          · intro w hSw
            try dsimp only at hSw
            go_simp
            try with_reducible rfl
          try simp only [Act.put, List.setIfInBounds_toArray, List.set_cons_zero, List.set_cons_succ]
          refine wpAnyH_done (by kernel_rfl) ?_ _
          go_wp2_with fail
          exact HK_.out _ _ _ _ _ _ _ _ _ _ _ _ _ (part_end fo_7 hHeld.1 (mem_app hm_3 hm_6))
        · skip
          go_simp
          have al_8 : Below w_3.heap.size w_3 (w_3.alloc (.cells (ruFr r mid).C 42)) := Below.alloc (Below.refl _ _) (Nat.le_refl _) _
          have gl_8 : w_3.heap.size < (w_3.alloc (.cells (ruFr r mid).C 42)).heap.size := (Blk.new w_3 42 (ruFr r mid).C).lt
          have fo_8 := own_below fo_3 al_8
          have fsA_8 := (hs_3.below al_8).more al_8.size
          have fyB_8 := Blk.new w_3 42 (ruFr r mid).C
          have HS_8 := sk13 (hHeld.1.trans (al_8.mono hHeld.1.size)) (hHeld.2.1.below al_8 hHeld.2.1.lt) (hHeld.2.2.1.below al_8 hHeld.2.2.1.lt)
          generalize w_3.alloc (.cells (ruFr r mid).C 42) = W_8 at *
          obtain ⟨g_8, hg_8⟩ : ∃ g, w_3.heap.size = g := ⟨_, rfl⟩
          rw [hg_8] at fyB_8 gl_8 ⊢
          clear al_8 hg_8
          refine hK.out _ _ (HS_8) (fun hHeld2 => ?_)
          clear hK K hHeld; have hHeld := hHeld2; clear hHeld2
          try simp only [Act.put, List.setIfInBounds_toArray, List.set_cons_zero, List.set_cons_succ]
          refine wpAnyH_ready (rs := [5]) (by kernel_rfl) (by simp) ?_
          refine AllReadyH.cons (o := { dst := some 91, op := Op.call { callee := Callee.builtin Builtin.append, args := #[Operand.tmp 86, Operand.tmp 90], argTypes := #[46, 46] }, type := 46, pos := "top08.go:67", after := #[{ on := 0, ground := Ground.data }, { on := 4, ground := Ground.data }, { on := 4, ground := Ground.chain }], guard := none }) rfl (fun K hK => ?_) (AllReadyH.nil)
          rw [if_pos (by rfl)]
          refine wp_append_any _ (.tmp 86) (.tmp 90) 46 rfl W5.heap.size 49 i0 _ 5 48 Tryd.underlying46 HI.out hz0 hz1 hz2 rfl (by decide) _ 0 _ rfl fo_8 _ _ na na _ rfl fsA_8.r (flat_cells (oc_one [r]) _) (by unfold maxLen; omega) (by omega) hHeld.1.size ?_
          intro v_9 W_9 fo_9 hg_9 hat_9
          have fyB_9 := fyB_8.grown hg_9 (fun e => own_blk_ne fo_8 fyB_8 (by decide) e.symm)
          have HS_9 := sk13 (hHeld.1.grown hg_9 hHeld.1.size (fun g e => (own_ge fo_8 g e).1)) (hHeld.2.1.grown hg_9 (fun e => own_blk_ne fo_8 hHeld.2.1 (by decide) e.symm)) (hHeld.2.2.1.grown hg_9 (fun e => own_blk_ne fo_8 hHeld.2.2.1 (by decide) e.symm))
          clear hg_9 hat_9
          refine hK.out _ _ (HS_9) (fun hHeld2 => ?_)
          clear hK K hHeld; have hHeld := hHeld2; clear hHeld2
          try simp only [Act.put, List.setIfInBounds_toArray, List.set_cons_zero, List.set_cons_succ]
          refine wpAnyH_ready (rs := [9]) (by kernel_rfl) (by simp) ?_
          refine AllReadyH.cons (o := { dst := some 95, op := Op.call { callee := Callee.value (Operand.func 10), args := #[Operand.tmp 93, Operand.tmp 94], argTypes := #[22, 3] }, type := 46, pos := "top08.go:67", after := #[{ on := 7, ground := Ground.data }, { on := 8, ground := Ground.data }, { on := 5, ground := Ground.chain }], guard := none }) rfl (fun K hK => ?_) (AllReadyH.nil)
          go_simp
          refine (YB.out _ _ hHeld.1 fyB_9).mono ?_; rintro e_10 w_10 ⟨gr_10, R_10, rfl, hs_10, hb_10, hge_10, hm_10⟩
          try go_wp2_with fail
          have fo_10 := own_below fo_9 hb_10
          have HS_10 := sk13 (hHeld.1.trans (hb_10.mono hHeld.1.size)) (hHeld.2.1.below hb_10 hHeld.2.1.lt) (hHeld.2.2.1.below hb_10 hHeld.2.2.1.lt)
          clear hb_10
          refine hK.out _ _ (HS_10) (fun hHeld2 => ?_)
          clear hK K hHeld; have hHeld := hHeld2; clear hHeld2
          try simp only [Act.put, List.setIfInBounds_toArray, List.set_cons_zero, List.set_cons_succ]
          refine wpAnyH_ready (rs := [10]) (by kernel_rfl) (by simp) ?_
          refine AllReadyH.cons (o := { dst := some 96, op := Op.call { callee := Callee.builtin Builtin.append, args := #[Operand.tmp 91, Operand.tmp 95], argTypes := #[46, 46] }, type := 46, pos := "top08.go:67", after := #[{ on := 5, ground := Ground.data }, { on := 9, ground := Ground.data }, { on := 9, ground := Ground.chain }], guard := none }) rfl (fun K hK => ?_) (AllReadyH.nil)
          rw [if_pos (by rfl)]
          refine wp_append_any _ (.tmp 91) (.tmp 95) 46 rfl W5.heap.size 49 i0 _ 5 48 Tryd.underlying46 HI.out hz0 hz1 hz2 rfl (by decide) _ (0 + na) _ rfl fo_10 _ _ nb nb _ rfl hs_10.r (flat_cells (oc_one [r]) _) (by unfold maxLen; omega) (by omega) hHeld.1.size ?_
          intro v_11 W_11 fo_11 hg_11 hat_11
          have HS_11 := sk13 (hHeld.1.grown hg_11 hHeld.1.size (fun g e => (own_ge fo_10 g e).1)) (hHeld.2.1.grown hg_11 (fun e => own_blk_ne fo_10 hHeld.2.1 (by decide) e.symm)) (hHeld.2.2.1.grown hg_11 (fun e => own_blk_ne fo_10 hHeld.2.2.1 (by decide) e.symm))
          rw [List.nil_append, ← flat_append, Nat.zero_add] at fo_11
          clear hg_11 hat_11
          refine hK.out _ _ (HS_11) (fun hHeld2 => ?_)
          clear hK K hHeld; have hHeld := hHeld2; clear hHeld2
          try simp only [Act.put, List.setIfInBounds_toArray, List.set_cons_zero, List.set_cons_succ]
          refine wpAnyH_take (i := 11) (oi := { dst := some 16, op := Op.assign (Operand.tmp 96), type := 46, pos := "top08.go:67", after := #[{ on := 10, ground := Ground.data }, { on := 10, ground := Ground.chain }, { on := 0, ground := Ground.phase }, { on := 1, ground := Ground.phase }, { on := 2, ground := Ground.phase }, { on := 3, ground := Ground.phase }, { on := 4, ground := Ground.phase }, { on := 5, ground := Ground.phase }, { on := 6, ground := Ground.phase }, { on := 7, ground := Ground.phase }, { on := 8, ground := Ground.phase }, { on := 9, ground := Ground.phase }, { on := 10, ground := Ground.phase }], guard := none }) (v := ?_) rfl (by kernel_rfl) (by kernel_rfl) (by kernel_rfl) (fun _ _ _ h => hQ _ _ _ _ _ h) (Or.inl ⟨by rfl, ?_⟩) hHeld ?_
          rotate_left
          · intro w hSw
            try dsimp only at hSw
            go_simp
            try with_reducible rfl
          try simp only [Act.put, List.setIfInBounds_toArray, List.set_cons_zero, List.set_cons_succ]
          refine wpAnyH_done (by kernel_rfl) ?_ _
          go_wp2_with fail
          exact HK_.out _ _ _ _ _ _ _ _ _ _ _ _ _ (part_end fo_11 hHeld.1 (mem_app hm_3 hm_10))
      · skip
        go_simp
        have al_12 : Below W_2.heap.size W_2 (W_2.alloc (.cells (ruFr r mid).C 42)) := Below.alloc (Below.refl _ _) (Nat.le_refl _) _
        have gl_12 : W_2.heap.size < (W_2.alloc (.cells (ruFr r mid).C 42)).heap.size := (Blk.new W_2 42 (ruFr r mid).C).lt
        have fo_12 := own_below fo_2 al_12
        have fyA_12 := fyA_2.below al_12 fyA_2.lt
        have fyB_12 := Blk.new W_2 42 (ruFr r mid).C
        have HS_12 := sk13 (hHeld.1.trans (al_12.mono hHeld.1.size)) (hHeld.2.1.below al_12 hHeld.2.1.lt) (hHeld.2.2.1.below al_12 hHeld.2.2.1.lt)
        generalize W_2.alloc (.cells (ruFr r mid).C 42) = W_12 at *
        obtain ⟨g_12, hg_12⟩ : ∃ g, W_2.heap.size = g := ⟨_, rfl⟩
        rw [hg_12] at fyB_12 gl_12 ⊢
        clear al_12 hg_12
        refine hK.out _ _ (HS_12) (fun hHeld2 => ?_)
        clear hK K hHeld; have hHeld := hHeld2; clear hHeld2
        try simp only [Act.put, List.setIfInBounds_toArray, List.set_cons_zero, List.set_cons_succ]
        refine wpAnyH_ready (rs := [4]) (by kernel_rfl) (by simp) ?_
        refine AllReadyH.cons (o := { dst := some 90, op := Op.call { callee := Callee.value (Operand.func 10), args := #[Operand.tmp 88, Operand.tmp 89], argTypes := #[22, 3] }, type := 46, pos := "top08.go:67", after := #[{ on := 2, ground := Ground.data }, { on := 3, ground := Ground.data }], guard := none }) rfl (fun K hK => ?_) (AllReadyH.nil)
        go_simp
        refine (YA.out _ _ hHeld.1 fyA_12).mono ?_; rintro e_13 w_13 ⟨gr_13, R_13, rfl, hs_13, hb_13, hge_13, hm_13⟩
        try go_wp2_with fail
        have fo_13 := own_below fo_12 hb_13
        have fyB_13 := fyB_12.below hb_13 fyB_12.lt
        have HS_13 := sk13 (hHeld.1.trans (hb_13.mono hHeld.1.size)) (hHeld.2.1.below hb_13 hHeld.2.1.lt) (hHeld.2.2.1.below hb_13 hHeld.2.2.1.lt)
        clear hb_13
        refine hK.out _ _ (HS_13) (fun hHeld2 => ?_)
        clear hK K hHeld; have hHeld := hHeld2; clear hHeld2
        try simp only [Act.put, List.setIfInBounds_toArray, List.set_cons_zero, List.set_cons_succ]
        refine wpAnyH_ready (rs := [5]) (by kernel_rfl) (by simp) ?_
        refine AllReadyH.cons (o := { dst := some 91, op := Op.call { callee := Callee.builtin Builtin.append, args := #[Operand.tmp 86, Operand.tmp 90], argTypes := #[46, 46] }, type := 46, pos := "top08.go:67", after := #[{ on := 0, ground := Ground.data }, { on := 4, ground := Ground.data }, { on := 4, ground := Ground.chain }], guard := none }) rfl (fun K hK => ?_) (AllReadyH.nil)
        rw [if_pos (by rfl)]
        refine wp_append_any _ (.tmp 86) (.tmp 90) 46 rfl W5.heap.size 49 i0 _ 5 48 Tryd.underlying46 HI.out hz0 hz1 hz2 rfl (by decide) _ 0 _ rfl fo_13 _ _ na na _ rfl hs_13.r (flat_cells (oc_one [r]) _) (by unfold maxLen; omega) (by omega) hHeld.1.size ?_
        intro v_14 W_14 fo_14 hg_14 hat_14
        have fyB_14 := fyB_13.grown hg_14 (fun e => own_blk_ne fo_13 fyB_13 (by decide) e.symm)
        have HS_14 := sk13 (hHeld.1.grown hg_14 hHeld.1.size (fun g e => (own_ge fo_13 g e).1)) (hHeld.2.1.grown hg_14 (fun e => own_blk_ne fo_13 hHeld.2.1 (by decide) e.symm)) (hHeld.2.2.1.grown hg_14 (fun e => own_blk_ne fo_13 hHeld.2.2.1 (by decide) e.symm))
        clear hg_14 hat_14
        refine hK.out _ _ (HS_14) (fun hHeld2 => ?_)
        clear hK K hHeld; have hHeld := hHeld2; clear hHeld2
        try simp only [Act.put, List.setIfInBounds_toArray, List.set_cons_zero, List.set_cons_succ]
        refine wpAnyH_ready (rs := [9]) (by kernel_rfl) (by simp) ?_
        refine AllReadyH.cons (o := { dst := some 95, op := Op.call { callee := Callee.value (Operand.func 10), args := #[Operand.tmp 93, Operand.tmp 94], argTypes := #[22, 3] }, type := 46, pos := "top08.go:67", after := #[{ on := 7, ground := Ground.data }, { on := 8, ground := Ground.data }, { on := 5, ground := Ground.chain }], guard := none }) rfl (fun K hK => ?_) (AllReadyH.nil)
        go_simp
        refine (YB.out _ _ hHeld.1 fyB_14).mono ?_; rintro e_15 w_15 ⟨gr_15, R_15, rfl, hs_15, hb_15, hge_15, hm_15⟩
        try go_wp2_with fail
        have fo_15 := own_below fo_14 hb_15
        have HS_15 := sk13 (hHeld.1.trans (hb_15.mono hHeld.1.size)) (hHeld.2.1.below hb_15 hHeld.2.1.lt) (hHeld.2.2.1.below hb_15 hHeld.2.2.1.lt)
        clear hb_15
        refine hK.out _ _ (HS_15) (fun hHeld2 => ?_)
        clear hK K hHeld; have hHeld := hHeld2; clear hHeld2
        try simp only [Act.put, List.setIfInBounds_toArray, List.set_cons_zero, List.set_cons_succ]
        refine wpAnyH_ready (rs := [10]) (by kernel_rfl) (by simp) ?_
        refine AllReadyH.cons (o := { dst := some 96, op := Op.call { callee := Callee.builtin Builtin.append, args := #[Operand.tmp 91, Operand.tmp 95], argTypes := #[46, 46] }, type := 46, pos := "top08.go:67", after := #[{ on := 5, ground := Ground.data }, { on := 9, ground := Ground.data }, { on := 9, ground := Ground.chain }], guard := none }) rfl (fun K hK => ?_) (AllReadyH.nil)
        rw [if_pos (by rfl)]
        refine wp_append_any _ (.tmp 91) (.tmp 95) 46 rfl W5.heap.size 49 i0 _ 5 48 Tryd.underlying46 HI.out hz0 hz1 hz2 rfl (by decide) _ (0 + na) _ rfl fo_15 _ _ nb nb _ rfl hs_15.r (flat_cells (oc_one [r]) _) (by unfold maxLen; omega) (by omega) hHeld.1.size ?_
        intro v_16 W_16 fo_16 hg_16 hat_16
        have HS_16 := sk13 (hHeld.1.grown hg_16 hHeld.1.size (fun g e => (own_ge fo_15 g e).1)) (hHeld.2.1.grown hg_16 (fun e => own_blk_ne fo_15 hHeld.2.1 (by decide) e.symm)) (hHeld.2.2.1.grown hg_16 (fun e => own_blk_ne fo_15 hHeld.2.2.1 (by decide) e.symm))
        rw [List.nil_append, ← flat_append, Nat.zero_add] at fo_16
        clear hg_16 hat_16
        refine hK.out _ _ (HS_16) (fun hHeld2 => ?_)
        clear hK K hHeld; have hHeld := hHeld2; clear hHeld2
        try simp only [Act.put, List.setIfInBounds_toArray, List.set_cons_zero, List.set_cons_succ]
        refine wpAnyH_take (i := 11) (oi := { dst := some 16, op := Op.assign (Operand.tmp 96), type := 46, pos := "top08.go:67", after := #[{ on := 10, ground := Ground.data }, { on := 10, ground := Ground.chain }, { on := 0, ground := Ground.phase }, { on := 1, ground := Ground.phase }, { on := 2, ground := Ground.phase }, { on := 3, ground := Ground.phase }, { on := 4, ground := Ground.phase }, { on := 5, ground := Ground.phase }, { on := 6, ground := Ground.phase }, { on := 7, ground := Ground.phase }, { on := 8, ground := Ground.phase }, { on := 9, ground := Ground.phase }, { on := 10, ground := Ground.phase }], guard := none }) (v := ?_) rfl (by kernel_rfl) (by kernel_rfl) (by kernel_rfl) (fun _ _ _ h => hQ _ _ _ _ _ h) (Or.inl ⟨by rfl, ?_⟩) hHeld ?_
        rotate_left
        · intro w hSw
          try dsimp only at hSw
          go_simp
          try with_reducible rfl
        try simp only [Act.put, List.setIfInBounds_toArray, List.set_cons_zero, List.set_cons_succ]
        refine wpAnyH_done (by kernel_rfl) ?_ _
        go_wp2_with fail
        exact HK_.out _ _ _ _ _ _ _ _ _ _ _ _ _ (part_end fo_16 hHeld.1 (mem_app hm_13 hm_15))
    · skip
      go_simp
      have al_17 : Below W_1.heap.size W_1 (W_1.alloc (.cells (ruFr r mid).C 42)) := Below.alloc (Below.refl _ _) (Nat.le_refl _) _
      have gl_17 : W_1.heap.size < (W_1.alloc (.cells (ruFr r mid).C 42)).heap.size := (Blk.new W_1 42 (ruFr r mid).C).lt
      have fo_17 := own_below fo_1 al_17
      have fyB_17 := Blk.new W_1 42 (ruFr r mid).C
      have HS_17 := sk13 (hHeld.1.trans (al_17.mono hHeld.1.size)) (hHeld.2.1.below al_17 hHeld.2.1.lt) (hHeld.2.2.1.below al_17 hHeld.2.2.1.lt)
      generalize W_1.alloc (.cells (ruFr r mid).C 42) = W_17 at *
      obtain ⟨g_17, hg_17⟩ : ∃ g, W_1.heap.size = g := ⟨_, rfl⟩
      rw [hg_17] at fyB_17 gl_17 ⊢
      clear al_17 hg_17
      refine hK.out _ _ (HS_17) (fun hHeld2 => ?_)
      clear hK K hHeld; have hHeld := hHeld2; clear hHeld2
      try simp only [Act.put, List.setIfInBounds_toArray, List.set_cons_zero, List.set_cons_succ]
      refine wpAnyH_ready (rs := [2]) (by kernel_rfl) (by simp) ?_
      refine AllReadyH.cons (o := { dst := some 88, op := Op.buildSlice 22 1 #[(0, Operand.tmp 87)], type := 22, pos := "top08.go:67", after := #[{ on := 1, ground := Ground.data }], guard := none }) rfl (fun K hK => ?_) (AllReadyH.nil)
      go_simp
      have al_18 : Below W_17.heap.size W_17 (W_17.alloc (.cells (ruTo r (mid - 1)).C 42)) := Below.alloc (Below.refl _ _) (Nat.le_refl _) _
      have gl_18 : W_17.heap.size < (W_17.alloc (.cells (ruTo r (mid - 1)).C 42)).heap.size := (Blk.new W_17 42 (ruTo r (mid - 1)).C).lt
      have fo_18 := own_below fo_17 al_18
      have fyB_18 := fyB_17.below al_18 fyB_17.lt
      have fyA_18 := Blk.new W_17 42 (ruTo r (mid - 1)).C
      have HS_18 := sk13 (hHeld.1.trans (al_18.mono hHeld.1.size)) (hHeld.2.1.below al_18 hHeld.2.1.lt) (hHeld.2.2.1.below al_18 hHeld.2.2.1.lt)
      generalize W_17.alloc (.cells (ruTo r (mid - 1)).C 42) = W_18 at *
      obtain ⟨g_18, hg_18⟩ : ∃ g, W_17.heap.size = g := ⟨_, rfl⟩
      rw [hg_18] at fyA_18 gl_18 ⊢
      clear al_18 hg_18
      refine hK.out _ _ (HS_18) (fun hHeld2 => ?_)
      clear hK K hHeld; have hHeld := hHeld2; clear hHeld2
      try simp only [Act.put, List.setIfInBounds_toArray, List.set_cons_zero, List.set_cons_succ]
      refine wpAnyH_ready (rs := [4]) (by kernel_rfl) (by simp) ?_
      refine AllReadyH.cons (o := { dst := some 90, op := Op.call { callee := Callee.value (Operand.func 10), args := #[Operand.tmp 88, Operand.tmp 89], argTypes := #[22, 3] }, type := 46, pos := "top08.go:67", after := #[{ on := 2, ground := Ground.data }, { on := 3, ground := Ground.data }], guard := none }) rfl (fun K hK => ?_) (AllReadyH.nil)
      go_simp
      refine (YA.out _ _ hHeld.1 fyA_18).mono ?_; rintro e_19 w_19 ⟨gr_19, R_19, rfl, hs_19, hb_19, hge_19, hm_19⟩
      try go_wp2_with fail
      have fo_19 := own_below fo_18 hb_19
      have fyB_19 := fyB_18.below hb_19 fyB_18.lt
      have HS_19 := sk13 (hHeld.1.trans (hb_19.mono hHeld.1.size)) (hHeld.2.1.below hb_19 hHeld.2.1.lt) (hHeld.2.2.1.below hb_19 hHeld.2.2.1.lt)
      clear hb_19
      refine hK.out _ _ (HS_19) (fun hHeld2 => ?_)
      clear hK K hHeld; have hHeld := hHeld2; clear hHeld2
      try simp only [Act.put, List.setIfInBounds_toArray, List.set_cons_zero, List.set_cons_succ]
      refine wpAnyH_ready (rs := [5]) (by kernel_rfl) (by simp) ?_
      refine AllReadyH.cons (o := { dst := some 91, op := Op.call { callee := Callee.builtin Builtin.append, args := #[Operand.tmp 86, Operand.tmp 90], argTypes := #[46, 46] }, type := 46, pos := "top08.go:67", after := #[{ on := 0, ground := Ground.data }, { on := 4, ground := Ground.data }, { on := 4, ground := Ground.chain }], guard := none }) rfl (fun K hK => ?_) (AllReadyH.nil)
      rw [if_pos (by rfl)]
      refine wp_append_any _ (.tmp 86) (.tmp 90) 46 rfl W5.heap.size 49 i0 _ 5 48 Tryd.underlying46 HI.out hz0 hz1 hz2 rfl (by decide) _ 0 _ rfl fo_19 _ _ na na _ rfl hs_19.r (flat_cells (oc_one [r]) _) (by unfold maxLen; omega) (by omega) hHeld.1.size ?_
      intro v_20 W_20 fo_20 hg_20 hat_20
      have fyB_20 := fyB_19.grown hg_20 (fun e => own_blk_ne fo_19 fyB_19 (by decide) e.symm)
      have HS_20 := sk13 (hHeld.1.grown hg_20 hHeld.1.size (fun g e => (own_ge fo_19 g e).1)) (hHeld.2.1.grown hg_20 (fun e => own_blk_ne fo_19 hHeld.2.1 (by decide) e.symm)) (hHeld.2.2.1.grown hg_20 (fun e => own_blk_ne fo_19 hHeld.2.2.1 (by decide) e.symm))
      clear hg_20 hat_20
      refine hK.out _ _ (HS_20) (fun hHeld2 => ?_)
      clear hK K hHeld; have hHeld := hHeld2; clear hHeld2
      try simp only [Act.put, List.setIfInBounds_toArray, List.set_cons_zero, List.set_cons_succ]
      refine wpAnyH_ready (rs := [9]) (by kernel_rfl) (by simp) ?_
      refine AllReadyH.cons (o := { dst := some 95, op := Op.call { callee := Callee.value (Operand.func 10), args := #[Operand.tmp 93, Operand.tmp 94], argTypes := #[22, 3] }, type := 46, pos := "top08.go:67", after := #[{ on := 7, ground := Ground.data }, { on := 8, ground := Ground.data }, { on := 5, ground := Ground.chain }], guard := none }) rfl (fun K hK => ?_) (AllReadyH.nil)
      go_simp
      refine (YB.out _ _ hHeld.1 fyB_20).mono ?_; rintro e_21 w_21 ⟨gr_21, R_21, rfl, hs_21, hb_21, hge_21, hm_21⟩
      try go_wp2_with fail
      have fo_21 := own_below fo_20 hb_21
      have HS_21 := sk13 (hHeld.1.trans (hb_21.mono hHeld.1.size)) (hHeld.2.1.below hb_21 hHeld.2.1.lt) (hHeld.2.2.1.below hb_21 hHeld.2.2.1.lt)
      clear hb_21
      refine hK.out _ _ (HS_21) (fun hHeld2 => ?_)
      clear hK K hHeld; have hHeld := hHeld2; clear hHeld2
      try simp only [Act.put, List.setIfInBounds_toArray, List.set_cons_zero, List.set_cons_succ]
      refine wpAnyH_ready (rs := [10]) (by kernel_rfl) (by simp) ?_
      refine AllReadyH.cons (o := { dst := some 96, op := Op.call { callee := Callee.builtin Builtin.append, args := #[Operand.tmp 91, Operand.tmp 95], argTypes := #[46, 46] }, type := 46, pos := "top08.go:67", after := #[{ on := 5, ground := Ground.data }, { on := 9, ground := Ground.data }, { on := 9, ground := Ground.chain }], guard := none }) rfl (fun K hK => ?_) (AllReadyH.nil)
      rw [if_pos (by rfl)]
      refine wp_append_any _ (.tmp 91) (.tmp 95) 46 rfl W5.heap.size 49 i0 _ 5 48 Tryd.underlying46 HI.out hz0 hz1 hz2 rfl (by decide) _ (0 + na) _ rfl fo_21 _ _ nb nb _ rfl hs_21.r (flat_cells (oc_one [r]) _) (by unfold maxLen; omega) (by omega) hHeld.1.size ?_
      intro v_22 W_22 fo_22 hg_22 hat_22
      have HS_22 := sk13 (hHeld.1.grown hg_22 hHeld.1.size (fun g e => (own_ge fo_21 g e).1)) (hHeld.2.1.grown hg_22 (fun e => own_blk_ne fo_21 hHeld.2.1 (by decide) e.symm)) (hHeld.2.2.1.grown hg_22 (fun e => own_blk_ne fo_21 hHeld.2.2.1 (by decide) e.symm))
      rw [List.nil_append, ← flat_append, Nat.zero_add] at fo_22
      clear hg_22 hat_22
      refine hK.out _ _ (HS_22) (fun hHeld2 => ?_)
      clear hK K hHeld; have hHeld := hHeld2; clear hHeld2
      try simp only [Act.put, List.setIfInBounds_toArray, List.set_cons_zero, List.set_cons_succ]
      refine wpAnyH_take (i := 11) (oi := { dst := some 16, op := Op.assign (Operand.tmp 96), type := 46, pos := "top08.go:67", after := #[{ on := 10, ground := Ground.data }, { on := 10, ground := Ground.chain }, { on := 0, ground := Ground.phase }, { on := 1, ground := Ground.phase }, { on := 2, ground := Ground.phase }, { on := 3, ground := Ground.phase }, { on := 4, ground := Ground.phase }, { on := 5, ground := Ground.phase }, { on := 6, ground := Ground.phase }, { on := 7, ground := Ground.phase }, { on := 8, ground := Ground.phase }, { on := 9, ground := Ground.phase }, { on := 10, ground := Ground.phase }], guard := none }) (v := ?_) rfl (by kernel_rfl) (by kernel_rfl) (by kernel_rfl) (fun _ _ _ h => hQ _ _ _ _ _ h) (Or.inl ⟨by rfl, ?_⟩) hHeld ?_
      rotate_left
      · intro w hSw
        try dsimp only at hSw
        go_simp
        try with_reducible rfl
      try simp only [Act.put, List.setIfInBounds_toArray, List.set_cons_zero, List.set_cons_succ]
      refine wpAnyH_done (by kernel_rfl) ?_ _
      go_wp2_with fail
      exact HK_.out _ _ _ _ _ _ _ _ _ _ _ _ _ (part_end fo_22 hHeld.1 (mem_app hm_19 hm_21))
  · skip
    go_simp
    have al_23 : Below Wd.heap.size Wd (Wd.alloc (.cells (ruTo r (mid - 1)).C 42)) := Below.alloc (Below.refl _ _) (Nat.le_refl _) _
    have gl_23 : Wd.heap.size < (Wd.alloc (.cells (ruTo r (mid - 1)).C 42)).heap.size := (Blk.new Wd 42 (ruTo r (mid - 1)).C).lt
    have fyA_23 := Blk.new Wd 42 (ruTo r (mid - 1)).C
    have HS_23 := sk13 (hHeld.1.trans (al_23.mono hHeld.1.size)) (hHeld.2.1.below al_23 hHeld.2.1.lt) (hHeld.2.2.1.below al_23 hHeld.2.2.1.lt)
    generalize Wd.alloc (.cells (ruTo r (mid - 1)).C 42) = W_23 at *
    obtain ⟨g_23, hg_23⟩ : ∃ g, Wd.heap.size = g := ⟨_, rfl⟩
    rw [hg_23] at fyA_23 gl_23 ⊢
    clear al_23 hg_23
    refine hK.out _ _ (HS_23) (fun hHeld2 => ?_)
    clear hK K hHeld; have hHeld := hHeld2; clear hHeld2
    try simp only [Act.put, List.setIfInBounds_toArray, List.set_cons_zero, List.set_cons_succ]
    refine wpAnyH_ready (rs := [0, 4, 7]) (by kernel_rfl) (by simp) ?_
    refine AllReadyH.cons (o := { dst := some 86, op := Op.buildSlice 46 0 #[], type := 46, pos := "top08.go:67", after := #[], guard := none }) rfl (fun K hK => ?_) (AllReadyH.cons (o := { dst := some 90, op := Op.call { callee := Callee.value (Operand.func 10), args := #[Operand.tmp 88, Operand.tmp 89], argTypes := #[22, 3] }, type := 46, pos := "top08.go:67", after := #[{ on := 2, ground := Ground.data }, { on := 3, ground := Ground.data }], guard := none }) rfl (fun K hK => ?_) (AllReadyH.cons (o := { dst := some 93, op := Op.buildSlice 22 1 #[(0, Operand.tmp 92)], type := 22, pos := "top08.go:67", after := #[{ on := 6, ground := Ground.data }], guard := none }) rfl (fun K hK => ?_) (AllReadyH.nil)))
    · skip
      go_simp
      have al_24 : Below W_23.heap.size W_23 (W_23.alloc (.cells (#[] : Array Value) 49)) := Below.alloc (Below.refl _ _) (Nat.le_refl _) _
      have gl_24 : W_23.heap.size < (W_23.alloc (.cells (#[] : Array Value) 49)).heap.size := (Blk.new W_23 49 (#[] : Array Value)).lt
      have fyA_24 := fyA_23.below al_24 fyA_23.lt
      have fo_24 := own_none (base := W5.heap.size) W_23 hHeld.1.size
      have HS_24 := sk13 (hHeld.1.trans (al_24.mono hHeld.1.size)) (hHeld.2.1.below al_24 hHeld.2.1.lt) (hHeld.2.2.1.below al_24 hHeld.2.2.1.lt)
      generalize W_23.alloc (.cells (#[] : Array Value) 49) = W_24 at *
      obtain ⟨g_24, hg_24⟩ : ∃ g, W_23.heap.size = g := ⟨_, rfl⟩
      rw [hg_24] at fo_24 gl_24 ⊢
      clear al_24 hg_24
      refine hK.out _ _ (HS_24) (fun hHeld2 => ?_)
      clear hK K hHeld; have hHeld := hHeld2; clear hHeld2
      try simp only [Act.put, List.setIfInBounds_toArray, List.set_cons_zero, List.set_cons_succ]
      refine wpAnyH_ready (rs := [4, 7]) (by kernel_rfl) (by simp) ?_
      refine AllReadyH.cons (o := { dst := some 90, op := Op.call { callee := Callee.value (Operand.func 10), args := #[Operand.tmp 88, Operand.tmp 89], argTypes := #[22, 3] }, type := 46, pos := "top08.go:67", after := #[{ on := 2, ground := Ground.data }, { on := 3, ground := Ground.data }], guard := none }) rfl (fun K hK => ?_) (AllReadyH.cons (o := { dst := some 93, op := Op.buildSlice 22 1 #[(0, Operand.tmp 92)], type := 22, pos := "top08.go:67", after := #[{ on := 6, ground := Ground.data }], guard := none }) rfl (fun K hK => ?_) (AllReadyH.nil))
      · skip
        go_simp
        refine (YA.out _ _ hHeld.1 fyA_24).mono ?_; rintro e_25 w_25 ⟨gr_25, R_25, rfl, hs_25, hb_25, hge_25, hm_25⟩
        try go_wp2_with fail
        have fo_25 := own_below fo_24 hb_25
        have HS_25 := sk13 (hHeld.1.trans (hb_25.mono hHeld.1.size)) (hHeld.2.1.below hb_25 hHeld.2.1.lt) (hHeld.2.2.1.below hb_25 hHeld.2.2.1.lt)
        clear hb_25
        refine hK.out _ _ (HS_25) (fun hHeld2 => ?_)
        clear hK K hHeld; have hHeld := hHeld2; clear hHeld2
        try simp only [Act.put, List.setIfInBounds_toArray, List.set_cons_zero, List.set_cons_succ]
        refine wpAnyH_ready (rs := [5, 7]) (by kernel_rfl) (by simp) ?_
        refine AllReadyH.cons (o := { dst := some 91, op := Op.call { callee := Callee.builtin Builtin.append, args := #[Operand.tmp 86, Operand.tmp 90], argTypes := #[46, 46] }, type := 46, pos := "top08.go:67", after := #[{ on := 0, ground := Ground.data }, { on := 4, ground := Ground.data }, { on := 4, ground := Ground.chain }], guard := none }) rfl (fun K hK => ?_) (AllReadyH.cons (o := { dst := some 93, op := Op.buildSlice 22 1 #[(0, Operand.tmp 92)], type := 22, pos := "top08.go:67", after := #[{ on := 6, ground := Ground.data }], guard := none }) rfl (fun K hK => ?_) (AllReadyH.nil))
        · skip
          rw [if_pos (by rfl)]
          refine wp_append_any _ (.tmp 86) (.tmp 90) 46 rfl W5.heap.size 49 i0 _ 5 48 Tryd.underlying46 HI.out hz0 hz1 hz2 rfl (by decide) _ 0 _ rfl fo_25 _ _ na na _ rfl hs_25.r (flat_cells (oc_one [r]) _) (by unfold maxLen; omega) (by omega) hHeld.1.size ?_
          intro v_26 W_26 fo_26 hg_26 hat_26
          have HS_26 := sk13 (hHeld.1.grown hg_26 hHeld.1.size (fun g e => (own_ge fo_25 g e).1)) (hHeld.2.1.grown hg_26 (fun e => own_blk_ne fo_25 hHeld.2.1 (by decide) e.symm)) (hHeld.2.2.1.grown hg_26 (fun e => own_blk_ne fo_25 hHeld.2.2.1 (by decide) e.symm))
          clear hg_26 hat_26
          refine hK.out _ _ (HS_26) (fun hHeld2 => ?_)
          clear hK K hHeld; have hHeld := hHeld2; clear hHeld2
          try simp only [Act.put, List.setIfInBounds_toArray, List.set_cons_zero, List.set_cons_succ]
          refine wpAnyH_ready (rs := [7]) (by kernel_rfl) (by simp) ?_
          refine AllReadyH.cons (o := { dst := some 93, op := Op.buildSlice 22 1 #[(0, Operand.tmp 92)], type := 22, pos := "top08.go:67", after := #[{ on := 6, ground := Ground.data }], guard := none }) rfl (fun K hK => ?_) (AllReadyH.nil)
          go_simp
          have al_27 : Below W_26.heap.size W_26 (W_26.alloc (.cells (ruFr r mid).C 42)) := Below.alloc (Below.refl _ _) (Nat.le_refl _) _
          have gl_27 : W_26.heap.size < (W_26.alloc (.cells (ruFr r mid).C 42)).heap.size := (Blk.new W_26 42 (ruFr r mid).C).lt
          have fo_27 := own_below fo_26 al_27
          have fyB_27 := Blk.new W_26 42 (ruFr r mid).C
          have HS_27 := sk13 (hHeld.1.trans (al_27.mono hHeld.1.size)) (hHeld.2.1.below al_27 hHeld.2.1.lt) (hHeld.2.2.1.below al_27 hHeld.2.2.1.lt)
          generalize W_26.alloc (.cells (ruFr r mid).C 42) = W_27 at *
          obtain ⟨g_27, hg_27⟩ : ∃ g, W_26.heap.size = g := ⟨_, rfl⟩
          rw [hg_27] at fyB_27 gl_27 ⊢
          clear al_27 hg_27
          refine hK.out _ _ (HS_27) (fun hHeld2 => ?_)
          clear hK K hHeld; have hHeld := hHeld2; clear hHeld2
          try simp only [Act.put, List.setIfInBounds_toArray, List.set_cons_zero, List.set_cons_succ]
          refine wpAnyH_ready (rs := [9]) (by kernel_rfl) (by simp) ?_
          refine AllReadyH.cons (o := { dst := some 95, op := Op.call { callee := Callee.value (Operand.func 10), args := #[Operand.tmp 93, Operand.tmp 94], argTypes := #[22, 3] }, type := 46, pos := "top08.go:67", after := #[{ on := 7, ground := Ground.data }, { on := 8, ground := Ground.data }, { on := 5, ground := Ground.chain }], guard := none }) rfl (fun K hK => ?_) (AllReadyH.nil)
          go_simp
          refine (YB.out _ _ hHeld.1 fyB_27).mono ?_; rintro e_28 w_28 ⟨gr_28, R_28, rfl, hs_28, hb_28, hge_28, hm_28⟩
          try go_wp2_with fail
          have fo_28 := own_below fo_27 hb_28
          have HS_28 := sk13 (hHeld.1.trans (hb_28.mono hHeld.1.size)) (hHeld.2.1.below hb_28 hHeld.2.1.lt) (hHeld.2.2.1.below hb_28 hHeld.2.2.1.lt)
          clear hb_28
          refine hK.out _ _ (HS_28) (fun hHeld2 => ?_)
          clear hK K hHeld; have hHeld := hHeld2; clear hHeld2
          try simp only [Act.put, List.setIfInBounds_toArray, List.set_cons_zero, List.set_cons_succ]
          refine wpAnyH_ready (rs := [10]) (by kernel_rfl) (by simp) ?_
          refine AllReadyH.cons (o := { dst := some 96, op := Op.call { callee := Callee.builtin Builtin.append, args := #[Operand.tmp 91, Operand.tmp 95], argTypes := #[46, 46] }, type := 46, pos := "top08.go:67", after := #[{ on := 5, ground := Ground.data }, { on := 9, ground := Ground.data }, { on := 9, ground := Ground.chain }], guard := none }) rfl (fun K hK => ?_) (AllReadyH.nil)
          rw [if_pos (by rfl)]
          refine wp_append_any _ (.tmp 91) (.tmp 95) 46 rfl W5.heap.size 49 i0 _ 5 48 Tryd.underlying46 HI.out hz0 hz1 hz2 rfl (by decide) _ (0 + na) _ rfl fo_28 _ _ nb nb _ rfl hs_28.r (flat_cells (oc_one [r]) _) (by unfold maxLen; omega) (by omega) hHeld.1.size ?_
          intro v_29 W_29 fo_29 hg_29 hat_29
          have HS_29 := sk13 (hHeld.1.grown hg_29 hHeld.1.size (fun g e => (own_ge fo_28 g e).1)) (hHeld.2.1.grown hg_29 (fun e => own_blk_ne fo_28 hHeld.2.1 (by decide) e.symm)) (hHeld.2.2.1.grown hg_29 (fun e => own_blk_ne fo_28 hHeld.2.2.1 (by decide) e.symm))
          rw [List.nil_append, ← flat_append, Nat.zero_add] at fo_29
          clear hg_29 hat_29
          refine hK.out _ _ (HS_29) (fun hHeld2 => ?_)
          clear hK K hHeld; have hHeld := hHeld2; clear hHeld2
          try simp only [Act.put, List.setIfInBounds_toArray, List.set_cons_zero, List.set_cons_succ]
          refine wpAnyH_take (i := 11) (oi := { dst := some 16, op := Op.assign (Operand.tmp 96), type := 46, pos := "top08.go:67", after := #[{ on := 10, ground := Ground.data }, { on := 10, ground := Ground.chain }, { on := 0, ground := Ground.phase }, { on := 1, ground := Ground.phase }, { on := 2, ground := Ground.phase }, { on := 3, ground := Ground.phase }, { on := 4, ground := Ground.phase }, { on := 5, ground := Ground.phase }, { on := 6, ground := Ground.phase }, { on := 7, ground := Ground.phase }, { on := 8, ground := Ground.phase }, { on := 9, ground := Ground.phase }, { on := 10, ground := Ground.phase }], guard := none }) (v := ?_) rfl (by kernel_rfl) (by kernel_rfl) (by kernel_rfl) (fun _ _ _ h => hQ _ _ _ _ _ h) (Or.inl ⟨by rfl, ?_⟩) hHeld ?_
          rotate_left
          · intro w hSw
            try dsimp only at hSw
            go_simp
            try with_reducible rfl
          try simp only [Act.put, List.setIfInBounds_toArray, List.set_cons_zero, List.set_cons_succ]
          refine wpAnyH_done (by kernel_rfl) ?_ _
          go_wp2_with fail
          exact HK_.out _ _ _ _ _ _ _ _ _ _ _ _ _ (part_end fo_29 hHeld.1 (mem_app hm_25 hm_28))
        · skip
          go_simp
          have al_30 : Below w_25.heap.size w_25 (w_25.alloc (.cells (ruFr r mid).C 42)) := Below.alloc (Below.refl _ _) (Nat.le_refl _) _
          have gl_30 : w_25.heap.size < (w_25.alloc (.cells (ruFr r mid).C 42)).heap.size := (Blk.new w_25 42 (ruFr r mid).C).lt
          have fo_30 := own_below fo_25 al_30
          have fsA_30 := (hs_25.below al_30).more al_30.size
          have fyB_30 := Blk.new w_25 42 (ruFr r mid).C
          have HS_30 := sk13 (hHeld.1.trans (al_30.mono hHeld.1.size)) (hHeld.2.1.below al_30 hHeld.2.1.lt) (hHeld.2.2.1.below al_30 hHeld.2.2.1.lt)
          generalize w_25.alloc (.cells (ruFr r mid).C 42) = W_30 at *
          obtain ⟨g_30, hg_30⟩ : ∃ g, w_25.heap.size = g := ⟨_, rfl⟩
          rw [hg_30] at fyB_30 gl_30 ⊢
          clear al_30 hg_30
          refine hK.out _ _ (HS_30) (fun hHeld2 => ?_)
          clear hK K hHeld; have hHeld := hHeld2; clear hHeld2
          try simp only [Act.put, List.setIfInBounds_toArray, List.set_cons_zero, List.set_cons_succ]
          refine wpAnyH_ready (rs := [5]) (by kernel_rfl) (by simp) ?_
          refine AllReadyH.cons (o := { dst := some 91, op := Op.call { callee := Callee.builtin Builtin.append, args := #[Operand.tmp 86, Operand.tmp 90], argTypes := #[46, 46] }, type := 46, pos := "top08.go:67", after := #[{ on := 0, ground := Ground.data }, { on := 4, ground := Ground.data }, { on := 4, ground := Ground.chain }], guard := none }) rfl (fun K hK => ?_) (AllReadyH.nil)
          rw [if_pos (by rfl)]
          refine wp_append_any _ (.tmp 86) (.tmp 90) 46 rfl W5.heap.size 49 i0 _ 5 48 Tryd.underlying46 HI.out hz0 hz1 hz2 rfl (by decide) _ 0 _ rfl fo_30 _ _ na na _ rfl fsA_30.r (flat_cells (oc_one [r]) _) (by unfold maxLen; omega) (by omega) hHeld.1.size ?_
          intro v_31 W_31 fo_31 hg_31 hat_31
          have fyB_31 := fyB_30.grown hg_31 (fun e => own_blk_ne fo_30 fyB_30 (by decide) e.symm)
          have HS_31 := sk13 (hHeld.1.grown hg_31 hHeld.1.size (fun g e => (own_ge fo_30 g e).1)) (hHeld.2.1.grown hg_31 (fun e => own_blk_ne fo_30 hHeld.2.1 (by decide) e.symm)) (hHeld.2.2.1.grown hg_31 (fun e => own_blk_ne fo_30 hHeld.2.2.1 (by decide) e.symm))
          clear hg_31 hat_31
          refine hK.out _ _ (HS_31) (fun hHeld2 => ?_)
          clear hK K hHeld; have hHeld := hHeld2; clear hHeld2
          try simp only [Act.put, List.setIfInBounds_toArray, List.set_cons_zero, List.set_cons_succ]
          refine wpAnyH_ready (rs := [9]) (by kernel_rfl) (by simp) ?_
          refine AllReadyH.cons (o := { dst := some 95, op := Op.call { callee := Callee.value (Operand.func 10), args := #[Operand.tmp 93, Operand.tmp 94], argTypes := #[22, 3] }, type := 46, pos := "top08.go:67", after := #[{ on := 7, ground := Ground.data }, { on := 8, ground := Ground.data }, { on := 5, ground := Ground.chain }], guard := none }) rfl (fun K hK => ?_) (AllReadyH.nil)
          go_simp
          refine (YB.out _ _ hHeld.1 fyB_31).mono ?_; rintro e_32 w_32 ⟨gr_32, R_32, rfl, hs_32, hb_32, hge_32, hm_32⟩
          try go_wp2_with fail
          have fo_32 := own_below fo_31 hb_32
          have HS_32 := sk13 (hHeld.1.trans (hb_32.mono hHeld.1.size)) (hHeld.2.1.below hb_32 hHeld.2.1.lt) (hHeld.2.2.1.below hb_32 hHeld.2.2.1.lt)
          clear hb_32
          refine hK.out _ _ (HS_32) (fun hHeld2 => ?_)
          clear hK K hHeld; have hHeld := hHeld2; clear hHeld2
          try simp only [Act.put, List.setIfInBounds_toArray, List.set_cons_zero, List.set_cons_succ]
          refine wpAnyH_ready (rs := [10]) (by kernel_rfl) (by simp) ?_
          refine AllReadyH.cons (o := { dst := some 96, op := Op.call { callee := Callee.builtin Builtin.append, args := #[Operand.tmp 91, Operand.tmp 95], argTypes := #[46, 46] }, type := 46, pos := "top08.go:67", after := #[{ on := 5, ground := Ground.data }, { on := 9, ground := Ground.data }, { on := 9, ground := Ground.chain }], guard := none }) rfl (fun K hK => ?_) (AllReadyH.nil)
          rw [if_pos (by rfl)]
          refine wp_append_any _ (.tmp 91) (.tmp 95) 46 rfl W5.heap.size 49 i0 _ 5 48 Tryd.underlying46 HI.out hz0 hz1 hz2 rfl (by decide) _ (0 + na) _ rfl fo_32 _ _ nb nb _ rfl hs_32.r (flat_cells (oc_one [r]) _) (by unfold maxLen; omega) (by omega) hHeld.1.size ?_
          intro v_33 W_33 fo_33 hg_33 hat_33
          have HS_33 := sk13 (hHeld.1.grown hg_33 hHeld.1.size (fun g e => (own_ge fo_32 g e).1)) (hHeld.2.1.grown hg_33 (fun e => own_blk_ne fo_32 hHeld.2.1 (by decide) e.symm)) (hHeld.2.2.1.grown hg_33 (fun e => own_blk_ne fo_32 hHeld.2.2.1 (by decide) e.symm))
          rw [List.nil_append, ← flat_append, Nat.zero_add] at fo_33
          clear hg_33 hat_33
          refine hK.out _ _ (HS_33) (fun hHeld2 => ?_)
          clear hK K hHeld; have hHeld := hHeld2; clear hHeld2
          try simp only [Act.put, List.setIfInBounds_toArray, List.set_cons_zero, List.set_cons_succ]
          refine wpAnyH_take (i := 11) (oi := { dst := some 16, op := Op.assign (Operand.tmp 96), type := 46, pos := "top08.go:67", after := #[{ on := 10, ground := Ground.data }, { on := 10, ground := Ground.chain }, { on := 0, ground := Ground.phase }, { on := 1, ground := Ground.phase }, { on := 2, ground := Ground.phase }, { on := 3, ground := Ground.phase }, { on := 4, ground := Ground.phase }, { on := 5, ground := Ground.phase }, { on := 6, ground := Ground.phase }, { on := 7, ground := Ground.phase }, { on := 8, ground := Ground.phase }, { on := 9, ground := Ground.phase }, { on := 10, ground := Ground.phase }], guard := none }) (v := ?_) rfl (by kernel_rfl) (by kernel_rfl) (by kernel_rfl) (fun _ _ _ h => hQ _ _ _ _ _ h) (Or.inl ⟨by rfl, ?_⟩) hHeld ?_
          rotate_left
          · intro w hSw
            try dsimp only at hSw
            go_simp
            try with_reducible rfl
          try simp only [Act.put, List.setIfInBounds_toArray, List.set_cons_zero, List.set_cons_succ]
          refine wpAnyH_done (by kernel_rfl) ?_ _
          go_wp2_with fail
          exact HK_.out _ _ _ _ _ _ _ _ _ _ _ _ _ (part_end fo_33 hHeld.1 (mem_app hm_25 hm_32))
      · skip
        go_simp
        have al_34 : Below W_24.heap.size W_24 (W_24.alloc (.cells (ruFr r mid).C 42)) := Below.alloc (Below.refl _ _) (Nat.le_refl _) _
        have gl_34 : W_24.heap.size < (W_24.alloc (.cells (ruFr r mid).C 42)).heap.size := (Blk.new W_24 42 (ruFr r mid).C).lt
        have fyA_34 := fyA_24.below al_34 fyA_24.lt
        have fo_34 := own_below fo_24 al_34
        have fyB_34 := Blk.new W_24 42 (ruFr r mid).C
        have HS_34 := sk13 (hHeld.1.trans (al_34.mono hHeld.1.size)) (hHeld.2.1.below al_34 hHeld.2.1.lt) (hHeld.2.2.1.below al_34 hHeld.2.2.1.lt)
        generalize W_24.alloc (.cells (ruFr r mid).C 42) = W_34 at *
        obtain ⟨g_34, hg_34⟩ : ∃ g, W_24.heap.size = g := ⟨_, rfl⟩
        rw [hg_34] at fyB_34 gl_34 ⊢
        clear al_34 hg_34
        refine hK.out _ _ (HS_34) (fun hHeld2 => ?_)
        clear hK K hHeld; have hHeld := hHeld2; clear hHeld2
        try simp only [Act.put, List.setIfInBounds_toArray, List.set_cons_zero, List.set_cons_succ]
        refine wpAnyH_ready (rs := [4]) (by kernel_rfl) (by simp) ?_
        refine AllReadyH.cons (o := { dst := some 90, op := Op.call { callee := Callee.value (Operand.func 10), args := #[Operand.tmp 88, Operand.tmp 89], argTypes := #[22, 3] }, type := 46, pos := "top08.go:67", after := #[{ on := 2, ground := Ground.data }, { on := 3, ground := Ground.data }], guard := none }) rfl (fun K hK => ?_) (AllReadyH.nil)
        go_simp
        refine (YA.out _ _ hHeld.1 fyA_34).mono ?_; rintro e_35 w_35 ⟨gr_35, R_35, rfl, hs_35, hb_35, hge_35, hm_35⟩
        try go_wp2_with fail
        have fo_35 := own_below fo_34 hb_35
        have fyB_35 := fyB_34.below hb_35 fyB_34.lt
        have HS_35 := sk13 (hHeld.1.trans (hb_35.mono hHeld.1.size)) (hHeld.2.1.below hb_35 hHeld.2.1.lt) (hHeld.2.2.1.below hb_35 hHeld.2.2.1.lt)
        clear hb_35
        refine hK.out _ _ (HS_35) (fun hHeld2 => ?_)
        clear hK K hHeld; have hHeld := hHeld2; clear hHeld2
        try simp only [Act.put, List.setIfInBounds_toArray, List.set_cons_zero, List.set_cons_succ]
        refine wpAnyH_ready (rs := [5]) (by kernel_rfl) (by simp) ?_
        refine AllReadyH.cons (o := { dst := some 91, op := Op.call { callee := Callee.builtin Builtin.append, args := #[Operand.tmp 86, Operand.tmp 90], argTypes := #[46, 46] }, type := 46, pos := "top08.go:67", after := #[{ on := 0, ground := Ground.data }, { on := 4, ground := Ground.data }, { on := 4, ground := Ground.chain }], guard := none }) rfl (fun K hK => ?_) (AllReadyH.nil)
        rw [if_pos (by rfl)]
        refine wp_append_any _ (.tmp 86) (.tmp 90) 46 rfl W5.heap.size 49 i0 _ 5 48 Tryd.underlying46 HI.out hz0 hz1 hz2 rfl (by decide) _ 0 _ rfl fo_35 _ _ na na _ rfl hs_35.r (flat_cells (oc_one [r]) _) (by unfold maxLen; omega) (by omega) hHeld.1.size ?_
        intro v_36 W_36 fo_36 hg_36 hat_36
        have fyB_36 := fyB_35.grown hg_36 (fun e => own_blk_ne fo_35 fyB_35 (by decide) e.symm)
        have HS_36 := sk13 (hHeld.1.grown hg_36 hHeld.1.size (fun g e => (own_ge fo_35 g e).1)) (hHeld.2.1.grown hg_36 (fun e => own_blk_ne fo_35 hHeld.2.1 (by decide) e.symm)) (hHeld.2.2.1.grown hg_36 (fun e => own_blk_ne fo_35 hHeld.2.2.1 (by decide) e.symm))
        clear hg_36 hat_36
        refine hK.out _ _ (HS_36) (fun hHeld2 => ?_)
        clear hK K hHeld; have hHeld := hHeld2; clear hHeld2
        try simp only [Act.put, List.setIfInBounds_toArray, List.set_cons_zero, List.set_cons_succ]
        refine wpAnyH_ready (rs := [9]) (by kernel_rfl) (by simp) ?_
        refine AllReadyH.cons (o := { dst := some 95, op := Op.call { callee := Callee.value (Operand.func 10), args := #[Operand.tmp 93, Operand.tmp 94], argTypes := #[22, 3] }, type := 46, pos := "top08.go:67", after := #[{ on := 7, ground := Ground.data }, { on := 8, ground := Ground.data }, { on := 5, ground := Ground.chain }], guard := none }) rfl (fun K hK => ?_) (AllReadyH.nil)
        go_simp
        refine (YB.out _ _ hHeld.1 fyB_36).mono ?_; rintro e_37 w_37 ⟨gr_37, R_37, rfl, hs_37, hb_37, hge_37, hm_37⟩
        try go_wp2_with fail
        have fo_37 := own_below fo_36 hb_37
        have HS_37 := sk13 (hHeld.1.trans (hb_37.mono hHeld.1.size)) (hHeld.2.1.below hb_37 hHeld.2.1.lt) (hHeld.2.2.1.below hb_37 hHeld.2.2.1.lt)
        clear hb_37
        refine hK.out _ _ (HS_37) (fun hHeld2 => ?_)
        clear hK K hHeld; have hHeld := hHeld2; clear hHeld2
        try simp only [Act.put, List.setIfInBounds_toArray, List.set_cons_zero, List.set_cons_succ]
        refine wpAnyH_ready (rs := [10]) (by kernel_rfl) (by simp) ?_
        refine AllReadyH.cons (o := { dst := some 96, op := Op.call { callee := Callee.builtin Builtin.append, args := #[Operand.tmp 91, Operand.tmp 95], argTypes := #[46, 46] }, type := 46, pos := "top08.go:67", after := #[{ on := 5, ground := Ground.data }, { on := 9, ground := Ground.data }, { on := 9, ground := Ground.chain }], guard := none }) rfl (fun K hK => ?_) (AllReadyH.nil)
        rw [if_pos (by rfl)]
        refine wp_append_any _ (.tmp 91) (.tmp 95) 46 rfl W5.heap.size 49 i0 _ 5 48 Tryd.underlying46 HI.out hz0 hz1 hz2 rfl (by decide) _ (0 + na) _ rfl fo_37 _ _ nb nb _ rfl hs_37.r (flat_cells (oc_one [r]) _) (by unfold maxLen; omega) (by omega) hHeld.1.size ?_
        intro v_38 W_38 fo_38 hg_38 hat_38
        have HS_38 := sk13 (hHeld.1.grown hg_38 hHeld.1.size (fun g e => (own_ge fo_37 g e).1)) (hHeld.2.1.grown hg_38 (fun e => own_blk_ne fo_37 hHeld.2.1 (by decide) e.symm)) (hHeld.2.2.1.grown hg_38 (fun e => own_blk_ne fo_37 hHeld.2.2.1 (by decide) e.symm))
        rw [List.nil_append, ← flat_append, Nat.zero_add] at fo_38
        clear hg_38 hat_38
        refine hK.out _ _ (HS_38) (fun hHeld2 => ?_)
        clear hK K hHeld; have hHeld := hHeld2; clear hHeld2
        try simp only [Act.put, List.setIfInBounds_toArray, List.set_cons_zero, List.set_cons_succ]
        refine wpAnyH_take (i := 11) (oi := { dst := some 16, op := Op.assign (Operand.tmp 96), type := 46, pos := "top08.go:67", after := #[{ on := 10, ground := Ground.data }, { on := 10, ground := Ground.chain }, { on := 0, ground := Ground.phase }, { on := 1, ground := Ground.phase }, { on := 2, ground := Ground.phase }, { on := 3, ground := Ground.phase }, { on := 4, ground := Ground.phase }, { on := 5, ground := Ground.phase }, { on := 6, ground := Ground.phase }, { on := 7, ground := Ground.phase }, { on := 8, ground := Ground.phase }, { on := 9, ground := Ground.phase }, { on := 10, ground := Ground.phase }], guard := none }) (v := ?_) rfl (by kernel_rfl) (by kernel_rfl) (by kernel_rfl) (fun _ _ _ h => hQ _ _ _ _ _ h) (Or.inl ⟨by rfl, ?_⟩) hHeld ?_
        rotate_left
        · intro w hSw
          try dsimp only at hSw
          go_simp
          try with_reducible rfl
        try simp only [Act.put, List.setIfInBounds_toArray, List.set_cons_zero, List.set_cons_succ]
        refine wpAnyH_done (by kernel_rfl) ?_ _
        go_wp2_with fail
        exact HK_.out _ _ _ _ _ _ _ _ _ _ _ _ _ (part_end fo_38 hHeld.1 (mem_app hm_35 hm_37))
    · skip
      go_simp
      refine (YA.out _ _ hHeld.1 fyA_23).mono ?_; rintro e_39 w_39 ⟨gr_39, R_39, rfl, hs_39, hb_39, hge_39, hm_39⟩
      try go_wp2_with fail
      have HS_39 := sk13 (hHeld.1.trans (hb_39.mono hHeld.1.size)) (hHeld.2.1.below hb_39 hHeld.2.1.lt) (hHeld.2.2.1.below hb_39 hHeld.2.2.1.lt)
      clear hb_39
      refine hK.out _ _ (HS_39) (fun hHeld2 => ?_)
      clear hK K hHeld; have hHeld := hHeld2; clear hHeld2
      try simp only [Act.put, List.setIfInBounds_toArray, List.set_cons_zero, List.set_cons_succ]
      refine wpAnyH_ready (rs := [0, 7]) (by kernel_rfl) (by simp) ?_
      refine AllReadyH.cons (o := { dst := some 86, op := Op.buildSlice 46 0 #[], type := 46, pos := "top08.go:67", after := #[], guard := none }) rfl (fun K hK => ?_) (AllReadyH.cons (o := { dst := some 93, op := Op.buildSlice 22 1 #[(0, Operand.tmp 92)], type := 22, pos := "top08.go:67", after := #[{ on := 6, ground := Ground.data }], guard := none }) rfl (fun K hK => ?_) (AllReadyH.nil))
      · skip
        go_simp
        have al_40 : Below w_39.heap.size w_39 (w_39.alloc (.cells (#[] : Array Value) 49)) := Below.alloc (Below.refl _ _) (Nat.le_refl _) _
        have gl_40 : w_39.heap.size < (w_39.alloc (.cells (#[] : Array Value) 49)).heap.size := (Blk.new w_39 49 (#[] : Array Value)).lt
        have fsA_40 := (hs_39.below al_40).more al_40.size
        have fo_40 := own_none (base := W5.heap.size) w_39 hHeld.1.size
        have HS_40 := sk13 (hHeld.1.trans (al_40.mono hHeld.1.size)) (hHeld.2.1.below al_40 hHeld.2.1.lt) (hHeld.2.2.1.below al_40 hHeld.2.2.1.lt)
        generalize w_39.alloc (.cells (#[] : Array Value) 49) = W_40 at *
        obtain ⟨g_40, hg_40⟩ : ∃ g, w_39.heap.size = g := ⟨_, rfl⟩
        rw [hg_40] at fo_40 gl_40 ⊢
        clear al_40 hg_40
        refine hK.out _ _ (HS_40) (fun hHeld2 => ?_)
        clear hK K hHeld; have hHeld := hHeld2; clear hHeld2
        try simp only [Act.put, List.setIfInBounds_toArray, List.set_cons_zero, List.set_cons_succ]
        refine wpAnyH_ready (rs := [5, 7]) (by kernel_rfl) (by simp) ?_
        refine AllReadyH.cons (o := { dst := some 91, op := Op.call { callee := Callee.builtin Builtin.append, args := #[Operand.tmp 86, Operand.tmp 90], argTypes := #[46, 46] }, type := 46, pos := "top08.go:67", after := #[{ on := 0, ground := Ground.data }, { on := 4, ground := Ground.data }, { on := 4, ground := Ground.chain }], guard := none }) rfl (fun K hK => ?_) (AllReadyH.cons (o := { dst := some 93, op := Op.buildSlice 22 1 #[(0, Operand.tmp 92)], type := 22, pos := "top08.go:67", after := #[{ on := 6, ground := Ground.data }], guard := none }) rfl (fun K hK => ?_) (AllReadyH.nil))
        · skip
          rw [if_pos (by rfl)]
          refine wp_append_any _ (.tmp 86) (.tmp 90) 46 rfl W5.heap.size 49 i0 _ 5 48 Tryd.underlying46 HI.out hz0 hz1 hz2 rfl (by decide) _ 0 _ rfl fo_40 _ _ na na _ rfl fsA_40.r (flat_cells (oc_one [r]) _) (by unfold maxLen; omega) (by omega) hHeld.1.size ?_
          intro v_41 W_41 fo_41 hg_41 hat_41
          have HS_41 := sk13 (hHeld.1.grown hg_41 hHeld.1.size (fun g e => (own_ge fo_40 g e).1)) (hHeld.2.1.grown hg_41 (fun e => own_blk_ne fo_40 hHeld.2.1 (by decide) e.symm)) (hHeld.2.2.1.grown hg_41 (fun e => own_blk_ne fo_40 hHeld.2.2.1 (by decide) e.symm))
          clear hg_41 hat_41
          refine hK.out _ _ (HS_41) (fun hHeld2 => ?_)
          clear hK K hHeld; have hHeld := hHeld2; clear hHeld2
          try simp only [Act.put, List.setIfInBounds_toArray, List.set_cons_zero, List.set_cons_succ]
          refine wpAnyH_ready (rs := [7]) (by kernel_rfl) (by simp) ?_
          refine AllReadyH.cons (o := { dst := some 93, op := Op.buildSlice 22 1 #[(0, Operand.tmp 92)], type := 22, pos := "top08.go:67", after := #[{ on := 6, ground := Ground.data }], guard := none }) rfl (fun K hK => ?_) (AllReadyH.nil)
          go_simp
          have al_42 : Below W_41.heap.size W_41 (W_41.alloc (.cells (ruFr r mid).C 42)) := Below.alloc (Below.refl _ _) (Nat.le_refl _) _
          have gl_42 : W_41.heap.size < (W_41.alloc (.cells (ruFr r mid).C 42)).heap.size := (Blk.new W_41 42 (ruFr r mid).C).lt
          have fo_42 := own_below fo_41 al_42
          have fyB_42 := Blk.new W_41 42 (ruFr r mid).C
          have HS_42 := sk13 (hHeld.1.trans (al_42.mono hHeld.1.size)) (hHeld.2.1.below al_42 hHeld.2.1.lt) (hHeld.2.2.1.below al_42 hHeld.2.2.1.lt)
          generalize W_41.alloc (.cells (ruFr r mid).C 42) = W_42 at *
          obtain ⟨g_42, hg_42⟩ : ∃ g, W_41.heap.size = g := ⟨_, rfl⟩
          rw [hg_42] at fyB_42 gl_42 ⊢
          clear al_42 hg_42
          refine hK.out _ _ (HS_42) (fun hHeld2 => ?_)
          clear hK K hHeld; have hHeld := hHeld2; clear hHeld2
          try simp only [Act.put, List.setIfInBounds_toArray, List.set_cons_zero, List.set_cons_succ]
          refine wpAnyH_ready (rs := [9]) (by kernel_rfl) (by simp) ?_
          refine AllReadyH.cons (o := { dst := some 95, op := Op.call { callee := Callee.value (Operand.func 10), args := #[Operand.tmp 93, Operand.tmp 94], argTypes := #[22, 3] }, type := 46, pos := "top08.go:67", after := #[{ on := 7, ground := Ground.data }, { on := 8, ground := Ground.data }, { on := 5, ground := Ground.chain }], guard := none }) rfl (fun K hK => ?_) (AllReadyH.nil)
          go_simp
          refine (YB.out _ _ hHeld.1 fyB_42).mono ?_; rintro e_43 w_43 ⟨gr_43, R_43, rfl, hs_43, hb_43, hge_43, hm_43⟩
          try go_wp2_with fail
          have fo_43 := own_below fo_42 hb_43
          have HS_43 := sk13 (hHeld.1.trans (hb_43.mono hHeld.1.size)) (hHeld.2.1.below hb_43 hHeld.2.1.lt) (hHeld.2.2.1.below hb_43 hHeld.2.2.1.lt)
          clear hb_43
          refine hK.out _ _ (HS_43) (fun hHeld2 => ?_)
          clear hK K hHeld; have hHeld := hHeld2; clear hHeld2
          try simp only [Act.put, List.setIfInBounds_toArray, List.set_cons_zero, List.set_cons_succ]
          refine wpAnyH_ready (rs := [10]) (by kernel_rfl) (by simp) ?_
          refine AllReadyH.cons (o := { dst := some 96, op := Op.call { callee := Callee.builtin Builtin.append, args := #[Operand.tmp 91, Operand.tmp 95], argTypes := #[46, 46] }, type := 46, pos := "top08.go:67", after := #[{ on := 5, ground := Ground.data }, { on := 9, ground := Ground.data }, { on := 9, ground := Ground.chain }], guard := none }) rfl (fun K hK => ?_) (AllReadyH.nil)
          rw [if_pos (by rfl)]
          refine wp_append_any _ (.tmp 91) (.tmp 95) 46 rfl W5.heap.size 49 i0 _ 5 48 Tryd.underlying46 HI.out hz0 hz1 hz2 rfl (by decide) _ (0 + na) _ rfl fo_43 _ _ nb nb _ rfl hs_43.r (flat_cells (oc_one [r]) _) (by unfold maxLen; omega) (by omega) hHeld.1.size ?_
          intro v_44 W_44 fo_44 hg_44 hat_44
          have HS_44 := sk13 (hHeld.1.grown hg_44 hHeld.1.size (fun g e => (own_ge fo_43 g e).1)) (hHeld.2.1.grown hg_44 (fun e => own_blk_ne fo_43 hHeld.2.1 (by decide) e.symm)) (hHeld.2.2.1.grown hg_44 (fun e => own_blk_ne fo_43 hHeld.2.2.1 (by decide) e.symm))
          rw [List.nil_append, ← flat_append, Nat.zero_add] at fo_44
          clear hg_44 hat_44
          refine hK.out _ _ (HS_44) (fun hHeld2 => ?_)
          clear hK K hHeld; have hHeld := hHeld2; clear hHeld2
          try simp only [Act.put, List.setIfInBounds_toArray, List.set_cons_zero, List.set_cons_succ]
          refine wpAnyH_take (i := 11) (oi := { dst := some 16, op := Op.assign (Operand.tmp 96), type := 46, pos := "top08.go:67", after := #[{ on := 10, ground := Ground.data }, { on := 10, ground := Ground.chain }, { on := 0, ground := Ground.phase }, { on := 1, ground := Ground.phase }, { on := 2, ground := Ground.phase }, { on := 3, ground := Ground.phase }, { on := 4, ground := Ground.phase }, { on := 5, ground := Ground.phase }, { on := 6, ground := Ground.phase }, { on := 7, ground := Ground.phase }, { on := 8, ground := Ground.phase }, { on := 9, ground := Ground.phase }, { on := 10, ground := Ground.phase }], guard := none }) (v := ?_) rfl (by kernel_rfl) (by kernel_rfl) (by kernel_rfl) (fun _ _ _ h => hQ _ _ _ _ _ h) (Or.inl ⟨by rfl, ?_⟩) hHeld ?_
          rotate_left
          · intro w hSw
            try dsimp only at hSw
            go_simp
            try with_reducible rfl
          try simp only [Act.put, List.setIfInBounds_toArray, List.set_cons_zero, List.set_cons_succ]
          refine wpAnyH_done (by kernel_rfl) ?_ _
          go_wp2_with fail
          exact HK_.out _ _ _ _ _ _ _ _ _ _ _ _ _ (part_end fo_44 hHeld.1 (mem_app hm_39 hm_43))
        · skip
          go_simp
          have al_45 : Below W_40.heap.size W_40 (W_40.alloc (.cells (ruFr r mid).C 42)) := Below.alloc (Below.refl _ _) (Nat.le_refl _) _
          have gl_45 : W_40.heap.size < (W_40.alloc (.cells (ruFr r mid).C 42)).heap.size := (Blk.new W_40 42 (ruFr r mid).C).lt
          have fsA_45 := (fsA_40.below al_45).more al_45.size
          have fo_45 := own_below fo_40 al_45
          have fyB_45 := Blk.new W_40 42 (ruFr r mid).C
          have HS_45 := sk13 (hHeld.1.trans (al_45.mono hHeld.1.size)) (hHeld.2.1.below al_45 hHeld.2.1.lt) (hHeld.2.2.1.below al_45 hHeld.2.2.1.lt)
          generalize W_40.alloc (.cells (ruFr r mid).C 42) = W_45 at *
          obtain ⟨g_45, hg_45⟩ : ∃ g, W_40.heap.size = g := ⟨_, rfl⟩
          rw [hg_45] at fyB_45 gl_45 ⊢
          clear al_45 hg_45
          refine hK.out _ _ (HS_45) (fun hHeld2 => ?_)
          clear hK K hHeld; have hHeld := hHeld2; clear hHeld2
          try simp only [Act.put, List.setIfInBounds_toArray, List.set_cons_zero, List.set_cons_succ]
          refine wpAnyH_ready (rs := [5]) (by kernel_rfl) (by simp) ?_
          refine AllReadyH.cons (o := { dst := some 91, op := Op.call { callee := Callee.builtin Builtin.append, args := #[Operand.tmp 86, Operand.tmp 90], argTypes := #[46, 46] }, type := 46, pos := "top08.go:67", after := #[{ on := 0, ground := Ground.data }, { on := 4, ground := Ground.data }, { on := 4, ground := Ground.chain }], guard := none }) rfl (fun K hK => ?_) (AllReadyH.nil)
          rw [if_pos (by rfl)]
          refine wp_append_any _ (.tmp 86) (.tmp 90) 46 rfl W5.heap.size 49 i0 _ 5 48 Tryd.underlying46 HI.out hz0 hz1 hz2 rfl (by decide) _ 0 _ rfl fo_45 _ _ na na _ rfl fsA_45.r (flat_cells (oc_one [r]) _) (by unfold maxLen; omega) (by omega) hHeld.1.size ?_
          intro v_46 W_46 fo_46 hg_46 hat_46
          have fyB_46 := fyB_45.grown hg_46 (fun e => own_blk_ne fo_45 fyB_45 (by decide) e.symm)
          have HS_46 := sk13 (hHeld.1.grown hg_46 hHeld.1.size (fun g e => (own_ge fo_45 g e).1)) (hHeld.2.1.grown hg_46 (fun e => own_blk_ne fo_45 hHeld.2.1 (by decide) e.symm)) (hHeld.2.2.1.grown hg_46 (fun e => own_blk_ne fo_45 hHeld.2.2.1 (by decide) e.symm))
          clear hg_46 hat_46
          refine hK.out _ _ (HS_46) (fun hHeld2 => ?_)
          clear hK K hHeld; have hHeld := hHeld2; clear hHeld2
          try simp only [Act.put, List.setIfInBounds_toArray, List.set_cons_zero, List.set_cons_succ]
          refine wpAnyH_ready (rs := [9]) (by kernel_rfl) (by simp) ?_
          refine AllReadyH.cons (o := { dst := some 95, op := Op.call { callee := Callee.value (Operand.func 10), args := #[Operand.tmp 93, Operand.tmp 94], argTypes := #[22, 3] }, type := 46, pos := "top08.go:67", after := #[{ on := 7, ground := Ground.data }, { on := 8, ground := Ground.data }, { on := 5, ground := Ground.chain }], guard := none }) rfl (fun K hK => ?_) (AllReadyH.nil)
          go_simp
          refine (YB.out _ _ hHeld.1 fyB_46).mono ?_; rintro e_47 w_47 ⟨gr_47, R_47, rfl, hs_47, hb_47, hge_47, hm_47⟩
          try go_wp2_with fail
          have fo_47 := own_below fo_46 hb_47
          have HS_47 := sk13 (hHeld.1.trans (hb_47.mono hHeld.1.size)) (hHeld.2.1.below hb_47 hHeld.2.1.lt) (hHeld.2.2.1.below hb_47 hHeld.2.2.1.lt)
          clear hb_47
          refine hK.out _ _ (HS_47) (fun hHeld2 => ?_)
          clear hK K hHeld; have hHeld := hHeld2; clear hHeld2
          try simp only [Act.put, List.setIfInBounds_toArray, List.set_cons_zero, List.set_cons_succ]
          refine wpAnyH_ready (rs := [10]) (by kernel_rfl) (by simp) ?_
          refine AllReadyH.cons (o := { dst := some 96, op := Op.call { callee := Callee.builtin Builtin.append, args := #[Operand.tmp 91, Operand.tmp 95], argTypes := #[46, 46] }, type := 46, pos := "top08.go:67", after := #[{ on := 5, ground := Ground.data }, { on := 9, ground := Ground.data }, { on := 9, ground := Ground.chain }], guard := none }) rfl (fun K hK => ?_) (AllReadyH.nil)
          rw [if_pos (by rfl)]
          refine wp_append_any _ (.tmp 91) (.tmp 95) 46 rfl W5.heap.size 49 i0 _ 5 48 Tryd.underlying46 HI.out hz0 hz1 hz2 rfl (by decide) _ (0 + na) _ rfl fo_47 _ _ nb nb _ rfl hs_47.r (flat_cells (oc_one [r]) _) (by unfold maxLen; omega) (by omega) hHeld.1.size ?_
          intro v_48 W_48 fo_48 hg_48 hat_48
          have HS_48 := sk13 (hHeld.1.grown hg_48 hHeld.1.size (fun g e => (own_ge fo_47 g e).1)) (hHeld.2.1.grown hg_48 (fun e => own_blk_ne fo_47 hHeld.2.1 (by decide) e.symm)) (hHeld.2.2.1.grown hg_48 (fun e => own_blk_ne fo_47 hHeld.2.2.1 (by decide) e.symm))
          rw [List.nil_append, ← flat_append, Nat.zero_add] at fo_48
          clear hg_48 hat_48
          refine hK.out _ _ (HS_48) (fun hHeld2 => ?_)
          clear hK K hHeld; have hHeld := hHeld2; clear hHeld2
          try simp only [Act.put, List.setIfInBounds_toArray, List.set_cons_zero, List.set_cons_succ]
          refine wpAnyH_take (i := 11) (oi := { dst := some 16, op := Op.assign (Operand.tmp 96), type := 46, pos := "top08.go:67", after := #[{ on := 10, ground := Ground.data }, { on := 10, ground := Ground.chain }, { on := 0, ground := Ground.phase }, { on := 1, ground := Ground.phase }, { on := 2, ground := Ground.phase }, { on := 3, ground := Ground.phase }, { on := 4, ground := Ground.phase }, { on := 5, ground := Ground.phase }, { on := 6, ground := Ground.phase }, { on := 7, ground := Ground.phase }, { on := 8, ground := Ground.phase }, { on := 9, ground := Ground.phase }, { on := 10, ground := Ground.phase }], guard := none }) (v := ?_) rfl (by kernel_rfl) (by kernel_rfl) (by kernel_rfl) (fun _ _ _ h => hQ _ _ _ _ _ h) (Or.inl ⟨by rfl, ?_⟩) hHeld ?_
          rotate_left
          · intro w hSw
            try dsimp only at hSw
            go_simp
            try with_reducible rfl
          try simp only [Act.put, List.setIfInBounds_toArray, List.set_cons_zero, List.set_cons_succ]
          refine wpAnyH_done (by kernel_rfl) ?_ _
          go_wp2_with fail
          exact HK_.out _ _ _ _ _ _ _ _ _ _ _ _ _ (part_end fo_48 hHeld.1 (mem_app hm_39 hm_47))
      · skip
        go_simp
        have al_49 : Below w_39.heap.size w_39 (w_39.alloc (.cells (ruFr r mid).C 42)) := Below.alloc (Below.refl _ _) (Nat.le_refl _) _
        have gl_49 : w_39.heap.size < (w_39.alloc (.cells (ruFr r mid).C 42)).heap.size := (Blk.new w_39 42 (ruFr r mid).C).lt
        have fsA_49 := (hs_39.below al_49).more al_49.size
        have fyB_49 := Blk.new w_39 42 (ruFr r mid).C
        have HS_49 := sk13 (hHeld.1.trans (al_49.mono hHeld.1.size)) (hHeld.2.1.below al_49 hHeld.2.1.lt) (hHeld.2.2.1.below al_49 hHeld.2.2.1.lt)
        generalize w_39.alloc (.cells (ruFr r mid).C 42) = W_49 at *
        obtain ⟨g_49, hg_49⟩ : ∃ g, w_39.heap.size = g := ⟨_, rfl⟩
        rw [hg_49] at fyB_49 gl_49 ⊢
        clear al_49 hg_49
        refine hK.out _ _ (HS_49) (fun hHeld2 => ?_)
        clear hK K hHeld; have hHeld := hHeld2; clear hHeld2
        try simp only [Act.put, List.setIfInBounds_toArray, List.set_cons_zero, List.set_cons_succ]
        refine wpAnyH_ready (rs := [0]) (by kernel_rfl) (by simp) ?_
        refine AllReadyH.cons (o := { dst := some 86, op := Op.buildSlice 46 0 #[], type := 46, pos := "top08.go:67", after := #[], guard := none }) rfl (fun K hK => ?_) (AllReadyH.nil)
        go_simp
        have al_50 : Below W_49.heap.size W_49 (W_49.alloc (.cells (#[] : Array Value) 49)) := Below.alloc (Below.refl _ _) (Nat.le_refl _) _
        have gl_50 : W_49.heap.size < (W_49.alloc (.cells (#[] : Array Value) 49)).heap.size := (Blk.new W_49 49 (#[] : Array Value)).lt
        have fsA_50 := (fsA_49.below al_50).more al_50.size
        have fyB_50 := fyB_49.below al_50 fyB_49.lt
        have fo_50 := own_none (base := W5.heap.size) W_49 hHeld.1.size
        have HS_50 := sk13 (hHeld.1.trans (al_50.mono hHeld.1.size)) (hHeld.2.1.below al_50 hHeld.2.1.lt) (hHeld.2.2.1.below al_50 hHeld.2.2.1.lt)
        generalize W_49.alloc (.cells (#[] : Array Value) 49) = W_50 at *
        obtain ⟨g_50, hg_50⟩ : ∃ g, W_49.heap.size = g := ⟨_, rfl⟩
        rw [hg_50] at fo_50 gl_50 ⊢
        clear al_50 hg_50
        refine hK.out _ _ (HS_50) (fun hHeld2 => ?_)
        clear hK K hHeld; have hHeld := hHeld2; clear hHeld2
        try simp only [Act.put, List.setIfInBounds_toArray, List.set_cons_zero, List.set_cons_succ]
        refine wpAnyH_ready (rs := [5]) (by kernel_rfl) (by simp) ?_
        refine AllReadyH.cons (o := { dst := some 91, op := Op.call { callee := Callee.builtin Builtin.append, args := #[Operand.tmp 86, Operand.tmp 90], argTypes := #[46, 46] }, type := 46, pos := "top08.go:67", after := #[{ on := 0, ground := Ground.data }, { on := 4, ground := Ground.data }, { on := 4, ground := Ground.chain }], guard := none }) rfl (fun K hK => ?_) (AllReadyH.nil)
        rw [if_pos (by rfl)]
        refine wp_append_any _ (.tmp 86) (.tmp 90) 46 rfl W5.heap.size 49 i0 _ 5 48 Tryd.underlying46 HI.out hz0 hz1 hz2 rfl (by decide) _ 0 _ rfl fo_50 _ _ na na _ rfl fsA_50.r (flat_cells (oc_one [r]) _) (by unfold maxLen; omega) (by omega) hHeld.1.size ?_
        intro v_51 W_51 fo_51 hg_51 hat_51
        have fyB_51 := fyB_50.grown hg_51 (fun e => own_blk_ne fo_50 fyB_50 (by decide) e.symm)
        have HS_51 := sk13 (hHeld.1.grown hg_51 hHeld.1.size (fun g e => (own_ge fo_50 g e).1)) (hHeld.2.1.grown hg_51 (fun e => own_blk_ne fo_50 hHeld.2.1 (by decide) e.symm)) (hHeld.2.2.1.grown hg_51 (fun e => own_blk_ne fo_50 hHeld.2.2.1 (by decide) e.symm))
        clear hg_51 hat_51
        refine hK.out _ _ (HS_51) (fun hHeld2 => ?_)
        clear hK K hHeld; have hHeld := hHeld2; clear hHeld2
        try simp only [Act.put, List.setIfInBounds_toArray, List.set_cons_zero, List.set_cons_succ]
        refine wpAnyH_ready (rs := [9]) (by kernel_rfl) (by simp) ?_
        refine AllReadyH.cons (o := { dst := some 95, op := Op.call { callee := Callee.value (Operand.func 10), args := #[Operand.tmp 93, Operand.tmp 94], argTypes := #[22, 3] }, type := 46, pos := "top08.go:67", after := #[{ on := 7, ground := Ground.data }, { on := 8, ground := Ground.data }, { on := 5, ground := Ground.chain }], guard := none }) rfl (fun K hK => ?_) (AllReadyH.nil)
        go_simp
        refine (YB.out _ _ hHeld.1 fyB_51).mono ?_; rintro e_52 w_52 ⟨gr_52, R_52, rfl, hs_52, hb_52, hge_52, hm_52⟩
        try go_wp2_with fail
        have fo_52 := own_below fo_51 hb_52
        have HS_52 := sk13 (hHeld.1.trans (hb_52.mono hHeld.1.size)) (hHeld.2.1.below hb_52 hHeld.2.1.lt) (hHeld.2.2.1.below hb_52 hHeld.2.2.1.lt)
        clear hb_52
        refine hK.out _ _ (HS_52) (fun hHeld2 => ?_)
        clear hK K hHeld; have hHeld := hHeld2; clear hHeld2
        try simp only [Act.put, List.setIfInBounds_toArray, List.set_cons_zero, List.set_cons_succ]
        refine wpAnyH_ready (rs := [10]) (by kernel_rfl) (by simp) ?_
        refine AllReadyH.cons (o := { dst := some 96, op := Op.call { callee := Callee.builtin Builtin.append, args := #[Operand.tmp 91, Operand.tmp 95], argTypes := #[46, 46] }, type := 46, pos := "top08.go:67", after := #[{ on := 5, ground := Ground.data }, { on := 9, ground := Ground.data }, { on := 9, ground := Ground.chain }], guard := none }) rfl (fun K hK => ?_) (AllReadyH.nil)
        rw [if_pos (by rfl)]
        refine wp_append_any _ (.tmp 91) (.tmp 95) 46 rfl W5.heap.size 49 i0 _ 5 48 Tryd.underlying46 HI.out hz0 hz1 hz2 rfl (by decide) _ (0 + na) _ rfl fo_52 _ _ nb nb _ rfl hs_52.r (flat_cells (oc_one [r]) _) (by unfold maxLen; omega) (by omega) hHeld.1.size ?_
        intro v_53 W_53 fo_53 hg_53 hat_53
        have HS_53 := sk13 (hHeld.1.grown hg_53 hHeld.1.size (fun g e => (own_ge fo_52 g e).1)) (hHeld.2.1.grown hg_53 (fun e => own_blk_ne fo_52 hHeld.2.1 (by decide) e.symm)) (hHeld.2.2.1.grown hg_53 (fun e => own_blk_ne fo_52 hHeld.2.2.1 (by decide) e.symm))
        rw [List.nil_append, ← flat_append, Nat.zero_add] at fo_53
        clear hg_53 hat_53
        refine hK.out _ _ (HS_53) (fun hHeld2 => ?_)
        clear hK K hHeld; have hHeld := hHeld2; clear hHeld2
        try simp only [Act.put, List.setIfInBounds_toArray, List.set_cons_zero, List.set_cons_succ]
        refine wpAnyH_take (i := 11) (oi := { dst := some 16, op := Op.assign (Operand.tmp 96), type := 46, pos := "top08.go:67", after := #[{ on := 10, ground := Ground.data }, { on := 10, ground := Ground.chain }, { on := 0, ground := Ground.phase }, { on := 1, ground := Ground.phase }, { on := 2, ground := Ground.phase }, { on := 3, ground := Ground.phase }, { on := 4, ground := Ground.phase }, { on := 5, ground := Ground.phase }, { on := 6, ground := Ground.phase }, { on := 7, ground := Ground.phase }, { on := 8, ground := Ground.phase }, { on := 9, ground := Ground.phase }, { on := 10, ground := Ground.phase }], guard := none }) (v := ?_) rfl (by kernel_rfl) (by kernel_rfl) (by kernel_rfl) (fun _ _ _ h => hQ _ _ _ _ _ h) (Or.inl ⟨by rfl, ?_⟩) hHeld ?_
        rotate_left
        · intro w hSw
          try dsimp only at hSw
          go_simp
          try with_reducible rfl
        try simp only [Act.put, List.setIfInBounds_toArray, List.set_cons_zero, List.set_cons_succ]
        refine wpAnyH_done (by kernel_rfl) ?_ _
        go_wp2_with fail
        exact HK_.out _ _ _ _ _ _ _ _ _ _ _ _ _ (part_end fo_53 hHeld.1 (mem_app hm_39 hm_52))
    · skip
      go_simp
      have al_54 : Below W_23.heap.size W_23 (W_23.alloc (.cells (ruFr r mid).C 42)) := Below.alloc (Below.refl _ _) (Nat.le_refl _) _
      have gl_54 : W_23.heap.size < (W_23.alloc (.cells (ruFr r mid).C 42)).heap.size := (Blk.new W_23 42 (ruFr r mid).C).lt
      have fyA_54 := fyA_23.below al_54 fyA_23.lt
      have fyB_54 := Blk.new W_23 42 (ruFr r mid).C
      have HS_54 := sk13 (hHeld.1.trans (al_54.mono hHeld.1.size)) (hHeld.2.1.below al_54 hHeld.2.1.lt) (hHeld.2.2.1.below al_54 hHeld.2.2.1.lt)
      generalize W_23.alloc (.cells (ruFr r mid).C 42) = W_54 at *
      obtain ⟨g_54, hg_54⟩ : ∃ g, W_23.heap.size = g := ⟨_, rfl⟩
      rw [hg_54] at fyB_54 gl_54 ⊢
      clear al_54 hg_54
      refine hK.out _ _ (HS_54) (fun hHeld2 => ?_)
      clear hK K hHeld; have hHeld := hHeld2; clear hHeld2
      try simp only [Act.put, List.setIfInBounds_toArray, List.set_cons_zero, List.set_cons_succ]
      refine wpAnyH_ready (rs := [0, 4]) (by kernel_rfl) (by simp) ?_
      refine AllReadyH.cons (o := { dst := some 86, op := Op.buildSlice 46 0 #[], type := 46, pos := "top08.go:67", after := #[], guard := none }) rfl (fun K hK => ?_) (AllReadyH.cons (o := { dst := some 90, op := Op.call { callee := Callee.value (Operand.func 10), args := #[Operand.tmp 88, Operand.tmp 89], argTypes := #[22, 3] }, type := 46, pos := "top08.go:67", after := #[{ on := 2, ground := Ground.data }, { on := 3, ground := Ground.data }], guard := none }) rfl (fun K hK => ?_) (AllReadyH.nil))
      · skip
        go_simp
        have al_55 : Below W_54.heap.size W_54 (W_54.alloc (.cells (#[] : Array Value) 49)) := Below.alloc (Below.refl _ _) (Nat.le_refl _) _
        have gl_55 : W_54.heap.size < (W_54.alloc (.cells (#[] : Array Value) 49)).heap.size := (Blk.new W_54 49 (#[] : Array Value)).lt
        have fyA_55 := fyA_54.below al_55 fyA_54.lt
        have fyB_55 := fyB_54.below al_55 fyB_54.lt
        have fo_55 := own_none (base := W5.heap.size) W_54 hHeld.1.size
        have HS_55 := sk13 (hHeld.1.trans (al_55.mono hHeld.1.size)) (hHeld.2.1.below al_55 hHeld.2.1.lt) (hHeld.2.2.1.below al_55 hHeld.2.2.1.lt)
        generalize W_54.alloc (.cells (#[] : Array Value) 49) = W_55 at *
        obtain ⟨g_55, hg_55⟩ : ∃ g, W_54.heap.size = g := ⟨_, rfl⟩
        rw [hg_55] at fo_55 gl_55 ⊢
        clear al_55 hg_55
        refine hK.out _ _ (HS_55) (fun hHeld2 => ?_)
        clear hK K hHeld; have hHeld := hHeld2; clear hHeld2
        try simp only [Act.put, List.setIfInBounds_toArray, List.set_cons_zero, List.set_cons_succ]
        refine wpAnyH_ready (rs := [4]) (by kernel_rfl) (by simp) ?_
        refine AllReadyH.cons (o := { dst := some 90, op := Op.call { callee := Callee.value (Operand.func 10), args := #[Operand.tmp 88, Operand.tmp 89], argTypes := #[22, 3] }, type := 46, pos := "top08.go:67", after := #[{ on := 2, ground := Ground.data }, { on := 3, ground := Ground.data }], guard := none }) rfl (fun K hK => ?_) (AllReadyH.nil)
        go_simp
        refine (YA.out _ _ hHeld.1 fyA_55).mono ?_; rintro e_56 w_56 ⟨gr_56, R_56, rfl, hs_56, hb_56, hge_56, hm_56⟩
        try go_wp2_with fail
        have fyB_56 := fyB_55.below hb_56 fyB_55.lt
        have fo_56 := own_below fo_55 hb_56
        have HS_56 := sk13 (hHeld.1.trans (hb_56.mono hHeld.1.size)) (hHeld.2.1.below hb_56 hHeld.2.1.lt) (hHeld.2.2.1.below hb_56 hHeld.2.2.1.lt)
        clear hb_56
        refine hK.out _ _ (HS_56) (fun hHeld2 => ?_)
        clear hK K hHeld; have hHeld := hHeld2; clear hHeld2
        try simp only [Act.put, List.setIfInBounds_toArray, List.set_cons_zero, List.set_cons_succ]
        refine wpAnyH_ready (rs := [5]) (by kernel_rfl) (by simp) ?_
        refine AllReadyH.cons (o := { dst := some 91, op := Op.call { callee := Callee.builtin Builtin.append, args := #[Operand.tmp 86, Operand.tmp 90], argTypes := #[46, 46] }, type := 46, pos := "top08.go:67", after := #[{ on := 0, ground := Ground.data }, { on := 4, ground := Ground.data }, { on := 4, ground := Ground.chain }], guard := none }) rfl (fun K hK => ?_) (AllReadyH.nil)
        rw [if_pos (by rfl)]
        refine wp_append_any _ (.tmp 86) (.tmp 90) 46 rfl W5.heap.size 49 i0 _ 5 48 Tryd.underlying46 HI.out hz0 hz1 hz2 rfl (by decide) _ 0 _ rfl fo_56 _ _ na na _ rfl hs_56.r (flat_cells (oc_one [r]) _) (by unfold maxLen; omega) (by omega) hHeld.1.size ?_
        intro v_57 W_57 fo_57 hg_57 hat_57
        have fyB_57 := fyB_56.grown hg_57 (fun e => own_blk_ne fo_56 fyB_56 (by decide) e.symm)
        have HS_57 := sk13 (hHeld.1.grown hg_57 hHeld.1.size (fun g e => (own_ge fo_56 g e).1)) (hHeld.2.1.grown hg_57 (fun e => own_blk_ne fo_56 hHeld.2.1 (by decide) e.symm)) (hHeld.2.2.1.grown hg_57 (fun e => own_blk_ne fo_56 hHeld.2.2.1 (by decide) e.symm))
        clear hg_57 hat_57
        refine hK.out _ _ (HS_57) (fun hHeld2 => ?_)
        clear hK K hHeld; have hHeld := hHeld2; clear hHeld2
        try simp only [Act.put, List.setIfInBounds_toArray, List.set_cons_zero, List.set_cons_succ]
        refine wpAnyH_ready (rs := [9]) (by kernel_rfl) (by simp) ?_
        refine AllReadyH.cons (o := { dst := some 95, op := Op.call { callee := Callee.value (Operand.func 10), args := #[Operand.tmp 93, Operand.tmp 94], argTypes := #[22, 3] }, type := 46, pos := "top08.go:67", after := #[{ on := 7, ground := Ground.data }, { on := 8, ground := Ground.data }, { on := 5, ground := Ground.chain }], guard := none }) rfl (fun K hK => ?_) (AllReadyH.nil)
        go_simp
        refine (YB.out _ _ hHeld.1 fyB_57).mono ?_; rintro e_58 w_58 ⟨gr_58, R_58, rfl, hs_58, hb_58, hge_58, hm_58⟩
        try go_wp2_with fail
        have fo_58 := own_below fo_57 hb_58
        have HS_58 := sk13 (hHeld.1.trans (hb_58.mono hHeld.1.size)) (hHeld.2.1.below hb_58 hHeld.2.1.lt) (hHeld.2.2.1.below hb_58 hHeld.2.2.1.lt)
        clear hb_58
        refine hK.out _ _ (HS_58) (fun hHeld2 => ?_)
        clear hK K hHeld; have hHeld := hHeld2; clear hHeld2
        try simp only [Act.put, List.setIfInBounds_toArray, List.set_cons_zero, List.set_cons_succ]
        refine wpAnyH_ready (rs := [10]) (by kernel_rfl) (by simp) ?_
        refine AllReadyH.cons (o := { dst := some 96, op := Op.call { callee := Callee.builtin Builtin.append, args := #[Operand.tmp 91, Operand.tmp 95], argTypes := #[46, 46] }, type := 46, pos := "top08.go:67", after := #[{ on := 5, ground := Ground.data }, { on := 9, ground := Ground.data }, { on := 9, ground := Ground.chain }], guard := none }) rfl (fun K hK => ?_) (AllReadyH.nil)
        rw [if_pos (by rfl)]
        refine wp_append_any _ (.tmp 91) (.tmp 95) 46 rfl W5.heap.size 49 i0 _ 5 48 Tryd.underlying46 HI.out hz0 hz1 hz2 rfl (by decide) _ (0 + na) _ rfl fo_58 _ _ nb nb _ rfl hs_58.r (flat_cells (oc_one [r]) _) (by unfold maxLen; omega) (by omega) hHeld.1.size ?_
        intro v_59 W_59 fo_59 hg_59 hat_59
        have HS_59 := sk13 (hHeld.1.grown hg_59 hHeld.1.size (fun g e => (own_ge fo_58 g e).1)) (hHeld.2.1.grown hg_59 (fun e => own_blk_ne fo_58 hHeld.2.1 (by decide) e.symm)) (hHeld.2.2.1.grown hg_59 (fun e => own_blk_ne fo_58 hHeld.2.2.1 (by decide) e.symm))
        rw [List.nil_append, ← flat_append, Nat.zero_add] at fo_59
        clear hg_59 hat_59
        refine hK.out _ _ (HS_59) (fun hHeld2 => ?_)
        clear hK K hHeld; have hHeld := hHeld2; clear hHeld2
        try simp only [Act.put, List.setIfInBounds_toArray, List.set_cons_zero, List.set_cons_succ]
        refine wpAnyH_take (i := 11) (oi := { dst := some 16, op := Op.assign (Operand.tmp 96), type := 46, pos := "top08.go:67", after := #[{ on := 10, ground := Ground.data }, { on := 10, ground := Ground.chain }, { on := 0, ground := Ground.phase }, { on := 1, ground := Ground.phase }, { on := 2, ground := Ground.phase }, { on := 3, ground := Ground.phase }, { on := 4, ground := Ground.phase }, { on := 5, ground := Ground.phase }, { on := 6, ground := Ground.phase }, { on := 7, ground := Ground.phase }, { on := 8, ground := Ground.phase }, { on := 9, ground := Ground.phase }, { on := 10, ground := Ground.phase }], guard := none }) (v := ?_) rfl (by kernel_rfl) (by kernel_rfl) (by kernel_rfl) (fun _ _ _ h => hQ _ _ _ _ _ h) (Or.inl ⟨by rfl, ?_⟩) hHeld ?_
        rotate_left
        · intro w hSw
          try dsimp only at hSw
          go_simp
          try with_reducible rfl
        try simp only [Act.put, List.setIfInBounds_toArray, List.set_cons_zero, List.set_cons_succ]
        refine wpAnyH_done (by kernel_rfl) ?_ _
        go_wp2_with fail
        exact HK_.out _ _ _ _ _ _ _ _ _ _ _ _ _ (part_end fo_59 hHeld.1 (mem_app hm_56 hm_58))
      · skip
        go_simp
        refine (YA.out _ _ hHeld.1 fyA_54).mono ?_; rintro e_60 w_60 ⟨gr_60, R_60, rfl, hs_60, hb_60, hge_60, hm_60⟩
        try go_wp2_with fail
        have fyB_60 := fyB_54.below hb_60 fyB_54.lt
        have HS_60 := sk13 (hHeld.1.trans (hb_60.mono hHeld.1.size)) (hHeld.2.1.below hb_60 hHeld.2.1.lt) (hHeld.2.2.1.below hb_60 hHeld.2.2.1.lt)
        clear hb_60
        refine hK.out _ _ (HS_60) (fun hHeld2 => ?_)
        clear hK K hHeld; have hHeld := hHeld2; clear hHeld2
        try simp only [Act.put, List.setIfInBounds_toArray, List.set_cons_zero, List.set_cons_succ]
        refine wpAnyH_ready (rs := [0]) (by kernel_rfl) (by simp) ?_
        refine AllReadyH.cons (o := { dst := some 86, op := Op.buildSlice 46 0 #[], type := 46, pos := "top08.go:67", after := #[], guard := none }) rfl (fun K hK => ?_) (AllReadyH.nil)
        go_simp
        have al_61 : Below w_60.heap.size w_60 (w_60.alloc (.cells (#[] : Array Value) 49)) := Below.alloc (Below.refl _ _) (Nat.le_refl _) _
        have gl_61 : w_60.heap.size < (w_60.alloc (.cells (#[] : Array Value) 49)).heap.size := (Blk.new w_60 49 (#[] : Array Value)).lt
        have fyB_61 := fyB_60.below al_61 fyB_60.lt
        have fsA_61 := (hs_60.below al_61).more al_61.size
        have fo_61 := own_none (base := W5.heap.size) w_60 hHeld.1.size
        have HS_61 := sk13 (hHeld.1.trans (al_61.mono hHeld.1.size)) (hHeld.2.1.below al_61 hHeld.2.1.lt) (hHeld.2.2.1.below al_61 hHeld.2.2.1.lt)
        generalize w_60.alloc (.cells (#[] : Array Value) 49) = W_61 at *
        obtain ⟨g_61, hg_61⟩ : ∃ g, w_60.heap.size = g := ⟨_, rfl⟩
        rw [hg_61] at fo_61 gl_61 ⊢
        clear al_61 hg_61
        refine hK.out _ _ (HS_61) (fun hHeld2 => ?_)
        clear hK K hHeld; have hHeld := hHeld2; clear hHeld2
        try simp only [Act.put, List.setIfInBounds_toArray, List.set_cons_zero, List.set_cons_succ]
        refine wpAnyH_ready (rs := [5]) (by kernel_rfl) (by simp) ?_
        refine AllReadyH.cons (o := { dst := some 91, op := Op.call { callee := Callee.builtin Builtin.append, args := #[Operand.tmp 86, Operand.tmp 90], argTypes := #[46, 46] }, type := 46, pos := "top08.go:67", after := #[{ on := 0, ground := Ground.data }, { on := 4, ground := Ground.data }, { on := 4, ground := Ground.chain }], guard := none }) rfl (fun K hK => ?_) (AllReadyH.nil)
        rw [if_pos (by rfl)]
        refine wp_append_any _ (.tmp 86) (.tmp 90) 46 rfl W5.heap.size 49 i0 _ 5 48 Tryd.underlying46 HI.out hz0 hz1 hz2 rfl (by decide) _ 0 _ rfl fo_61 _ _ na na _ rfl fsA_61.r (flat_cells (oc_one [r]) _) (by unfold maxLen; omega) (by omega) hHeld.1.size ?_
        intro v_62 W_62 fo_62 hg_62 hat_62
        have fyB_62 := fyB_61.grown hg_62 (fun e => own_blk_ne fo_61 fyB_61 (by decide) e.symm)
        have HS_62 := sk13 (hHeld.1.grown hg_62 hHeld.1.size (fun g e => (own_ge fo_61 g e).1)) (hHeld.2.1.grown hg_62 (fun e => own_blk_ne fo_61 hHeld.2.1 (by decide) e.symm)) (hHeld.2.2.1.grown hg_62 (fun e => own_blk_ne fo_61 hHeld.2.2.1 (by decide) e.symm))
        clear hg_62 hat_62
        refine hK.out _ _ (HS_62) (fun hHeld2 => ?_)
        clear hK K hHeld; have hHeld := hHeld2; clear hHeld2
        try simp only [Act.put, List.setIfInBounds_toArray, List.set_cons_zero, List.set_cons_succ]
        refine wpAnyH_ready (rs := [9]) (by kernel_rfl) (by simp) ?_
        refine AllReadyH.cons (o := { dst := some 95, op := Op.call { callee := Callee.value (Operand.func 10), args := #[Operand.tmp 93, Operand.tmp 94], argTypes := #[22, 3] }, type := 46, pos := "top08.go:67", after := #[{ on := 7, ground := Ground.data }, { on := 8, ground := Ground.data }, { on := 5, ground := Ground.chain }], guard := none }) rfl (fun K hK => ?_) (AllReadyH.nil)
        go_simp
        refine (YB.out _ _ hHeld.1 fyB_62).mono ?_; rintro e_63 w_63 ⟨gr_63, R_63, rfl, hs_63, hb_63, hge_63, hm_63⟩
        try go_wp2_with fail
        have fo_63 := own_below fo_62 hb_63
        have HS_63 := sk13 (hHeld.1.trans (hb_63.mono hHeld.1.size)) (hHeld.2.1.below hb_63 hHeld.2.1.lt) (hHeld.2.2.1.below hb_63 hHeld.2.2.1.lt)
        clear hb_63
        refine hK.out _ _ (HS_63) (fun hHeld2 => ?_)
        clear hK K hHeld; have hHeld := hHeld2; clear hHeld2
        try simp only [Act.put, List.setIfInBounds_toArray, List.set_cons_zero, List.set_cons_succ]
        refine wpAnyH_ready (rs := [10]) (by kernel_rfl) (by simp) ?_
        refine AllReadyH.cons (o := { dst := some 96, op := Op.call { callee := Callee.builtin Builtin.append, args := #[Operand.tmp 91, Operand.tmp 95], argTypes := #[46, 46] }, type := 46, pos := "top08.go:67", after := #[{ on := 5, ground := Ground.data }, { on := 9, ground := Ground.data }, { on := 9, ground := Ground.chain }], guard := none }) rfl (fun K hK => ?_) (AllReadyH.nil)
        rw [if_pos (by rfl)]
        refine wp_append_any _ (.tmp 91) (.tmp 95) 46 rfl W5.heap.size 49 i0 _ 5 48 Tryd.underlying46 HI.out hz0 hz1 hz2 rfl (by decide) _ (0 + na) _ rfl fo_63 _ _ nb nb _ rfl hs_63.r (flat_cells (oc_one [r]) _) (by unfold maxLen; omega) (by omega) hHeld.1.size ?_
        intro v_64 W_64 fo_64 hg_64 hat_64
        have HS_64 := sk13 (hHeld.1.grown hg_64 hHeld.1.size (fun g e => (own_ge fo_63 g e).1)) (hHeld.2.1.grown hg_64 (fun e => own_blk_ne fo_63 hHeld.2.1 (by decide) e.symm)) (hHeld.2.2.1.grown hg_64 (fun e => own_blk_ne fo_63 hHeld.2.2.1 (by decide) e.symm))
        rw [List.nil_append, ← flat_append, Nat.zero_add] at fo_64
        clear hg_64 hat_64
        refine hK.out _ _ (HS_64) (fun hHeld2 => ?_)
        clear hK K hHeld; have hHeld := hHeld2; clear hHeld2
        try simp only [Act.put, List.setIfInBounds_toArray, List.set_cons_zero, List.set_cons_succ]
        refine wpAnyH_take (i := 11) (oi := { dst := some 16, op := Op.assign (Operand.tmp 96), type := 46, pos := "top08.go:67", after := #[{ on := 10, ground := Ground.data }, { on := 10, ground := Ground.chain }, { on := 0, ground := Ground.phase }, { on := 1, ground := Ground.phase }, { on := 2, ground := Ground.phase }, { on := 3, ground := Ground.phase }, { on := 4, ground := Ground.phase }, { on := 5, ground := Ground.phase }, { on := 6, ground := Ground.phase }, { on := 7, ground := Ground.phase }, { on := 8, ground := Ground.phase }, { on := 9, ground := Ground.phase }, { on := 10, ground := Ground.phase }], guard := none }) (v := ?_) rfl (by kernel_rfl) (by kernel_rfl) (by kernel_rfl) (fun _ _ _ h => hQ _ _ _ _ _ h) (Or.inl ⟨by rfl, ?_⟩) hHeld ?_
        rotate_left
        · intro w hSw
          try dsimp only at hSw
          go_simp
          try with_reducible rfl
        try simp only [Act.put, List.setIfInBounds_toArray, List.set_cons_zero, List.set_cons_succ]
        refine wpAnyH_done (by kernel_rfl) ?_ _
        go_wp2_with fail
        exact HK_.out _ _ _ _ _ _ _ _ _ _ _ _ _ (part_end fo_64 hHeld.1 (mem_app hm_60 hm_63))
  · skip
    go_simp
    have al_65 : Below Wd.heap.size Wd (Wd.alloc (.cells (ruFr r mid).C 42)) := Below.alloc (Below.refl _ _) (Nat.le_refl _) _
    have gl_65 : Wd.heap.size < (Wd.alloc (.cells (ruFr r mid).C 42)).heap.size := (Blk.new Wd 42 (ruFr r mid).C).lt
    have fyB_65 := Blk.new Wd 42 (ruFr r mid).C
    have HS_65 := sk13 (hHeld.1.trans (al_65.mono hHeld.1.size)) (hHeld.2.1.below al_65 hHeld.2.1.lt) (hHeld.2.2.1.below al_65 hHeld.2.2.1.lt)
    generalize Wd.alloc (.cells (ruFr r mid).C 42) = W_65 at *
    obtain ⟨g_65, hg_65⟩ : ∃ g, Wd.heap.size = g := ⟨_, rfl⟩
    rw [hg_65] at fyB_65 gl_65 ⊢
    clear al_65 hg_65
    refine hK.out _ _ (HS_65) (fun hHeld2 => ?_)
    clear hK K hHeld; have hHeld := hHeld2; clear hHeld2
    try simp only [Act.put, List.setIfInBounds_toArray, List.set_cons_zero, List.set_cons_succ]
    refine wpAnyH_ready (rs := [0, 2]) (by kernel_rfl) (by simp) ?_
    refine AllReadyH.cons (o := { dst := some 86, op := Op.buildSlice 46 0 #[], type := 46, pos := "top08.go:67", after := #[], guard := none }) rfl (fun K hK => ?_) (AllReadyH.cons (o := { dst := some 88, op := Op.buildSlice 22 1 #[(0, Operand.tmp 87)], type := 22, pos := "top08.go:67", after := #[{ on := 1, ground := Ground.data }], guard := none }) rfl (fun K hK => ?_) (AllReadyH.nil))
    · skip
      go_simp
      have al_66 : Below W_65.heap.size W_65 (W_65.alloc (.cells (#[] : Array Value) 49)) := Below.alloc (Below.refl _ _) (Nat.le_refl _) _
      have gl_66 : W_65.heap.size < (W_65.alloc (.cells (#[] : Array Value) 49)).heap.size := (Blk.new W_65 49 (#[] : Array Value)).lt
      have fyB_66 := fyB_65.below al_66 fyB_65.lt
      have fo_66 := own_none (base := W5.heap.size) W_65 hHeld.1.size
      have HS_66 := sk13 (hHeld.1.trans (al_66.mono hHeld.1.size)) (hHeld.2.1.below al_66 hHeld.2.1.lt) (hHeld.2.2.1.below al_66 hHeld.2.2.1.lt)
      generalize W_65.alloc (.cells (#[] : Array Value) 49) = W_66 at *
      obtain ⟨g_66, hg_66⟩ : ∃ g, W_65.heap.size = g := ⟨_, rfl⟩
      rw [hg_66] at fo_66 gl_66 ⊢
      clear al_66 hg_66
      refine hK.out _ _ (HS_66) (fun hHeld2 => ?_)
      clear hK K hHeld; have hHeld := hHeld2; clear hHeld2
      try simp only [Act.put, List.setIfInBounds_toArray, List.set_cons_zero, List.set_cons_succ]
      refine wpAnyH_ready (rs := [2]) (by kernel_rfl) (by simp) ?_
      refine AllReadyH.cons (o := { dst := some 88, op := Op.buildSlice 22 1 #[(0, Operand.tmp 87)], type := 22, pos := "top08.go:67", after := #[{ on := 1, ground := Ground.data }], guard := none }) rfl (fun K hK => ?_) (AllReadyH.nil)
      go_simp
      have al_67 : Below W_66.heap.size W_66 (W_66.alloc (.cells (ruTo r (mid - 1)).C 42)) := Below.alloc (Below.refl _ _) (Nat.le_refl _) _
      have gl_67 : W_66.heap.size < (W_66.alloc (.cells (ruTo r (mid - 1)).C 42)).heap.size := (Blk.new W_66 42 (ruTo r (mid - 1)).C).lt
      have fyB_67 := fyB_66.below al_67 fyB_66.lt
      have fo_67 := own_below fo_66 al_67
      have fyA_67 := Blk.new W_66 42 (ruTo r (mid - 1)).C
      have HS_67 := sk13 (hHeld.1.trans (al_67.mono hHeld.1.size)) (hHeld.2.1.below al_67 hHeld.2.1.lt) (hHeld.2.2.1.below al_67 hHeld.2.2.1.lt)
      generalize W_66.alloc (.cells (ruTo r (mid - 1)).C 42) = W_67 at *
      obtain ⟨g_67, hg_67⟩ : ∃ g, W_66.heap.size = g := ⟨_, rfl⟩
      rw [hg_67] at fyA_67 gl_67 ⊢
      clear al_67 hg_67
      refine hK.out _ _ (HS_67) (fun hHeld2 => ?_)
      clear hK K hHeld; have hHeld := hHeld2; clear hHeld2
      try simp only [Act.put, List.setIfInBounds_toArray, List.set_cons_zero, List.set_cons_succ]
      refine wpAnyH_ready (rs := [4]) (by kernel_rfl) (by simp) ?_
      refine AllReadyH.cons (o := { dst := some 90, op := Op.call { callee := Callee.value (Operand.func 10), args := #[Operand.tmp 88, Operand.tmp 89], argTypes := #[22, 3] }, type := 46, pos := "top08.go:67", after := #[{ on := 2, ground := Ground.data }, { on := 3, ground := Ground.data }], guard := none }) rfl (fun K hK => ?_) (AllReadyH.nil)
      go_simp
      refine (YA.out _ _ hHeld.1 fyA_67).mono ?_; rintro e_68 w_68 ⟨gr_68, R_68, rfl, hs_68, hb_68, hge_68, hm_68⟩
      try go_wp2_with fail
      have fyB_68 := fyB_67.below hb_68 fyB_67.lt
      have fo_68 := own_below fo_67 hb_68
      have HS_68 := sk13 (hHeld.1.trans (hb_68.mono hHeld.1.size)) (hHeld.2.1.below hb_68 hHeld.2.1.lt) (hHeld.2.2.1.below hb_68 hHeld.2.2.1.lt)
      clear hb_68
      refine hK.out _ _ (HS_68) (fun hHeld2 => ?_)
      clear hK K hHeld; have hHeld := hHeld2; clear hHeld2
      try simp only [Act.put, List.setIfInBounds_toArray, List.set_cons_zero, List.set_cons_succ]
      refine wpAnyH_ready (rs := [5]) (by kernel_rfl) (by simp) ?_
      refine AllReadyH.cons (o := { dst := some 91, op := Op.call { callee := Callee.builtin Builtin.append, args := #[Operand.tmp 86, Operand.tmp 90], argTypes := #[46, 46] }, type := 46, pos := "top08.go:67", after := #[{ on := 0, ground := Ground.data }, { on := 4, ground := Ground.data }, { on := 4, ground := Ground.chain }], guard := none }) rfl (fun K hK => ?_) (AllReadyH.nil)
      rw [if_pos (by rfl)]
      refine wp_append_any _ (.tmp 86) (.tmp 90) 46 rfl W5.heap.size 49 i0 _ 5 48 Tryd.underlying46 HI.out hz0 hz1 hz2 rfl (by decide) _ 0 _ rfl fo_68 _ _ na na _ rfl hs_68.r (flat_cells (oc_one [r]) _) (by unfold maxLen; omega) (by omega) hHeld.1.size ?_
      intro v_69 W_69 fo_69 hg_69 hat_69
      have fyB_69 := fyB_68.grown hg_69 (fun e => own_blk_ne fo_68 fyB_68 (by decide) e.symm)
      have HS_69 := sk13 (hHeld.1.grown hg_69 hHeld.1.size (fun g e => (own_ge fo_68 g e).1)) (hHeld.2.1.grown hg_69 (fun e => own_blk_ne fo_68 hHeld.2.1 (by decide) e.symm)) (hHeld.2.2.1.grown hg_69 (fun e => own_blk_ne fo_68 hHeld.2.2.1 (by decide) e.symm))
      clear hg_69 hat_69
      refine hK.out _ _ (HS_69) (fun hHeld2 => ?_)
      clear hK K hHeld; have hHeld := hHeld2; clear hHeld2
      try simp only [Act.put, List.setIfInBounds_toArray, List.set_cons_zero, List.set_cons_succ]
      refine wpAnyH_ready (rs := [9]) (by kernel_rfl) (by simp) ?_
      refine AllReadyH.cons (o := { dst := some 95, op := Op.call { callee := Callee.value (Operand.func 10), args := #[Operand.tmp 93, Operand.tmp 94], argTypes := #[22, 3] }, type := 46, pos := "top08.go:67", after := #[{ on := 7, ground := Ground.data }, { on := 8, ground := Ground.data }, { on := 5, ground := Ground.chain }], guard := none }) rfl (fun K hK => ?_) (AllReadyH.nil)
      go_simp
      refine (YB.out _ _ hHeld.1 fyB_69).mono ?_; rintro e_70 w_70 ⟨gr_70, R_70, rfl, hs_70, hb_70, hge_70, hm_70⟩
      try go_wp2_with fail
      have fo_70 := own_below fo_69 hb_70
      have HS_70 := sk13 (hHeld.1.trans (hb_70.mono hHeld.1.size)) (hHeld.2.1.below hb_70 hHeld.2.1.lt) (hHeld.2.2.1.below hb_70 hHeld.2.2.1.lt)
      clear hb_70
      refine hK.out _ _ (HS_70) (fun hHeld2 => ?_)
      clear hK K hHeld; have hHeld := hHeld2; clear hHeld2
      try simp only [Act.put, List.setIfInBounds_toArray, List.set_cons_zero, List.set_cons_succ]
      refine wpAnyH_ready (rs := [10]) (by kernel_rfl) (by simp) ?_
      refine AllReadyH.cons (o := { dst := some 96, op := Op.call { callee := Callee.builtin Builtin.append, args := #[Operand.tmp 91, Operand.tmp 95], argTypes := #[46, 46] }, type := 46, pos := "top08.go:67", after := #[{ on := 5, ground := Ground.data }, { on := 9, ground := Ground.data }, { on := 9, ground := Ground.chain }], guard := none }) rfl (fun K hK => ?_) (AllReadyH.nil)
      rw [if_pos (by rfl)]
      refine wp_append_any _ (.tmp 91) (.tmp 95) 46 rfl W5.heap.size 49 i0 _ 5 48 Tryd.underlying46 HI.out hz0 hz1 hz2 rfl (by decide) _ (0 + na) _ rfl fo_70 _ _ nb nb _ rfl hs_70.r (flat_cells (oc_one [r]) _) (by unfold maxLen; omega) (by omega) hHeld.1.size ?_
      intro v_71 W_71 fo_71 hg_71 hat_71
      have HS_71 := sk13 (hHeld.1.grown hg_71 hHeld.1.size (fun g e => (own_ge fo_70 g e).1)) (hHeld.2.1.grown hg_71 (fun e => own_blk_ne fo_70 hHeld.2.1 (by decide) e.symm)) (hHeld.2.2.1.grown hg_71 (fun e => own_blk_ne fo_70 hHeld.2.2.1 (by decide) e.symm))
      rw [List.nil_append, ← flat_append, Nat.zero_add] at fo_71
      clear hg_71 hat_71
      refine hK.out _ _ (HS_71) (fun hHeld2 => ?_)
      clear hK K hHeld; have hHeld := hHeld2; clear hHeld2
      try simp only [Act.put, List.setIfInBounds_toArray, List.set_cons_zero, List.set_cons_succ]
      refine wpAnyH_take (i := 11) (oi := { dst := some 16, op := Op.assign (Operand.tmp 96), type := 46, pos := "top08.go:67", after := #[{ on := 10, ground := Ground.data }, { on := 10, ground := Ground.chain }, { on := 0, ground := Ground.phase }, { on := 1, ground := Ground.phase }, { on := 2, ground := Ground.phase }, { on := 3, ground := Ground.phase }, { on := 4, ground := Ground.phase }, { on := 5, ground := Ground.phase }, { on := 6, ground := Ground.phase }, { on := 7, ground := Ground.phase }, { on := 8, ground := Ground.phase }, { on := 9, ground := Ground.phase }, { on := 10, ground := Ground.phase }], guard := none }) (v := ?_) rfl (by kernel_rfl) (by kernel_rfl) (by kernel_rfl) (fun _ _ _ h => hQ _ _ _ _ _ h) (Or.inl ⟨by rfl, ?_⟩) hHeld ?_
      rotate_left
      · intro w hSw
        try dsimp only at hSw
        go_simp
        try with_reducible rfl
      try simp only [Act.put, List.setIfInBounds_toArray, List.set_cons_zero, List.set_cons_succ]
      refine wpAnyH_done (by kernel_rfl) ?_ _
      go_wp2_with fail
      exact HK_.out _ _ _ _ _ _ _ _ _ _ _ _ _ (part_end fo_71 hHeld.1 (mem_app hm_68 hm_70))
    · skip
      go_simp
      have al_72 : Below W_65.heap.size W_65 (W_65.alloc (.cells (ruTo r (mid - 1)).C 42)) := Below.alloc (Below.refl _ _) (Nat.le_refl _) _
      have gl_72 : W_65.heap.size < (W_65.alloc (.cells (ruTo r (mid - 1)).C 42)).heap.size := (Blk.new W_65 42 (ruTo r (mid - 1)).C).lt
      have fyB_72 := fyB_65.below al_72 fyB_65.lt
      have fyA_72 := Blk.new W_65 42 (ruTo r (mid - 1)).C
      have HS_72 := sk13 (hHeld.1.trans (al_72.mono hHeld.1.size)) (hHeld.2.1.below al_72 hHeld.2.1.lt) (hHeld.2.2.1.below al_72 hHeld.2.2.1.lt)
      generalize W_65.alloc (.cells (ruTo r (mid - 1)).C 42) = W_72 at *
      obtain ⟨g_72, hg_72⟩ : ∃ g, W_65.heap.size = g := ⟨_, rfl⟩
      rw [hg_72] at fyA_72 gl_72 ⊢
      clear al_72 hg_72
      refine hK.out _ _ (HS_72) (fun hHeld2 => ?_)
      clear hK K hHeld; have hHeld := hHeld2; clear hHeld2
      try simp only [Act.put, List.setIfInBounds_toArray, List.set_cons_zero, List.set_cons_succ]
      refine wpAnyH_ready (rs := [0, 4]) (by kernel_rfl) (by simp) ?_
      refine AllReadyH.cons (o := { dst := some 86, op := Op.buildSlice 46 0 #[], type := 46, pos := "top08.go:67", after := #[], guard := none }) rfl (fun K hK => ?_) (AllReadyH.cons (o := { dst := some 90, op := Op.call { callee := Callee.value (Operand.func 10), args := #[Operand.tmp 88, Operand.tmp 89], argTypes := #[22, 3] }, type := 46, pos := "top08.go:67", after := #[{ on := 2, ground := Ground.data }, { on := 3, ground := Ground.data }], guard := none }) rfl (fun K hK => ?_) (AllReadyH.nil))
      · skip
        go_simp
        have al_73 : Below W_72.heap.size W_72 (W_72.alloc (.cells (#[] : Array Value) 49)) := Below.alloc (Below.refl _ _) (Nat.le_refl _) _
        have gl_73 : W_72.heap.size < (W_72.alloc (.cells (#[] : Array Value) 49)).heap.size := (Blk.new W_72 49 (#[] : Array Value)).lt
        have fyB_73 := fyB_72.below al_73 fyB_72.lt
        have fyA_73 := fyA_72.below al_73 fyA_72.lt
        have fo_73 := own_none (base := W5.heap.size) W_72 hHeld.1.size
        have HS_73 := sk13 (hHeld.1.trans (al_73.mono hHeld.1.size)) (hHeld.2.1.below al_73 hHeld.2.1.lt) (hHeld.2.2.1.below al_73 hHeld.2.2.1.lt)
        generalize W_72.alloc (.cells (#[] : Array Value) 49) = W_73 at *
        obtain ⟨g_73, hg_73⟩ : ∃ g, W_72.heap.size = g := ⟨_, rfl⟩
        rw [hg_73] at fo_73 gl_73 ⊢
        clear al_73 hg_73
        refine hK.out _ _ (HS_73) (fun hHeld2 => ?_)
        clear hK K hHeld; have hHeld := hHeld2; clear hHeld2
        try simp only [Act.put, List.setIfInBounds_toArray, List.set_cons_zero, List.set_cons_succ]
        refine wpAnyH_ready (rs := [4]) (by kernel_rfl) (by simp) ?_
        refine AllReadyH.cons (o := { dst := some 90, op := Op.call { callee := Callee.value (Operand.func 10), args := #[Operand.tmp 88, Operand.tmp 89], argTypes := #[22, 3] }, type := 46, pos := "top08.go:67", after := #[{ on := 2, ground := Ground.data }, { on := 3, ground := Ground.data }], guard := none }) rfl (fun K hK => ?_) (AllReadyH.nil)
        go_simp
        refine (YA.out _ _ hHeld.1 fyA_73).mono ?_; rintro e_74 w_74 ⟨gr_74, R_74, rfl, hs_74, hb_74, hge_74, hm_74⟩
        try go_wp2_with fail
        have fyB_74 := fyB_73.below hb_74 fyB_73.lt
        have fo_74 := own_below fo_73 hb_74
        have HS_74 := sk13 (hHeld.1.trans (hb_74.mono hHeld.1.size)) (hHeld.2.1.below hb_74 hHeld.2.1.lt) (hHeld.2.2.1.below hb_74 hHeld.2.2.1.lt)
        clear hb_74
        refine hK.out _ _ (HS_74) (fun hHeld2 => ?_)
        clear hK K hHeld; have hHeld := hHeld2; clear hHeld2
        try simp only [Act.put, List.setIfInBounds_toArray, List.set_cons_zero, List.set_cons_succ]
        refine wpAnyH_ready (rs := [5]) (by kernel_rfl) (by simp) ?_
        refine AllReadyH.cons (o := { dst := some 91, op := Op.call { callee := Callee.builtin Builtin.append, args := #[Operand.tmp 86, Operand.tmp 90], argTypes := #[46, 46] }, type := 46, pos := "top08.go:67", after := #[{ on := 0, ground := Ground.data }, { on := 4, ground := Ground.data }, { on := 4, ground := Ground.chain }], guard := none }) rfl (fun K hK => ?_) (AllReadyH.nil)
        rw [if_pos (by rfl)]
        refine wp_append_any _ (.tmp 86) (.tmp 90) 46 rfl W5.heap.size 49 i0 _ 5 48 Tryd.underlying46 HI.out hz0 hz1 hz2 rfl (by decide) _ 0 _ rfl fo_74 _ _ na na _ rfl hs_74.r (flat_cells (oc_one [r]) _) (by unfold maxLen; omega) (by omega) hHeld.1.size ?_
        intro v_75 W_75 fo_75 hg_75 hat_75
        have fyB_75 := fyB_74.grown hg_75 (fun e => own_blk_ne fo_74 fyB_74 (by decide) e.symm)
        have HS_75 := sk13 (hHeld.1.grown hg_75 hHeld.1.size (fun g e => (own_ge fo_74 g e).1)) (hHeld.2.1.grown hg_75 (fun e => own_blk_ne fo_74 hHeld.2.1 (by decide) e.symm)) (hHeld.2.2.1.grown hg_75 (fun e => own_blk_ne fo_74 hHeld.2.2.1 (by decide) e.symm))
        clear hg_75 hat_75
        refine hK.out _ _ (HS_75) (fun hHeld2 => ?_)
        clear hK K hHeld; have hHeld := hHeld2; clear hHeld2
        try simp only [Act.put, List.setIfInBounds_toArray, List.set_cons_zero, List.set_cons_succ]
        refine wpAnyH_ready (rs := [9]) (by kernel_rfl) (by simp) ?_
        refine AllReadyH.cons (o := { dst := some 95, op := Op.call { callee := Callee.value (Operand.func 10), args := #[Operand.tmp 93, Operand.tmp 94], argTypes := #[22, 3] }, type := 46, pos := "top08.go:67", after := #[{ on := 7, ground := Ground.data }, { on := 8, ground := Ground.data }, { on := 5, ground := Ground.chain }], guard := none }) rfl (fun K hK => ?_) (AllReadyH.nil)
        go_simp
        refine (YB.out _ _ hHeld.1 fyB_75).mono ?_; rintro e_76 w_76 ⟨gr_76, R_76, rfl, hs_76, hb_76, hge_76, hm_76⟩
        try go_wp2_with fail
        have fo_76 := own_below fo_75 hb_76
        have HS_76 := sk13 (hHeld.1.trans (hb_76.mono hHeld.1.size)) (hHeld.2.1.below hb_76 hHeld.2.1.lt) (hHeld.2.2.1.below hb_76 hHeld.2.2.1.lt)
        clear hb_76
        refine hK.out _ _ (HS_76) (fun hHeld2 => ?_)
        clear hK K hHeld; have hHeld := hHeld2; clear hHeld2
        try simp only [Act.put, List.setIfInBounds_toArray, List.set_cons_zero, List.set_cons_succ]
        refine wpAnyH_ready (rs := [10]) (by kernel_rfl) (by simp) ?_
        refine AllReadyH.cons (o := { dst := some 96, op := Op.call { callee := Callee.builtin Builtin.append, args := #[Operand.tmp 91, Operand.tmp 95], argTypes := #[46, 46] }, type := 46, pos := "top08.go:67", after := #[{ on := 5, ground := Ground.data }, { on := 9, ground := Ground.data }, { on := 9, ground := Ground.chain }], guard := none }) rfl (fun K hK => ?_) (AllReadyH.nil)
        rw [if_pos (by rfl)]
        refine wp_append_any _ (.tmp 91) (.tmp 95) 46 rfl W5.heap.size 49 i0 _ 5 48 Tryd.underlying46 HI.out hz0 hz1 hz2 rfl (by decide) _ (0 + na) _ rfl fo_76 _ _ nb nb _ rfl hs_76.r (flat_cells (oc_one [r]) _) (by unfold maxLen; omega) (by omega) hHeld.1.size ?_
        intro v_77 W_77 fo_77 hg_77 hat_77
        have HS_77 := sk13 (hHeld.1.grown hg_77 hHeld.1.size (fun g e => (own_ge fo_76 g e).1)) (hHeld.2.1.grown hg_77 (fun e => own_blk_ne fo_76 hHeld.2.1 (by decide) e.symm)) (hHeld.2.2.1.grown hg_77 (fun e => own_blk_ne fo_76 hHeld.2.2.1 (by decide) e.symm))
        rw [List.nil_append, ← flat_append, Nat.zero_add] at fo_77
        clear hg_77 hat_77
        refine hK.out _ _ (HS_77) (fun hHeld2 => ?_)
        clear hK K hHeld; have hHeld := hHeld2; clear hHeld2
        try simp only [Act.put, List.setIfInBounds_toArray, List.set_cons_zero, List.set_cons_succ]
        refine wpAnyH_take (i := 11) (oi := { dst := some 16, op := Op.assign (Operand.tmp 96), type := 46, pos := "top08.go:67", after := #[{ on := 10, ground := Ground.data }, { on := 10, ground := Ground.chain }, { on := 0, ground := Ground.phase }, { on := 1, ground := Ground.phase }, { on := 2, ground := Ground.phase }, { on := 3, ground := Ground.phase }, { on := 4, ground := Ground.phase }, { on := 5, ground := Ground.phase }, { on := 6, ground := Ground.phase }, { on := 7, ground := Ground.phase }, { on := 8, ground := Ground.phase }, { on := 9, ground := Ground.phase }, { on := 10, ground := Ground.phase }], guard := none }) (v := ?_) rfl (by kernel_rfl) (by kernel_rfl) (by kernel_rfl) (fun _ _ _ h => hQ _ _ _ _ _ h) (Or.inl ⟨by rfl, ?_⟩) hHeld ?_
        rotate_left
        · intro w hSw
          try dsimp only at hSw
          go_simp
          try with_reducible rfl
        try simp only [Act.put, List.setIfInBounds_toArray, List.set_cons_zero, List.set_cons_succ]
        refine wpAnyH_done (by kernel_rfl) ?_ _
        go_wp2_with fail
        exact HK_.out _ _ _ _ _ _ _ _ _ _ _ _ _ (part_end fo_77 hHeld.1 (mem_app hm_74 hm_76))
      · skip
        go_simp
        refine (YA.out _ _ hHeld.1 fyA_72).mono ?_; rintro e_78 w_78 ⟨gr_78, R_78, rfl, hs_78, hb_78, hge_78, hm_78⟩
        try go_wp2_with fail
        have fyB_78 := fyB_72.below hb_78 fyB_72.lt
        have HS_78 := sk13 (hHeld.1.trans (hb_78.mono hHeld.1.size)) (hHeld.2.1.below hb_78 hHeld.2.1.lt) (hHeld.2.2.1.below hb_78 hHeld.2.2.1.lt)
        clear hb_78
        refine hK.out _ _ (HS_78) (fun hHeld2 => ?_)
        clear hK K hHeld; have hHeld := hHeld2; clear hHeld2
        try simp only [Act.put, List.setIfInBounds_toArray, List.set_cons_zero, List.set_cons_succ]
        refine wpAnyH_ready (rs := [0]) (by kernel_rfl) (by simp) ?_
        refine AllReadyH.cons (o := { dst := some 86, op := Op.buildSlice 46 0 #[], type := 46, pos := "top08.go:67", after := #[], guard := none }) rfl (fun K hK => ?_) (AllReadyH.nil)
        go_simp
        have al_79 : Below w_78.heap.size w_78 (w_78.alloc (.cells (#[] : Array Value) 49)) := Below.alloc (Below.refl _ _) (Nat.le_refl _) _
        have gl_79 : w_78.heap.size < (w_78.alloc (.cells (#[] : Array Value) 49)).heap.size := (Blk.new w_78 49 (#[] : Array Value)).lt
        have fyB_79 := fyB_78.below al_79 fyB_78.lt
        have fsA_79 := (hs_78.below al_79).more al_79.size
        have fo_79 := own_none (base := W5.heap.size) w_78 hHeld.1.size
        have HS_79 := sk13 (hHeld.1.trans (al_79.mono hHeld.1.size)) (hHeld.2.1.below al_79 hHeld.2.1.lt) (hHeld.2.2.1.below al_79 hHeld.2.2.1.lt)
        generalize w_78.alloc (.cells (#[] : Array Value) 49) = W_79 at *
        obtain ⟨g_79, hg_79⟩ : ∃ g, w_78.heap.size = g := ⟨_, rfl⟩
        rw [hg_79] at fo_79 gl_79 ⊢
        clear al_79 hg_79
        refine hK.out _ _ (HS_79) (fun hHeld2 => ?_)
        clear hK K hHeld; have hHeld := hHeld2; clear hHeld2
        try simp only [Act.put, List.setIfInBounds_toArray, List.set_cons_zero, List.set_cons_succ]
        refine wpAnyH_ready (rs := [5]) (by kernel_rfl) (by simp) ?_
        refine AllReadyH.cons (o := { dst := some 91, op := Op.call { callee := Callee.builtin Builtin.append, args := #[Operand.tmp 86, Operand.tmp 90], argTypes := #[46, 46] }, type := 46, pos := "top08.go:67", after := #[{ on := 0, ground := Ground.data }, { on := 4, ground := Ground.data }, { on := 4, ground := Ground.chain }], guard := none }) rfl (fun K hK => ?_) (AllReadyH.nil)
        rw [if_pos (by rfl)]
        refine wp_append_any _ (.tmp 86) (.tmp 90) 46 rfl W5.heap.size 49 i0 _ 5 48 Tryd.underlying46 HI.out hz0 hz1 hz2 rfl (by decide) _ 0 _ rfl fo_79 _ _ na na _ rfl fsA_79.r (flat_cells (oc_one [r]) _) (by unfold maxLen; omega) (by omega) hHeld.1.size ?_
        intro v_80 W_80 fo_80 hg_80 hat_80
        have fyB_80 := fyB_79.grown hg_80 (fun e => own_blk_ne fo_79 fyB_79 (by decide) e.symm)
        have HS_80 := sk13 (hHeld.1.grown hg_80 hHeld.1.size (fun g e => (own_ge fo_79 g e).1)) (hHeld.2.1.grown hg_80 (fun e => own_blk_ne fo_79 hHeld.2.1 (by decide) e.symm)) (hHeld.2.2.1.grown hg_80 (fun e => own_blk_ne fo_79 hHeld.2.2.1 (by decide) e.symm))
        clear hg_80 hat_80
        refine hK.out _ _ (HS_80) (fun hHeld2 => ?_)
        clear hK K hHeld; have hHeld := hHeld2; clear hHeld2
        try simp only [Act.put, List.setIfInBounds_toArray, List.set_cons_zero, List.set_cons_succ]
        refine wpAnyH_ready (rs := [9]) (by kernel_rfl) (by simp) ?_
        refine AllReadyH.cons (o := { dst := some 95, op := Op.call { callee := Callee.value (Operand.func 10), args := #[Operand.tmp 93, Operand.tmp 94], argTypes := #[22, 3] }, type := 46, pos := "top08.go:67", after := #[{ on := 7, ground := Ground.data }, { on := 8, ground := Ground.data }, { on := 5, ground := Ground.chain }], guard := none }) rfl (fun K hK => ?_) (AllReadyH.nil)
        go_simp
        refine (YB.out _ _ hHeld.1 fyB_80).mono ?_; rintro e_81 w_81 ⟨gr_81, R_81, rfl, hs_81, hb_81, hge_81, hm_81⟩
        try go_wp2_with fail
        have fo_81 := own_below fo_80 hb_81
        have HS_81 := sk13 (hHeld.1.trans (hb_81.mono hHeld.1.size)) (hHeld.2.1.below hb_81 hHeld.2.1.lt) (hHeld.2.2.1.below hb_81 hHeld.2.2.1.lt)
        clear hb_81
        refine hK.out _ _ (HS_81) (fun hHeld2 => ?_)
        clear hK K hHeld; have hHeld := hHeld2; clear hHeld2
        try simp only [Act.put, List.setIfInBounds_toArray, List.set_cons_zero, List.set_cons_succ]
        refine wpAnyH_ready (rs := [10]) (by kernel_rfl) (by simp) ?_
        refine AllReadyH.cons (o := { dst := some 96, op := Op.call { callee := Callee.builtin Builtin.append, args := #[Operand.tmp 91, Operand.tmp 95], argTypes := #[46, 46] }, type := 46, pos := "top08.go:67", after := #[{ on := 5, ground := Ground.data }, { on := 9, ground := Ground.data }, { on := 9, ground := Ground.chain }], guard := none }) rfl (fun K hK => ?_) (AllReadyH.nil)
        rw [if_pos (by rfl)]
        refine wp_append_any _ (.tmp 91) (.tmp 95) 46 rfl W5.heap.size 49 i0 _ 5 48 Tryd.underlying46 HI.out hz0 hz1 hz2 rfl (by decide) _ (0 + na) _ rfl fo_81 _ _ nb nb _ rfl hs_81.r (flat_cells (oc_one [r]) _) (by unfold maxLen; omega) (by omega) hHeld.1.size ?_
        intro v_82 W_82 fo_82 hg_82 hat_82
        have HS_82 := sk13 (hHeld.1.grown hg_82 hHeld.1.size (fun g e => (own_ge fo_81 g e).1)) (hHeld.2.1.grown hg_82 (fun e => own_blk_ne fo_81 hHeld.2.1 (by decide) e.symm)) (hHeld.2.2.1.grown hg_82 (fun e => own_blk_ne fo_81 hHeld.2.2.1 (by decide) e.symm))
        rw [List.nil_append, ← flat_append, Nat.zero_add] at fo_82
        clear hg_82 hat_82
        refine hK.out _ _ (HS_82) (fun hHeld2 => ?_)
        clear hK K hHeld; have hHeld := hHeld2; clear hHeld2
        try simp only [Act.put, List.setIfInBounds_toArray, List.set_cons_zero, List.set_cons_succ]
        refine wpAnyH_take (i := 11) (oi := { dst := some 16, op := Op.assign (Operand.tmp 96), type := 46, pos := "top08.go:67", after := #[{ on := 10, ground := Ground.data }, { on := 10, ground := Ground.chain }, { on := 0, ground := Ground.phase }, { on := 1, ground := Ground.phase }, { on := 2, ground := Ground.phase }, { on := 3, ground := Ground.phase }, { on := 4, ground := Ground.phase }, { on := 5, ground := Ground.phase }, { on := 6, ground := Ground.phase }, { on := 7, ground := Ground.phase }, { on := 8, ground := Ground.phase }, { on := 9, ground := Ground.phase }, { on := 10, ground := Ground.phase }], guard := none }) (v := ?_) rfl (by kernel_rfl) (by kernel_rfl) (by kernel_rfl) (fun _ _ _ h => hQ _ _ _ _ _ h) (Or.inl ⟨by rfl, ?_⟩) hHeld ?_
        rotate_left
        · intro w hSw
          try dsimp only at hSw
          go_simp
          try with_reducible rfl
        try simp only [Act.put, List.setIfInBounds_toArray, List.set_cons_zero, List.set_cons_succ]
        refine wpAnyH_done (by kernel_rfl) ?_ _
        go_wp2_with fail
        exact HK_.out _ _ _ _ _ _ _ _ _ _ _ _ _ (part_end fo_82 hHeld.1 (mem_app hm_78 hm_81))
set_option maxRecDepth 100000 in
set_option maxHeartbeats 25600000 in
theorem ty_c {r : Ru} {mid lo hi : Int} {w W : World} {g0 ga gb gx N k0 : Nat}  {v5 v6 v7 v8 v14 v15 v16 v17 v18 v19 v20 v21 v22 v23 v24 v25 v26 v27 v28 v29 v30 v31 v32 v33 v34 v35 v36 v37 v38 v39 v40 v41 v42 v43 v44 v45 v46 v47 v48 v49 v50 v51 v52 v53 v54 v55 v56 v57 v58 v59 v60 v61 v62 v63 v64 v65 v66 v67 v68 v69 v70 v71 v72 v73 v74 v75 v76 v77 v78 v79 v80 v81 v82 v83 v84 v85 v86 v87 v88 v89 v90 v91 v92 v93 v94 v95 v96 v97 v98 v99 v100 v101 v102 v103 v104 v105 v106 v107 v108 v109 v110 v111 v112 v113 v114 v115 v116 v117 v118 v119 v120 v121 v122 v123 v124 v125 v126 v127 v128 v129 v130 v131 v132 v133 v134 v135 v136 v137 v138 v139 v140 v141 v142 v143 v144 v145 v146 v147 v148 v149 v150 v151 v152 v153 v154 v155 v156 v157 v158 v159 v160 v161 v162 v163 v164 v165 v166 v167 v168 v169 v170 v171 v172 v173 v174 v175 v176 v177 v178 v179 v180 v181 v182 v183 v184 v185 v186 v187 v188 v189 v190 v191 v192 v193 v194 v195 v196 v197 v198 : Value}
    (hk0 : k0 ≤ 1) (HN : Hid (N = k0 + sumY [r] lo (hi + 1 - lo).toNat)) (hsz : N ≤ 20000) (b : Below w.heap.size w W) :
    (tl 8 bdy).wp Tryd.prog (bodyPost Tryd.prog Tryd.f4 (OneB w)) ⟨#[.agg r.C, .int .i64 mid, .int .i64 lo, .int .i64 hi, .pointer (some ⟨g0, 0, none⟩), v5, v6, v7, v8, .pointer (some ⟨ga, 0, none⟩), .pointer (some ⟨gb, 0, none⟩), .slice (some ⟨gx, 0, none⟩) N N, .int .i64 0, .int .i64 ((sumY [r] lo (hi + 1 - lo).toNat : Nat) : Int), v14, v15, v16, v17, v18, v19, v20, v21, v22, v23, v24, v25, v26, v27, v28, v29, v30, v31, v32, v33, v34, v35, v36, v37, v38, v39, v40, v41, v42, v43, v44, v45, v46, v47, v48, v49, v50, v51, v52, v53, v54, v55, v56, v57, v58, v59, v60, v61, v62, v63, v64, v65, v66, v67, v68, v69, v70, v71, v72, v73, v74, v75, v76, v77, v78, v79, v80, v81, v82, v83, v84, v85, v86, v87, v88, v89, v90, v91, v92, v93, v94, v95, v96, v97, v98, v99, v100, v101, v102, v103, v104, v105, v106, v107, v108, v109, v110, v111, v112, v113, v114, v115, v116, v117, v118, v119, v120, v121, v122, v123, v124, v125, v126, v127, v128, v129, v130, v131, v132, v133, v134, v135, v136, v137, v138, v139, v140, v141, v142, v143, v144, v145, v146, v147, v148, v149, v150, v151, v152, v153, v154, v155, v156, v157, v158, v159, v160, v161, v162, v163, v164, v165, v166, v167, v168, v169, v170, v171, v172, v173, v174, v175, v176, v177, v178, v179, v180, v181, v182, v183, v184, v185, v186, v187, v188, v189, v190, v191, v192, v193, v194, v195, v196, v197, v198], []⟩ W := by
  try dsimp only
  conv => arg 2; whnf
  have hn := HN.out
  generalize sumY [r] lo (hi + 1 - lo).toNat = s at *
  by_cases hk : k0 = 0
  · subst hk
    obtain rfl : N = s := by omega
    clear HN hn
    go_wp2_with fail
    go_ret
    exact ⟨rfl, b⟩
  · obtain rfl : k0 = 1 := by omega
    have e1 : ((N : Int) == (s : Int)) = false := by rw [beq_eq_false_iff_ne]; omega
    have e2 : (N == s) = false := by rw [beq_eq_false_iff_ne]; omega
    have e3 : IntKind.i64.wrap ((s : Int) + 1) = (s : Int) + 1 := by simp [IntKind.wrap, IntKind.bits, IntKind.signed]; omega
    have e4 : ((N : Int) == (s : Int) + 1) = true := beq_iff_eq.2 (by omega)
    have e5 : (N : Int) = (s : Int) + 1 := by omega
    clear HN hn
    go_wp2_with fail
    go_ret
    exact ⟨rfl, b⟩
set_option maxRecDepth 100000 in
set_option maxHeartbeats 25600000 in
theorem ty_b {r : Ru} {mid lo hi : Int} {w W : World} {g0 ga gb gx N k0 : Nat}  {v5 v6 v7 v8 v14 v15 v16 v17 v18 v19 v20 v21 v22 v23 v24 v25 v26 v27 v28 v29 v30 v31 v32 v33 v34 v35 v36 v37 v38 v39 v40 v41 v42 v43 v44 v45 v46 v47 v48 v49 v50 v51 v52 v53 v54 v55 v56 v57 v58 v59 v60 v61 v62 v63 v64 v65 v66 v67 v68 v69 v70 v71 v72 v73 v74 v75 v76 v77 v78 v79 v80 v81 v82 v83 v84 v85 v86 v87 v88 v89 v90 v91 v92 v93 v94 v95 v96 v97 v98 v99 v100 v101 v102 v103 v104 v105 v106 v107 v108 v109 v110 v111 v112 v113 v114 v115 v116 v117 v118 v119 v120 v121 v122 v123 v124 v125 v126 v127 v128 v129 v130 v131 v132 v133 v134 v135 v136 v137 v138 v139 v140 v141 v142 v143 v144 v145 v146 v147 v148 v149 v150 v151 v152 v153 v154 v155 v156 v157 v158 v159 v160 v161 v162 v163 v164 v165 v166 v167 v168 v169 v170 v171 v172 v173 v174 v175 v176 v177 v178 v179 v180 v181 v182 v183 v184 v185 v186 v187 v188 v189 v190 v191 v192 v193 v194 v195 v196 v197 v198 : Value}
    (hT : Tab w) (HOK : Hid (RuOk r)) (HB : Hid r.Bd) (h1 : r.fr < mid) (h2 : mid ≤ r.tt) (hlo : 1 ≤ lo) (hhi : hi ≤ 2100) (hle : lo ≤ hi) (hk0 : k0 ≤ 1) (HN : Hid (N = k0 + sumY [r] lo (hi + 1 - lo).toNat)) (hsz : N ≤ 20000)
    (b : Below w.heap.size w W) (x : Blk W g0 42 r.C) (xa : Blk W ga 42 (ruTo r (mid - 1)).C) (xb : Blk W gb 42 (ruFr r mid).C) :
    (tl 7 bdy).wp Tryd.prog (bodyPost Tryd.prog Tryd.f4 (OneB w)) ⟨#[.agg r.C, .int .i64 mid, .int .i64 lo, .int .i64 hi, .pointer (some ⟨g0, 0, none⟩), v5, v6, v7, v8, .pointer (some ⟨ga, 0, none⟩), .pointer (some ⟨gb, 0, none⟩), .slice (some ⟨gx, 0, none⟩) N N, .int .i64 0, .int .i64 0, v14, v15, v16, v17, v18, v19, v20, v21, v22, v23, v24, v25, v26, v27, v28, v29, v30, v31, v32, v33, v34, v35, v36, v37, v38, v39, v40, v41, v42, v43, v44, v45, v46, v47, v48, v49, v50, v51, v52, v53, v54, v55, v56, v57, v58, v59, v60, v61, v62, v63, v64, v65, v66, v67, v68, v69, v70, v71, v72, v73, v74, v75, v76, v77, v78, v79, v80, v81, v82, v83, v84, v85, v86, v87, v88, v89, v90, v91, v92, v93, v94, v95, v96, v97, v98, v99, v100, v101, v102, v103, v104, v105, v106, v107, v108, v109, v110, v111, v112, v113, v114, v115, v116, v117, v118, v119, v120, v121, v122, v123, v124, v125, v126, v127, v128, v129, v130, v131, v132, v133, v134, v135, v136, v137, v138, v139, v140, v141, v142, v143, v144, v145, v146, v147, v148, v149, v150, v151, v152, v153, v154, v155, v156, v157, v158, v159, v160, v161, v162, v163, v164, v165, v166, v167, v168, v169, v170, v171, v172, v173, v174, v175, v176, v177, v178, v179, v180, v181, v182, v183, v184, v185, v186, v187, v188, v189, v190, v191, v192, v193, v194, v195, v196, v197, v198], []⟩ W := by
  try dsimp only
  conv => arg 2; whnf
  have hok := HOK.out
  have hye := hok.ye
  have hokA : RuOk (ruTo r (mid - 1)) := ⟨hok.nm, ⟨hye.1, by show r.fr ≤ mid - 1; omega, by show mid - 1 ≤ 9999; omega⟩, hok.mo, hok.dy, hok.mm, hok.sv, hok.lt⟩
  have hokB : RuOk (ruFr r mid) := ⟨hok.nm, ⟨by show 1 ≤ mid; omega, by show mid ≤ r.tt; omega, hye.2.2⟩, hok.mo, hok.dy, hok.mm, hok.sv, hok.lt⟩
  have hB := HB.out
  have hbdA : ((ruTo r (mid - 1))).Bd := ⟨hB.1, hB.2.1, hB.2.2.1, hB.2.2.2.1, hB.2.2.2.2.1, by simp [Lit.wf, IntKind.min, IntKind.max, IntKind.bits, IntKind.signed]; omega, hB.2.2.2.2.2.2⟩
  have hbdB : ((ruFr r mid)).Bd := ⟨hB.1, hB.2.1, hB.2.2.1, hB.2.2.2.1, by simp [Lit.wf, IntKind.min, IntKind.max, IntKind.bits, IntKind.signed]; omega, hB.2.2.2.2.2⟩
  have hkd : 0 ≤ r.kd := hB.2.2.1.1
  have HKA := Lib.hid hokA; have HKB := Lib.hid hokB; have HDA := Lib.hid hbdA; have HDB := Lib.hid hbdB
  clear hok hokA hokB hB hbdA hbdB
  obtain ⟨i0, hi0, hz0, hz1, hz2⟩ := info_parts info_oc5
  have HI := Lib.hid hi0; clear hi0
  go_upto_block 0 with fail
  go_cut [13] (fun nv wx => nv = .int .i64 ((sumY [r] lo (hi + 1 - lo).toNat : Nat) : Int) ∧ Below w.heap.size w wx)
  case rest =>
    obtain ⟨rfl, b9⟩ := hcut
    go_step
    exact ty_c hk0 HN hsz b9
  case first =>
    go_wp2_with fail
    go_loopw [13, 14] (fun nv yy wr => ∃ j : Nat, yy = .int .i64 (lo + (j : Int)) ∧ (j : Int) ≤ hi + 1 - lo ∧ nv = .int .i64 ((sumY [r] lo j : Nat) : Int) ∧ Below w.heap.size w wr ∧ Blk wr g0 42 r.C ∧ Blk wr ga 42 (ruTo r (mid - 1)).C ∧ Blk wr gb 42 (ruFr r mid).C) (fun _ yy _ => (hi + 1 - intOf yy).toNat)
    case atStart => exact ⟨0, by simp, by omega, rfl, b, x, xa, xb⟩
    case round =>
      clear b x xa xb
      obtain ⟨j, rfl, hj, rfl, b, x, xa, xb⟩ := hrel
      have hsm := sumY_le [r] lo j
      have hsl : sumY [r] lo j ≤ j := by simpa using hsm
      clear hsm
      by_cases hlt : lo + (j : Int) ≤ hi
      · obtain ⟨y, hy⟩ : ∃ y, lo + (j : Int) = y := ⟨_, rfl⟩
        have hSUM := Lib.hid (show sumY [r] lo (j + 1) = sumY [r] lo j + (evL r y).length from by
          show sumY [r] lo j + (rawY [r] (lo + (j : Nat))).length = _
          rw [show lo + ((j : Nat) : Int) = y from hy, one_raw]; unfold evL; split <;> rfl)
        have hyb : 1 ≤ y ∧ y ≤ 2100 := by omega
        rw [hy] at hlt ⊢
        have HY := Lib.hid hy; clear hy
        have hL1 := evL_len r y
        have hpt := parts h1 h2 y
        have hPL := congrArg List.length hpt
        rw [List.length_append] at hPL
        obtain ⟨N1, hN1⟩ : ∃ n, (evL r y).length = n := ⟨_, rfl⟩
        obtain ⟨na, hna⟩ : ∃ n, (evL (ruTo r (mid - 1)) y).length = n := ⟨_, rfl⟩
        obtain ⟨nb, hnb⟩ : ∃ n, (evL (ruFr r mid) y).length = n := ⟨_, rfl⟩
        rw [hN1] at hPL hL1 hSUM
        rw [hna, hnb] at hPL
        have YR := Lib.hid (fun (g : Nat) (U : World) (bU : Below w.heap.size w U) (x : Blk U g 42 r.C) => year_part (r := r) (a := r) (y := y) rfl HOK.out HB.out ⟨by omega, by omega⟩ hN1 g U (hT.below hT.1 bU) x)
        have YA0 := Lib.hid (fun (g : Nat) (U : World) (bU : Below w.heap.size w U) (x : Blk U g 42 (ruTo r (mid - 1)).C) => year_part (r := r) (a := (ruTo r (mid - 1))) (y := y) (toC_of (.inl rfl)) HKA.out HDA.out ⟨by omega, by omega⟩ hna g U (hT.below hT.1 bU) x)
        have YB0 := Lib.hid (fun (g : Nat) (U : World) (bU : Below w.heap.size w U) (x : Blk U g 42 (ruFr r mid).C) => year_part (r := r) (a := (ruFr r mid)) (y := y) (toC_of (.inr rfl)) HKB.out HDB.out ⟨by omega, by omega⟩ hnb g U (hT.below hT.1 bU) x)
        have HEV := Lib.hid hN1
        clear hpt hN1 hna hnb
        have x1 := x.alloc (.cells r.C 42); have xa1 := xa.alloc (.cells r.C 42); have xb1 := xb.alloc (.cells r.C 42); have b1 := bal b (.cells r.C 42); have y1 := Blk.new wr 42 r.C
        have hyc := YR.out _ _ b1 y1
        unfold YaP at hyc
        go_wp2_with (refine wpList_row_g rfl 42 _ rfl _ rfl _ _ _ _ x Tryd.underlying42 rfl (by kernel_rfl) ?_)
        refine hyc.mono ?_; rintro e_ W5 ⟨g, R, rfl, hs, hb, -, hmR⟩
        have b5 := b1.trans (hb.mono b1.size); have x5 := x1.below hb x1.lt; have xa5 := xa1.below hb xa1.lt; have xb5 := xb1.below hb xb1.lt
        clear x1 xa1 xb1 b1 y1 hyc hb b x xa xb YR
        have YA := Lib.hid (fun (g : Nat) (U : World) (bU : Below W5.heap.size W5 U) (x : Blk U g 42 (ruTo r (mid - 1)).C) => YA0.out g U (b5.trans (bU.mono b5.size)) x)
        have YB := Lib.hid (fun (g : Nat) (U : World) (bU : Below W5.heap.size W5 U) (x : Blk U g 42 (ruFr r mid).C) => YB0.out g U (b5.trans (bU.mono b5.size)) x)
        unfold YaP at YA YB
        clear YA0 YB0
        go_upto_region 13 with fail
        go_cut [16] (fun v wx => PaE W5 r y (na + nb) v wx)
        case first =>
          refine r13_any (w := w) (r := r) (mid := mid) (y := y) (na := na) (nb := nb) _ _ (fun _ _ _ _ _ h => h) xa5 xb5 hPL hL1 YA YB (Lib.hid ?_)
          intro v_ wx_ _ _ _ _ _ _ _ _ _ _ _ hpe
          try dsimp only
          go_step
          go_meet
          exact hpe
        case rest =>
          obtain ⟨A9, c9, R9, rfl, bx, hA9, hr9, hm9⟩ := hcut
          have HMR := Lib.hid hmR; have HM9 := Lib.hid hm9; clear hmR hm9
          have b6 := b5.trans (bx.mono b5.size); have x6 := x5.below bx x5.lt; have xa6 := xa5.below bx xa5.lt; have xb6 := xb5.below bx xb5.lt; have hs6 := (hs.below bx).more bx.size
          clear b5 x5 xa5 xb5 hs bx YA YB
          rw [hPL] at hA9 hr9 ⊢
          clear hPL
          go_step
          have d3 : wc.cell? ⟨g0, 3, none⟩ = some (.int .i64 r.mo) := x6.cell 3
          have hno := fun W hW => nominal_any y r.mo r.kd r.dn r.dw r.sec r.ck W hW hkd
          go_upto_region 14 with fail
          go_wp2_with (first | (refine wpList_seg_g rfl 30 _ rfl g0 4 #[.int .u8 r.kd, .int .i64 r.dn, .int .i64 r.dw] rfl _ _ _ _ x6 Tryd.underlying30 rfl (by kernel_rfl) (by rfl) ?_) | (refine wpList_seg_g rfl 33 _ rfl g0 7 #[.int .i64 r.sec, .int .u8 r.ck] rfl _ _ _ _ x6 Tryd.underlying33 rfl (by kernel_rfl) (by rfl) ?_))
          refine (hno _ (hT.below hT.1 b6)).mono ?_; rintro e_ W7 ⟨rfl, hb⟩
          have b7 := b6.trans (hb.mono b6.size); have x7 := x6.below hb x6.lt; have xa7 := xa6.below hb xa6.lt; have xb7 := xb6.below hb xb6.lt; have hs7 := (hs6.below hb).more hb.size
          have hr7 := (hr9.below hb).more hb.size
          clear b6 x6 xa6 xb6 hs6 hb hr9 d3 hno
          have e1 : W7.cell? ⟨g0, 1, none⟩ = some (.int .i64 r.fr) := x7.cell 1
          have e2 : W7.cell? ⟨g0, 2, none⟩ = some (.int .i64 r.tt) := x7.cell 2
          have HNV := Lib.hid (show ∀ e, nomV y r.mo r.kd r.dn r.dw r.sec r.ck = e → rT [r] (0, y) = e from fun e h => h)
          obtain ⟨NV, hNV⟩ : ∃ a, nomV y r.mo r.kd r.dn r.dw r.sec r.ck = a := ⟨_, rfl⟩
          obtain ⟨NE, hNE⟩ : ∃ a, nomE y r.mo r.kd r.dn r.dw r.sec r.ck = a := ⟨_, rfl⟩
          have HO := Lib.hid (show one r y ↔ (r.fr ≤ y ∧ y ≤ r.tt ∧ NE = 0) from by unfold one; rw [hNE])
          rw [hNE, hNV]
          clear hNE hNV
          have wy : IntKind.i64.wrap (y + 1) = y + 1 := by simp [IntKind.wrap, IntKind.bits, IntKind.signed]; omega
          have HREL := Lib.hid (show lo + ((j + 1 : Nat) : Int) = y + 1 from by have := HY.out; omega)
          have hj1 : ((j + 1 : Nat) : Int) ≤ hi + 1 - lo := by have := HY.out; omega
          have hme : (hi + 1 - (y + 1)).toNat < (hi + 1 - y).toNat := by omega
          have hsn : IntKind.i64.wrap ((sumY [r] lo j : Int) + 1) = (sumY [r] lo j : Int) + 1 := by simp [IntKind.wrap, IntKind.bits, IntKind.signed]; omega
          have hsn0 : IntKind.i64.wrap ((sumY [r] lo j : Int)) = (sumY [r] lo j : Int) := by simp [IntKind.wrap, IntKind.bits, IntKind.signed]; omega
          generalize sumY [r] lo j = sj at *
          by_cases q : one r y
          · obtain ⟨q1, q2, rfl⟩ := HO.out.1 q
            obtain rfl : N1 = 1 := by have := HEV.out; unfold evL at this; rw [if_pos q] at this; exact this.symm
            obtain ⟨g9, rfl⟩ := hA9 Nat.zero_lt_one
            obtain ⟨TT, hTT⟩ : ∃ t, rT [r] (0, y) = t := ⟨_, rfl⟩
            have HW := Lib.hid (show ∀ (g : Nat) (R : List Oc), Sls (toC [r]) 5 W7 W7.heap.size (some ⟨g, 0, none⟩) 1 R → (∀ x ∈ R, x.1 = (0, y)) → W7.cell? ⟨g, 0, none⟩ = some (.int .i64 TT) ∧ W7.cell? ⟨g, 1, none⟩ = some (.int .u8 r.ck) ∧ W7.cell? ⟨g, 2, none⟩ = some (.int .i64 r.sv) ∧ W7.cell? ⟨g, 4, none⟩ = some (.string r.lt) from fun g R s hm => by
              obtain ⟨ad, eA, hrow⟩ := s.row (fun _ => rfl) ((0, 0), 0) Nat.zero_lt_one
              injection eA with eA; subst eA
              have hmem := hm _ (getD_mem (L := R) ((0, 0), 0) (by rw [s.len]; exact Nat.zero_lt_one))
              obtain ⟨⟨xe, xs⟩, hxx⟩ : ∃ z, R.getD 0 ((0, 0), 0) = z := ⟨_, rfl⟩
              rw [hxx] at hrow hmem
              have hxe : xe = (0, y) := hmem
              subst hxe
              have h0 := row_0 (sz := 5) hrow
              exact ⟨by rw [← hTT]; exact row_c0 h0 rfl, row_cj h0 1 (by decide) rfl, row_cj h0 2 (by decide) rfl, row_cj h0 4 (by decide) rfl⟩)
            obtain ⟨f4, f5, -, -⟩ := HW.out _ _ hs7 HMR.out
            obtain ⟨f1, -, f2, f3⟩ := HW.out _ _ hr7 HM9.out
            have f6 : W7.cell? ⟨g0, 9, none⟩ = some (.int .i64 r.sv) := x7.cell 9
            have f7 : W7.cell? ⟨g0, 10, none⟩ = some (.string r.lt) := x7.cell 10
            have f8 : W7.cell? ⟨g0, 8, none⟩ = some (.int .u8 r.ck) := x7.cell 8
            clear hTT HW hs7 hr7
            go_upto_region 17 with fail
            refine wp_region_held_drew (S := fun w' => w'.cell? ⟨g9, 0, none⟩ = some (.int .i64 TT) ∧ w'.cell? ⟨g9, 2, none⟩ = some (.int .i64 r.sv) ∧ w'.cell? ⟨g9, 4, none⟩ = some (.string r.lt) ∧ w'.cell? ⟨g, 0, none⟩ = some (.int .i64 TT) ∧ w'.cell? ⟨g, 1, none⟩ = some (.int .u8 r.ck) ∧ w'.cell? ⟨g0, 9, none⟩ = some (.int .i64 r.sv) ∧ w'.cell? ⟨g0, 10, none⟩ = some (.string r.lt) ∧ w'.cell? ⟨g0, 8, none⟩ = some (.int .u8 r.ck)) (by kernel_rfl) (⟨f1, f2, f3, f4, f5, f6, f7, f8⟩) (fun hHeld => ?_)
            refine wpAnyH_take (i := 0) (oi := { dst := some 138, op := Op.move (Operand.tmp 15), type := 46, pos := "top08.go:72", after := #[], guard := none }) (v := ?_) rfl (by kernel_rfl) (by kernel_rfl) (by kernel_rfl) (fun _ _ _ h => h) (Or.inl ⟨by rfl, ?_⟩) hHeld ?_
            rotate_left
            · intro w hSw
              try dsimp only at hSw
              go_simp
              try with_reducible rfl
            try simp only [Act.put, List.setIfInBounds_toArray, List.set_cons_zero, List.set_cons_succ]
            refine wpAnyH_take (i := 1) (oi := { dst := some 139, op := Op.call { callee := Callee.builtin Builtin.len, args := #[Operand.tmp 138], argTypes := #[46] }, type := 3, pos := "top08.go:72", after := #[{ on := 0, ground := Ground.data }], guard := none }) (v := ?_) rfl (by kernel_rfl) (by kernel_rfl) (by kernel_rfl) (fun _ _ _ h => h) (Or.inl ⟨by rfl, ?_⟩) hHeld ?_
            rotate_left
            · intro w hSw
              try dsimp only at hSw
              go_simp
              try with_reducible rfl
            try simp only [Act.put, List.setIfInBounds_toArray, List.set_cons_zero, List.set_cons_succ]
            refine wpAnyH_take (i := 2) (oi := { dst := some 140, op := Op.binOp BinOp.eql 3 (Operand.tmp 139) (Operand.const (Value.int IntKind.i64 1)) 3, type := 4, pos := "top08.go:72", after := #[{ on := 1, ground := Ground.data }], guard := none }) (v := ?_) rfl (by kernel_rfl) (by kernel_rfl) (by kernel_rfl) (fun _ _ _ h => h) (Or.inl ⟨by rfl, ?_⟩) hHeld ?_
            rotate_left
            · intro w hSw
              try dsimp only at hSw
              go_simp
              try with_reducible rfl
            try simp only [Act.put, List.setIfInBounds_toArray, List.set_cons_zero, List.set_cons_succ]
            refine wpAnyH_take (i := 3) (oi := { dst := some 141, op := Op.move (Operand.tmp 140), type := 4, pos := "top08.go:72", after := #[{ on := 2, ground := Ground.data }], guard := none }) (v := ?_) rfl (by kernel_rfl) (by kernel_rfl) (by kernel_rfl) (fun _ _ _ h => h) (Or.inl ⟨by rfl, ?_⟩) hHeld ?_
            rotate_left
            · intro w hSw
              try dsimp only at hSw
              go_simp
              try with_reducible rfl
            try simp only [Act.put, List.setIfInBounds_toArray, List.set_cons_zero, List.set_cons_succ]
            refine wpAnyH_take (i := 4) (oi := { dst := some 142, op := Op.move (Operand.tmp 16), type := 46, pos := "top08.go:72", after := #[{ on := 3, ground := Ground.guard }], guard := some (3, true) }) (v := ?_) rfl (by kernel_rfl) (by kernel_rfl) (by kernel_rfl) (fun _ _ _ h => h) (Or.inl ⟨by rfl, ?_⟩) hHeld ?_
            rotate_left
            · intro w hSw
              try dsimp only at hSw
              go_simp
              try with_reducible rfl
            try simp only [Act.put, List.setIfInBounds_toArray, List.set_cons_zero, List.set_cons_succ]
            refine wpAnyH_take (i := 5) (oi := { dst := some 143, op := Op.indexAddr 46 (Operand.tmp 142) (Operand.const (Value.int IntKind.i64 0)), type := 0, pos := "top08.go:72", after := #[{ on := 4, ground := Ground.data }, { on := 3, ground := Ground.guard }], guard := some (3, true) }) (v := ?_) rfl (by kernel_rfl) (by kernel_rfl) (by kernel_rfl) (fun _ _ _ h => h) (Or.inl ⟨by rfl, ?_⟩) hHeld ?_
            rotate_left
            · intro w hSw
              try dsimp only at hSw
              go_simp
              try with_reducible rfl
            try simp only [Act.put, List.setIfInBounds_toArray, List.set_cons_zero, List.set_cons_succ]
            refine wpAnyH_take (i := 6) (oi := { dst := some 144, op := Op.fieldAddr 49 (Operand.tmp 143) 0, type := 0, pos := "top08.go:72", after := #[{ on := 5, ground := Ground.data }, { on := 3, ground := Ground.guard }], guard := some (3, true) }) (v := ?_) rfl (by kernel_rfl) (by kernel_rfl) (by kernel_rfl) (fun _ _ _ h => h) (Or.inl ⟨by rfl, ?_⟩) hHeld ?_
            rotate_left
            · intro w hSw
              try dsimp only at hSw
              go_simp
              try with_reducible rfl
            try simp only [Act.put, List.setIfInBounds_toArray, List.set_cons_zero, List.set_cons_succ]
            refine wpAnyH_take (i := 7) (oi := { dst := some 145, op := Op.load 2 (Operand.tmp 144), type := 2, pos := "top08.go:72", after := #[{ on := 6, ground := Ground.data }, { on := 3, ground := Ground.guard }], guard := some (3, true) }) (v := ?_) rfl (by kernel_rfl) (by kernel_rfl) (by kernel_rfl) (fun _ _ _ h => h) (Or.inl ⟨by rfl, ?_⟩) hHeld ?_
            rotate_left
            · intro w hSw
              try dsimp only at hSw
              go_simp
              try with_reducible rfl
            try simp only [Act.put, List.setIfInBounds_toArray, List.set_cons_zero, List.set_cons_succ]
            refine wpAnyH_take (i := 8) (oi := { dst := some 146, op := Op.move (Operand.tmp 15), type := 46, pos := "top08.go:72", after := #[{ on := 3, ground := Ground.guard }], guard := some (3, true) }) (v := ?_) rfl (by kernel_rfl) (by kernel_rfl) (by kernel_rfl) (fun _ _ _ h => h) (Or.inl ⟨by rfl, ?_⟩) hHeld ?_
            rotate_left
            · intro w hSw
              try dsimp only at hSw
              go_simp
              try with_reducible rfl
            try simp only [Act.put, List.setIfInBounds_toArray, List.set_cons_zero, List.set_cons_succ]
            refine wpAnyH_take (i := 9) (oi := { dst := some 147, op := Op.indexAddr 46 (Operand.tmp 146) (Operand.const (Value.int IntKind.i64 0)), type := 0, pos := "top08.go:72", after := #[{ on := 8, ground := Ground.data }, { on := 3, ground := Ground.guard }], guard := some (3, true) }) (v := ?_) rfl (by kernel_rfl) (by kernel_rfl) (by kernel_rfl) (fun _ _ _ h => h) (Or.inl ⟨by rfl, ?_⟩) hHeld ?_
            rotate_left
            · intro w hSw
              try dsimp only at hSw
              go_simp
              try with_reducible rfl
            try simp only [Act.put, List.setIfInBounds_toArray, List.set_cons_zero, List.set_cons_succ]
            refine wpAnyH_take (i := 10) (oi := { dst := some 148, op := Op.fieldAddr 49 (Operand.tmp 147) 0, type := 0, pos := "top08.go:72", after := #[{ on := 9, ground := Ground.data }, { on := 3, ground := Ground.guard }], guard := some (3, true) }) (v := ?_) rfl (by kernel_rfl) (by kernel_rfl) (by kernel_rfl) (fun _ _ _ h => h) (Or.inl ⟨by rfl, ?_⟩) hHeld ?_
            rotate_left
            · intro w hSw
              try dsimp only at hSw
              go_simp
              try with_reducible rfl
            try simp only [Act.put, List.setIfInBounds_toArray, List.set_cons_zero, List.set_cons_succ]
            refine wpAnyH_take (i := 11) (oi := { dst := some 149, op := Op.load 2 (Operand.tmp 148), type := 2, pos := "top08.go:72", after := #[{ on := 10, ground := Ground.data }, { on := 3, ground := Ground.guard }], guard := some (3, true) }) (v := ?_) rfl (by kernel_rfl) (by kernel_rfl) (by kernel_rfl) (fun _ _ _ h => h) (Or.inl ⟨by rfl, ?_⟩) hHeld ?_
            rotate_left
            · intro w hSw
              try dsimp only at hSw
              go_simp
              try with_reducible rfl
            try simp only [Act.put, List.setIfInBounds_toArray, List.set_cons_zero, List.set_cons_succ]
            refine wpAnyH_take (i := 12) (oi := { dst := some 150, op := Op.binOp BinOp.neq 2 (Operand.tmp 145) (Operand.tmp 149) 2, type := 4, pos := "top08.go:72", after := #[{ on := 7, ground := Ground.data }, { on := 11, ground := Ground.data }, { on := 3, ground := Ground.guard }], guard := some (3, true) }) (v := ?_) rfl (by kernel_rfl) (by kernel_rfl) (by kernel_rfl) (fun _ _ _ h => h) (Or.inl ⟨by rfl, ?_⟩) hHeld ?_
            rotate_left
            · intro w hSw
              try dsimp only at hSw
              go_simp
              try with_reducible rfl
            try simp only [Act.put, List.setIfInBounds_toArray, List.set_cons_zero, List.set_cons_succ]
            refine wpAnyH_take (i := 13) (oi := { dst := some 151, op := Op.move (Operand.tmp 150), type := 4, pos := "top08.go:72", after := #[{ on := 12, ground := Ground.data }, { on := 3, ground := Ground.chain }, { on := 3, ground := Ground.guard }], guard := some (3, true) }) (v := ?_) rfl (by kernel_rfl) (by kernel_rfl) (by kernel_rfl) (fun _ _ _ h => h) (Or.inl ⟨by rfl, ?_⟩) hHeld ?_
            rotate_left
            · intro w hSw
              try dsimp only at hSw
              go_simp
              try with_reducible rfl
            try simp only [Act.put, List.setIfInBounds_toArray, List.set_cons_zero, List.set_cons_succ]
            refine wpAnyH_take (i := 14) (oi := { dst := some 152, op := Op.move (Operand.tmp 16), type := 46, pos := "top08.go:72", after := #[{ on := 13, ground := Ground.guard }], guard := some (13, false) }) (v := ?_) rfl (by kernel_rfl) (by kernel_rfl) (by kernel_rfl) (fun _ _ _ h => h) (Or.inl ⟨by rfl, ?_⟩) hHeld ?_
            rotate_left
            · intro w hSw
              try dsimp only at hSw
              go_simp
              try with_reducible rfl
            try simp only [Act.put, List.setIfInBounds_toArray, List.set_cons_zero, List.set_cons_succ]
            refine wpAnyH_take (i := 15) (oi := { dst := some 153, op := Op.indexAddr 46 (Operand.tmp 152) (Operand.const (Value.int IntKind.i64 0)), type := 0, pos := "top08.go:72", after := #[{ on := 14, ground := Ground.data }, { on := 13, ground := Ground.guard }], guard := some (13, false) }) (v := ?_) rfl (by kernel_rfl) (by kernel_rfl) (by kernel_rfl) (fun _ _ _ h => h) (Or.inl ⟨by rfl, ?_⟩) hHeld ?_
            rotate_left
            · intro w hSw
              try dsimp only at hSw
              go_simp
              try with_reducible rfl
            try simp only [Act.put, List.setIfInBounds_toArray, List.set_cons_zero, List.set_cons_succ]
            refine wpAnyH_take (i := 16) (oi := { dst := some 154, op := Op.fieldAddr 49 (Operand.tmp 153) 2, type := 0, pos := "top08.go:72", after := #[{ on := 15, ground := Ground.data }, { on := 13, ground := Ground.guard }], guard := some (13, false) }) (v := ?_) rfl (by kernel_rfl) (by kernel_rfl) (by kernel_rfl) (fun _ _ _ h => h) (Or.inl ⟨by rfl, ?_⟩) hHeld ?_
            rotate_left
            · intro w hSw
              try dsimp only at hSw
              go_simp
              try with_reducible rfl
            try simp only [Act.put, List.setIfInBounds_toArray, List.set_cons_zero, List.set_cons_succ]
            refine wpAnyH_take (i := 17) (oi := { dst := some 155, op := Op.load 2 (Operand.tmp 154), type := 2, pos := "top08.go:72", after := #[{ on := 16, ground := Ground.data }, { on := 13, ground := Ground.guard }], guard := some (13, false) }) (v := ?_) rfl (by kernel_rfl) (by kernel_rfl) (by kernel_rfl) (fun _ _ _ h => h) (Or.inl ⟨by rfl, ?_⟩) hHeld ?_
            rotate_left
            · intro w hSw
              try dsimp only at hSw
              go_simp
              try with_reducible rfl
            try simp only [Act.put, List.setIfInBounds_toArray, List.set_cons_zero, List.set_cons_succ]
            refine wpAnyH_take (i := 18) (oi := { dst := some 156, op := Op.fieldAddr 42 (Operand.tmp 4) 6, type := 0, pos := "top08.go:72", after := #[{ on := 13, ground := Ground.guard }], guard := some (13, false) }) (v := ?_) rfl (by kernel_rfl) (by kernel_rfl) (by kernel_rfl) (fun _ _ _ h => h) (Or.inl ⟨by rfl, ?_⟩) hHeld ?_
            rotate_left
            · intro w hSw
              try dsimp only at hSw
              go_simp
              try with_reducible rfl
            try simp only [Act.put, List.setIfInBounds_toArray, List.set_cons_zero, List.set_cons_succ]
            refine wpAnyH_take (i := 19) (oi := { dst := some 157, op := Op.load 2 (Operand.tmp 156), type := 2, pos := "top08.go:72", after := #[{ on := 18, ground := Ground.data }, { on := 13, ground := Ground.guard }], guard := some (13, false) }) (v := ?_) rfl (by kernel_rfl) (by kernel_rfl) (by kernel_rfl) (fun _ _ _ h => h) (Or.inl ⟨by rfl, ?_⟩) hHeld ?_
            rotate_left
            · intro w hSw
              try dsimp only at hSw
              go_simp
              try with_reducible rfl
            try simp only [Act.put, List.setIfInBounds_toArray, List.set_cons_zero, List.set_cons_succ]
            refine wpAnyH_take (i := 20) (oi := { dst := some 158, op := Op.binOp BinOp.neq 2 (Operand.tmp 155) (Operand.tmp 157) 2, type := 4, pos := "top08.go:72", after := #[{ on := 17, ground := Ground.data }, { on := 19, ground := Ground.data }, { on := 13, ground := Ground.guard }], guard := some (13, false) }) (v := ?_) rfl (by kernel_rfl) (by kernel_rfl) (by kernel_rfl) (fun _ _ _ h => h) (Or.inl ⟨by rfl, ?_⟩) hHeld ?_
            rotate_left
            · intro w hSw
              try dsimp only at hSw
              go_simp
              try with_reducible rfl
            try simp only [Act.put, List.setIfInBounds_toArray, List.set_cons_zero, List.set_cons_succ]
            refine wpAnyH_take (i := 21) (oi := { dst := some 159, op := Op.pick (Operand.tmp 151) (Operand.const (Value.bool true)) (Operand.tmp 158), type := 4, pos := "top08.go:72", after := #[{ on := 13, ground := Ground.data }, { on := 20, ground := Ground.data }, { on := 3, ground := Ground.guard }], guard := some (3, true) }) (v := ?_) rfl (by kernel_rfl) (by kernel_rfl) (by kernel_rfl) (fun _ _ _ h => h) (Or.inl ⟨by rfl, ?_⟩) hHeld ?_
            rotate_left
            · intro w hSw
              try dsimp only at hSw
              go_simp
              try with_reducible rfl
            try simp only [Act.put, List.setIfInBounds_toArray, List.set_cons_zero, List.set_cons_succ]
            refine wpAnyH_take (i := 22) (oi := { dst := some 160, op := Op.move (Operand.tmp 159), type := 4, pos := "top08.go:72", after := #[{ on := 21, ground := Ground.data }, { on := 13, ground := Ground.chain }, { on := 3, ground := Ground.guard }], guard := some (3, true) }) (v := ?_) rfl (by kernel_rfl) (by kernel_rfl) (by kernel_rfl) (fun _ _ _ h => h) (Or.inl ⟨by rfl, ?_⟩) hHeld ?_
            rotate_left
            · intro w hSw
              try dsimp only at hSw
              go_simp
              try with_reducible rfl
            try simp only [Act.put, List.setIfInBounds_toArray, List.set_cons_zero, List.set_cons_succ]
            refine wpAnyH_take (i := 23) (oi := { dst := some 161, op := Op.move (Operand.tmp 16), type := 46, pos := "top08.go:72", after := #[{ on := 22, ground := Ground.guard }], guard := some (22, false) }) (v := ?_) rfl (by kernel_rfl) (by kernel_rfl) (by kernel_rfl) (fun _ _ _ h => h) (Or.inl ⟨by rfl, ?_⟩) hHeld ?_
            rotate_left
            · intro w hSw
              try dsimp only at hSw
              go_simp
              try with_reducible rfl
            try simp only [Act.put, List.setIfInBounds_toArray, List.set_cons_zero, List.set_cons_succ]
            refine wpAnyH_take (i := 24) (oi := { dst := some 162, op := Op.indexAddr 46 (Operand.tmp 161) (Operand.const (Value.int IntKind.i64 0)), type := 0, pos := "top08.go:72", after := #[{ on := 23, ground := Ground.data }, { on := 22, ground := Ground.guard }], guard := some (22, false) }) (v := ?_) rfl (by kernel_rfl) (by kernel_rfl) (by kernel_rfl) (fun _ _ _ h => h) (Or.inl ⟨by rfl, ?_⟩) hHeld ?_
            rotate_left
            · intro w hSw
              try dsimp only at hSw
              go_simp
              try with_reducible rfl
            try simp only [Act.put, List.setIfInBounds_toArray, List.set_cons_zero, List.set_cons_succ]
            refine wpAnyH_take (i := 25) (oi := { dst := some 163, op := Op.fieldAddr 49 (Operand.tmp 162) 4, type := 0, pos := "top08.go:72", after := #[{ on := 24, ground := Ground.data }, { on := 22, ground := Ground.guard }], guard := some (22, false) }) (v := ?_) rfl (by kernel_rfl) (by kernel_rfl) (by kernel_rfl) (fun _ _ _ h => h) (Or.inl ⟨by rfl, ?_⟩) hHeld ?_
            rotate_left
            · intro w hSw
              try dsimp only at hSw
              go_simp
              try with_reducible rfl
            try simp only [Act.put, List.setIfInBounds_toArray, List.set_cons_zero, List.set_cons_succ]
            refine wpAnyH_take (i := 26) (oi := { dst := some 164, op := Op.load 9 (Operand.tmp 163), type := 9, pos := "top08.go:72", after := #[{ on := 25, ground := Ground.data }, { on := 22, ground := Ground.guard }], guard := some (22, false) }) (v := ?_) rfl (by kernel_rfl) (by kernel_rfl) (by kernel_rfl) (fun _ _ _ h => h) (Or.inl ⟨by rfl, ?_⟩) hHeld ?_
            rotate_left
            · intro w hSw
              try dsimp only at hSw
              go_simp
              try with_reducible rfl
            try simp only [Act.put, List.setIfInBounds_toArray, List.set_cons_zero, List.set_cons_succ]
            refine wpAnyH_take (i := 27) (oi := { dst := some 165, op := Op.fieldAddr 42 (Operand.tmp 4) 7, type := 0, pos := "top08.go:72", after := #[{ on := 22, ground := Ground.guard }], guard := some (22, false) }) (v := ?_) rfl (by kernel_rfl) (by kernel_rfl) (by kernel_rfl) (fun _ _ _ h => h) (Or.inl ⟨by rfl, ?_⟩) hHeld ?_
            rotate_left
            · intro w hSw
              try dsimp only at hSw
              go_simp
              try with_reducible rfl
            try simp only [Act.put, List.setIfInBounds_toArray, List.set_cons_zero, List.set_cons_succ]
            refine wpAnyH_take (i := 28) (oi := { dst := some 166, op := Op.load 9 (Operand.tmp 165), type := 9, pos := "top08.go:72", after := #[{ on := 27, ground := Ground.data }, { on := 22, ground := Ground.guard }], guard := some (22, false) }) (v := ?_) rfl (by kernel_rfl) (by kernel_rfl) (by kernel_rfl) (fun _ _ _ h => h) (Or.inl ⟨by rfl, ?_⟩) hHeld ?_
            rotate_left
            · intro w hSw
              try dsimp only at hSw
              go_simp
              try with_reducible rfl
            try simp only [Act.put, List.setIfInBounds_toArray, List.set_cons_zero, List.set_cons_succ]
            refine wpAnyH_take (i := 29) (oi := { dst := some 167, op := Op.binOp BinOp.neq 9 (Operand.tmp 164) (Operand.tmp 166) 9, type := 4, pos := "top08.go:72", after := #[{ on := 26, ground := Ground.data }, { on := 28, ground := Ground.data }, { on := 22, ground := Ground.guard }], guard := some (22, false) }) (v := ?_) rfl (by kernel_rfl) (by kernel_rfl) (by kernel_rfl) (fun _ _ _ h => h) (Or.inl ⟨by rfl, ?_⟩) hHeld ?_
            rotate_left
            · intro w hSw
              try dsimp only at hSw
              go_simp
              try with_reducible rfl
            try simp only [Act.put, List.setIfInBounds_toArray, List.set_cons_zero, List.set_cons_succ]
            refine wpAnyH_take (i := 30) (oi := { dst := some 168, op := Op.pick (Operand.tmp 160) (Operand.const (Value.bool true)) (Operand.tmp 167), type := 4, pos := "top08.go:72", after := #[{ on := 22, ground := Ground.data }, { on := 29, ground := Ground.data }, { on := 3, ground := Ground.guard }], guard := some (3, true) }) (v := ?_) rfl (by kernel_rfl) (by kernel_rfl) (by kernel_rfl) (fun _ _ _ h => h) (Or.inl ⟨by rfl, ?_⟩) hHeld ?_
            rotate_left
            · intro w hSw
              try dsimp only at hSw
              go_simp
              try with_reducible rfl
            try simp only [Act.put, List.setIfInBounds_toArray, List.set_cons_zero, List.set_cons_succ]
            refine wpAnyH_take (i := 31) (oi := { dst := some 169, op := Op.move (Operand.tmp 168), type := 4, pos := "top08.go:72", after := #[{ on := 30, ground := Ground.data }, { on := 22, ground := Ground.chain }, { on := 3, ground := Ground.guard }], guard := some (3, true) }) (v := ?_) rfl (by kernel_rfl) (by kernel_rfl) (by kernel_rfl) (fun _ _ _ h => h) (Or.inl ⟨by rfl, ?_⟩) hHeld ?_
            rotate_left
            · intro w hSw
              try dsimp only at hSw
              go_simp
              try with_reducible rfl
            try simp only [Act.put, List.setIfInBounds_toArray, List.set_cons_zero, List.set_cons_succ]
            refine wpAnyH_take (i := 32) (oi := { dst := some 170, op := Op.move (Operand.tmp 15), type := 46, pos := "top08.go:72", after := #[{ on := 31, ground := Ground.guard }], guard := some (31, false) }) (v := ?_) rfl (by kernel_rfl) (by kernel_rfl) (by kernel_rfl) (fun _ _ _ h => h) (Or.inl ⟨by rfl, ?_⟩) hHeld ?_
            rotate_left
            · intro w hSw
              try dsimp only at hSw
              go_simp
              try with_reducible rfl
            try simp only [Act.put, List.setIfInBounds_toArray, List.set_cons_zero, List.set_cons_succ]
            refine wpAnyH_take (i := 33) (oi := { dst := some 171, op := Op.indexAddr 46 (Operand.tmp 170) (Operand.const (Value.int IntKind.i64 0)), type := 0, pos := "top08.go:72", after := #[{ on := 32, ground := Ground.data }, { on := 31, ground := Ground.guard }], guard := some (31, false) }) (v := ?_) rfl (by kernel_rfl) (by kernel_rfl) (by kernel_rfl) (fun _ _ _ h => h) (Or.inl ⟨by rfl, ?_⟩) hHeld ?_
            rotate_left
            · intro w hSw
              try dsimp only at hSw
              go_simp
              try with_reducible rfl
            try simp only [Act.put, List.setIfInBounds_toArray, List.set_cons_zero, List.set_cons_succ]
            refine wpAnyH_take (i := 34) (oi := { dst := some 172, op := Op.fieldAddr 49 (Operand.tmp 171) 1, type := 0, pos := "top08.go:72", after := #[{ on := 33, ground := Ground.data }, { on := 31, ground := Ground.guard }], guard := some (31, false) }) (v := ?_) rfl (by kernel_rfl) (by kernel_rfl) (by kernel_rfl) (fun _ _ _ h => h) (Or.inl ⟨by rfl, ?_⟩) hHeld ?_
            rotate_left
            · intro w hSw
              try dsimp only at hSw
              go_simp
              try with_reducible rfl
            try simp only [Act.put, List.setIfInBounds_toArray, List.set_cons_zero, List.set_cons_succ]
            refine wpAnyH_take (i := 35) (oi := { dst := some 173, op := Op.load 31 (Operand.tmp 172), type := 31, pos := "top08.go:72", after := #[{ on := 34, ground := Ground.data }, { on := 31, ground := Ground.guard }], guard := some (31, false) }) (v := ?_) rfl (by kernel_rfl) (by kernel_rfl) (by kernel_rfl) (fun _ _ _ h => h) (Or.inl ⟨by rfl, ?_⟩) hHeld ?_
            rotate_left
            · intro w hSw
              try dsimp only at hSw
              go_simp
              try with_reducible rfl
            try simp only [Act.put, List.setIfInBounds_toArray, List.set_cons_zero, List.set_cons_succ]
            refine wpAnyH_take (i := 36) (oi := { dst := some 174, op := Op.fieldAddr 42 (Operand.tmp 4) 5, type := 0, pos := "top08.go:72", after := #[{ on := 31, ground := Ground.guard }], guard := some (31, false) }) (v := ?_) rfl (by kernel_rfl) (by kernel_rfl) (by kernel_rfl) (fun _ _ _ h => h) (Or.inl ⟨by rfl, ?_⟩) hHeld ?_
            rotate_left
            · intro w hSw
              try dsimp only at hSw
              go_simp
              try with_reducible rfl
            try simp only [Act.put, List.setIfInBounds_toArray, List.set_cons_zero, List.set_cons_succ]
            refine wpAnyH_take (i := 37) (oi := { dst := some 175, op := Op.fieldAddr 33 (Operand.tmp 174) 1, type := 0, pos := "top08.go:72", after := #[{ on := 36, ground := Ground.data }, { on := 31, ground := Ground.guard }], guard := some (31, false) }) (v := ?_) rfl (by kernel_rfl) (by kernel_rfl) (by kernel_rfl) (fun _ _ _ h => h) (Or.inl ⟨by rfl, ?_⟩) hHeld ?_
            rotate_left
            · intro w hSw
              try dsimp only at hSw
              go_simp
              try with_reducible rfl
            try simp only [Act.put, List.setIfInBounds_toArray, List.set_cons_zero, List.set_cons_succ]
            refine wpAnyH_take (i := 38) (oi := { dst := some 176, op := Op.load 31 (Operand.tmp 175), type := 31, pos := "top08.go:72", after := #[{ on := 37, ground := Ground.data }, { on := 31, ground := Ground.guard }], guard := some (31, false) }) (v := ?_) rfl (by kernel_rfl) (by kernel_rfl) (by kernel_rfl) (fun _ _ _ h => h) (Or.inl ⟨by rfl, ?_⟩) hHeld ?_
            rotate_left
            · intro w hSw
              try dsimp only at hSw
              go_simp
              try with_reducible rfl
            try simp only [Act.put, List.setIfInBounds_toArray, List.set_cons_zero, List.set_cons_succ]
            refine wpAnyH_take (i := 39) (oi := { dst := some 177, op := Op.binOp BinOp.neq 31 (Operand.tmp 173) (Operand.tmp 176) 31, type := 4, pos := "top08.go:72", after := #[{ on := 35, ground := Ground.data }, { on := 38, ground := Ground.data }, { on := 31, ground := Ground.guard }], guard := some (31, false) }) (v := ?_) rfl (by kernel_rfl) (by kernel_rfl) (by kernel_rfl) (fun _ _ _ h => h) (Or.inl ⟨by rfl, ?_⟩) hHeld ?_
            rotate_left
            · intro w hSw
              try dsimp only at hSw
              go_simp
              try with_reducible rfl
            try simp only [Act.put, List.setIfInBounds_toArray, List.set_cons_zero, List.set_cons_succ]
            refine wpAnyH_take (i := 40) (oi := { dst := some 178, op := Op.pick (Operand.tmp 169) (Operand.const (Value.bool true)) (Operand.tmp 177), type := 4, pos := "top08.go:72", after := #[{ on := 31, ground := Ground.data }, { on := 39, ground := Ground.data }, { on := 3, ground := Ground.guard }], guard := some (3, true) }) (v := ?_) rfl (by kernel_rfl) (by kernel_rfl) (by kernel_rfl) (fun _ _ _ h => h) (Or.inl ⟨by rfl, ?_⟩) hHeld ?_
            rotate_left
            · intro w hSw
              try dsimp only at hSw
              go_simp
              try with_reducible rfl
            try simp only [Act.put, List.setIfInBounds_toArray, List.set_cons_zero, List.set_cons_succ]
            refine wpAnyH_take (i := 41) (oi := { dst := some 179, op := Op.pick (Operand.tmp 141) (Operand.tmp 178) (Operand.const (Value.bool false)), type := 4, pos := "top08.go:72", after := #[{ on := 3, ground := Ground.data }, { on := 40, ground := Ground.data }], guard := none }) (v := ?_) rfl (by kernel_rfl) (by kernel_rfl) (by kernel_rfl) (fun _ _ _ h => h) (Or.inl ⟨by rfl, ?_⟩) hHeld ?_
            rotate_left
            · intro w hSw
              try dsimp only at hSw
              go_simp
              try with_reducible rfl
            try simp only [Act.put, List.setIfInBounds_toArray, List.set_cons_zero, List.set_cons_succ]
            refine wpAnyH_done (by kernel_rfl) ?_ _
            clear hHeld
            go_wp2_with fail
            go_roundw
            case rel => exact ⟨j + 1, by rw [HREL.out], hj1, by rw [hSUM.out]; simp, by first | exact b7 | exact b7.drew, by first | exact x7 | exact x7.drew, by first | exact xa7 | exact xa7.drew, by first | exact xb7 | exact xb7.drew⟩
            case measure => simpa [intOf] using hme
          · obtain rfl : N1 = 0 := by have := HEV.out; unfold evL at this; rw [if_neg q] at this; exact this.symm
            have hq2 := fun h => q (HO.out.2 h)
            clear q hs7 hr7 hA9
            by_cases n1 : NE = 0
            rotate_left
            · have n1b : (NE == 0) = false := by rw [beq_eq_false_iff_ne]; exact n1
              clear hq2 n1
              go_upto_region 17 with fail
              refine wp_region_held_drew (S := fun w' => Below w.heap.size w w') (by kernel_rfl) (b7.drew) (fun hHeld => ?_)
              refine wpAnyH_take (i := 0) (oi := { dst := some 138, op := Op.move (Operand.tmp 15), type := 46, pos := "top08.go:72", after := #[], guard := none }) (v := ?_) rfl (by kernel_rfl) (by kernel_rfl) (by kernel_rfl) (fun _ _ _ h => h) (Or.inl ⟨by rfl, ?_⟩) hHeld ?_
              rotate_left
              · intro w hSw
                try dsimp only at hSw
                go_simp
                try with_reducible rfl
              try simp only [Act.put, List.setIfInBounds_toArray, List.set_cons_zero, List.set_cons_succ]
              refine wpAnyH_take (i := 1) (oi := { dst := some 139, op := Op.call { callee := Callee.builtin Builtin.len, args := #[Operand.tmp 138], argTypes := #[46] }, type := 3, pos := "top08.go:72", after := #[{ on := 0, ground := Ground.data }], guard := none }) (v := ?_) rfl (by kernel_rfl) (by kernel_rfl) (by kernel_rfl) (fun _ _ _ h => h) (Or.inl ⟨by rfl, ?_⟩) hHeld ?_
              rotate_left
              · intro w hSw
                try dsimp only at hSw
                go_simp
                try with_reducible rfl
              try simp only [Act.put, List.setIfInBounds_toArray, List.set_cons_zero, List.set_cons_succ]
              refine wpAnyH_take (i := 2) (oi := { dst := some 140, op := Op.binOp BinOp.eql 3 (Operand.tmp 139) (Operand.const (Value.int IntKind.i64 1)) 3, type := 4, pos := "top08.go:72", after := #[{ on := 1, ground := Ground.data }], guard := none }) (v := ?_) rfl (by kernel_rfl) (by kernel_rfl) (by kernel_rfl) (fun _ _ _ h => h) (Or.inl ⟨by rfl, ?_⟩) hHeld ?_
              rotate_left
              · intro w hSw
                try dsimp only at hSw
                go_simp
                try with_reducible rfl
              try simp only [Act.put, List.setIfInBounds_toArray, List.set_cons_zero, List.set_cons_succ]
              refine wpAnyH_take (i := 3) (oi := { dst := some 141, op := Op.move (Operand.tmp 140), type := 4, pos := "top08.go:72", after := #[{ on := 2, ground := Ground.data }], guard := none }) (v := ?_) rfl (by kernel_rfl) (by kernel_rfl) (by kernel_rfl) (fun _ _ _ h => h) (Or.inl ⟨by rfl, ?_⟩) hHeld ?_
              rotate_left
              · intro w hSw
                try dsimp only at hSw
                go_simp
                try with_reducible rfl
              try simp only [Act.put, List.setIfInBounds_toArray, List.set_cons_zero, List.set_cons_succ]
              refine wpAnyH_take (i := 4) (oi := { dst := some 142, op := Op.move (Operand.tmp 16), type := 46, pos := "top08.go:72", after := #[{ on := 3, ground := Ground.guard }], guard := some (3, true) }) (v := undef) rfl (by kernel_rfl) (by kernel_rfl) (by kernel_rfl) (fun _ _ _ h => h) (Or.inr ⟨by rfl, rfl⟩) hHeld ?_
              try simp only [Act.put, List.setIfInBounds_toArray, List.set_cons_zero, List.set_cons_succ]
              refine wpAnyH_take (i := 5) (oi := { dst := some 143, op := Op.indexAddr 46 (Operand.tmp 142) (Operand.const (Value.int IntKind.i64 0)), type := 0, pos := "top08.go:72", after := #[{ on := 4, ground := Ground.data }, { on := 3, ground := Ground.guard }], guard := some (3, true) }) (v := undef) rfl (by kernel_rfl) (by kernel_rfl) (by kernel_rfl) (fun _ _ _ h => h) (Or.inr ⟨by rfl, rfl⟩) hHeld ?_
              try simp only [Act.put, List.setIfInBounds_toArray, List.set_cons_zero, List.set_cons_succ]
              refine wpAnyH_take (i := 6) (oi := { dst := some 144, op := Op.fieldAddr 49 (Operand.tmp 143) 0, type := 0, pos := "top08.go:72", after := #[{ on := 5, ground := Ground.data }, { on := 3, ground := Ground.guard }], guard := some (3, true) }) (v := undef) rfl (by kernel_rfl) (by kernel_rfl) (by kernel_rfl) (fun _ _ _ h => h) (Or.inr ⟨by rfl, rfl⟩) hHeld ?_
              try simp only [Act.put, List.setIfInBounds_toArray, List.set_cons_zero, List.set_cons_succ]
              refine wpAnyH_take (i := 7) (oi := { dst := some 145, op := Op.load 2 (Operand.tmp 144), type := 2, pos := "top08.go:72", after := #[{ on := 6, ground := Ground.data }, { on := 3, ground := Ground.guard }], guard := some (3, true) }) (v := undef) rfl (by kernel_rfl) (by kernel_rfl) (by kernel_rfl) (fun _ _ _ h => h) (Or.inr ⟨by rfl, rfl⟩) hHeld ?_
              try simp only [Act.put, List.setIfInBounds_toArray, List.set_cons_zero, List.set_cons_succ]
              refine wpAnyH_take (i := 8) (oi := { dst := some 146, op := Op.move (Operand.tmp 15), type := 46, pos := "top08.go:72", after := #[{ on := 3, ground := Ground.guard }], guard := some (3, true) }) (v := undef) rfl (by kernel_rfl) (by kernel_rfl) (by kernel_rfl) (fun _ _ _ h => h) (Or.inr ⟨by rfl, rfl⟩) hHeld ?_
              try simp only [Act.put, List.setIfInBounds_toArray, List.set_cons_zero, List.set_cons_succ]
              refine wpAnyH_take (i := 9) (oi := { dst := some 147, op := Op.indexAddr 46 (Operand.tmp 146) (Operand.const (Value.int IntKind.i64 0)), type := 0, pos := "top08.go:72", after := #[{ on := 8, ground := Ground.data }, { on := 3, ground := Ground.guard }], guard := some (3, true) }) (v := undef) rfl (by kernel_rfl) (by kernel_rfl) (by kernel_rfl) (fun _ _ _ h => h) (Or.inr ⟨by rfl, rfl⟩) hHeld ?_
              try simp only [Act.put, List.setIfInBounds_toArray, List.set_cons_zero, List.set_cons_succ]
              refine wpAnyH_take (i := 10) (oi := { dst := some 148, op := Op.fieldAddr 49 (Operand.tmp 147) 0, type := 0, pos := "top08.go:72", after := #[{ on := 9, ground := Ground.data }, { on := 3, ground := Ground.guard }], guard := some (3, true) }) (v := undef) rfl (by kernel_rfl) (by kernel_rfl) (by kernel_rfl) (fun _ _ _ h => h) (Or.inr ⟨by rfl, rfl⟩) hHeld ?_
              try simp only [Act.put, List.setIfInBounds_toArray, List.set_cons_zero, List.set_cons_succ]
              refine wpAnyH_take (i := 11) (oi := { dst := some 149, op := Op.load 2 (Operand.tmp 148), type := 2, pos := "top08.go:72", after := #[{ on := 10, ground := Ground.data }, { on := 3, ground := Ground.guard }], guard := some (3, true) }) (v := undef) rfl (by kernel_rfl) (by kernel_rfl) (by kernel_rfl) (fun _ _ _ h => h) (Or.inr ⟨by rfl, rfl⟩) hHeld ?_
              try simp only [Act.put, List.setIfInBounds_toArray, List.set_cons_zero, List.set_cons_succ]
              refine wpAnyH_take (i := 12) (oi := { dst := some 150, op := Op.binOp BinOp.neq 2 (Operand.tmp 145) (Operand.tmp 149) 2, type := 4, pos := "top08.go:72", after := #[{ on := 7, ground := Ground.data }, { on := 11, ground := Ground.data }, { on := 3, ground := Ground.guard }], guard := some (3, true) }) (v := undef) rfl (by kernel_rfl) (by kernel_rfl) (by kernel_rfl) (fun _ _ _ h => h) (Or.inr ⟨by rfl, rfl⟩) hHeld ?_
              try simp only [Act.put, List.setIfInBounds_toArray, List.set_cons_zero, List.set_cons_succ]
              refine wpAnyH_take (i := 13) (oi := { dst := some 151, op := Op.move (Operand.tmp 150), type := 4, pos := "top08.go:72", after := #[{ on := 12, ground := Ground.data }, { on := 3, ground := Ground.chain }, { on := 3, ground := Ground.guard }], guard := some (3, true) }) (v := undef) rfl (by kernel_rfl) (by kernel_rfl) (by kernel_rfl) (fun _ _ _ h => h) (Or.inr ⟨by rfl, rfl⟩) hHeld ?_
              try simp only [Act.put, List.setIfInBounds_toArray, List.set_cons_zero, List.set_cons_succ]
              refine wpAnyH_take (i := 14) (oi := { dst := some 152, op := Op.move (Operand.tmp 16), type := 46, pos := "top08.go:72", after := #[{ on := 13, ground := Ground.guard }], guard := some (13, false) }) (v := undef) rfl (by kernel_rfl) (by kernel_rfl) (by kernel_rfl) (fun _ _ _ h => h) (Or.inr ⟨by rfl, rfl⟩) hHeld ?_
              try simp only [Act.put, List.setIfInBounds_toArray, List.set_cons_zero, List.set_cons_succ]
              refine wpAnyH_take (i := 15) (oi := { dst := some 153, op := Op.indexAddr 46 (Operand.tmp 152) (Operand.const (Value.int IntKind.i64 0)), type := 0, pos := "top08.go:72", after := #[{ on := 14, ground := Ground.data }, { on := 13, ground := Ground.guard }], guard := some (13, false) }) (v := undef) rfl (by kernel_rfl) (by kernel_rfl) (by kernel_rfl) (fun _ _ _ h => h) (Or.inr ⟨by rfl, rfl⟩) hHeld ?_
              try simp only [Act.put, List.setIfInBounds_toArray, List.set_cons_zero, List.set_cons_succ]
              refine wpAnyH_take (i := 16) (oi := { dst := some 154, op := Op.fieldAddr 49 (Operand.tmp 153) 2, type := 0, pos := "top08.go:72", after := #[{ on := 15, ground := Ground.data }, { on := 13, ground := Ground.guard }], guard := some (13, false) }) (v := undef) rfl (by kernel_rfl) (by kernel_rfl) (by kernel_rfl) (fun _ _ _ h => h) (Or.inr ⟨by rfl, rfl⟩) hHeld ?_
              try simp only [Act.put, List.setIfInBounds_toArray, List.set_cons_zero, List.set_cons_succ]
              refine wpAnyH_take (i := 17) (oi := { dst := some 155, op := Op.load 2 (Operand.tmp 154), type := 2, pos := "top08.go:72", after := #[{ on := 16, ground := Ground.data }, { on := 13, ground := Ground.guard }], guard := some (13, false) }) (v := undef) rfl (by kernel_rfl) (by kernel_rfl) (by kernel_rfl) (fun _ _ _ h => h) (Or.inr ⟨by rfl, rfl⟩) hHeld ?_
              try simp only [Act.put, List.setIfInBounds_toArray, List.set_cons_zero, List.set_cons_succ]
              refine wpAnyH_take (i := 18) (oi := { dst := some 156, op := Op.fieldAddr 42 (Operand.tmp 4) 6, type := 0, pos := "top08.go:72", after := #[{ on := 13, ground := Ground.guard }], guard := some (13, false) }) (v := undef) rfl (by kernel_rfl) (by kernel_rfl) (by kernel_rfl) (fun _ _ _ h => h) (Or.inr ⟨by rfl, rfl⟩) hHeld ?_
              try simp only [Act.put, List.setIfInBounds_toArray, List.set_cons_zero, List.set_cons_succ]
              refine wpAnyH_take (i := 19) (oi := { dst := some 157, op := Op.load 2 (Operand.tmp 156), type := 2, pos := "top08.go:72", after := #[{ on := 18, ground := Ground.data }, { on := 13, ground := Ground.guard }], guard := some (13, false) }) (v := undef) rfl (by kernel_rfl) (by kernel_rfl) (by kernel_rfl) (fun _ _ _ h => h) (Or.inr ⟨by rfl, rfl⟩) hHeld ?_
              try simp only [Act.put, List.setIfInBounds_toArray, List.set_cons_zero, List.set_cons_succ]
              refine wpAnyH_take (i := 20) (oi := { dst := some 158, op := Op.binOp BinOp.neq 2 (Operand.tmp 155) (Operand.tmp 157) 2, type := 4, pos := "top08.go:72", after := #[{ on := 17, ground := Ground.data }, { on := 19, ground := Ground.data }, { on := 13, ground := Ground.guard }], guard := some (13, false) }) (v := undef) rfl (by kernel_rfl) (by kernel_rfl) (by kernel_rfl) (fun _ _ _ h => h) (Or.inr ⟨by rfl, rfl⟩) hHeld ?_
              try simp only [Act.put, List.setIfInBounds_toArray, List.set_cons_zero, List.set_cons_succ]
              refine wpAnyH_take (i := 21) (oi := { dst := some 159, op := Op.pick (Operand.tmp 151) (Operand.const (Value.bool true)) (Operand.tmp 158), type := 4, pos := "top08.go:72", after := #[{ on := 13, ground := Ground.data }, { on := 20, ground := Ground.data }, { on := 3, ground := Ground.guard }], guard := some (3, true) }) (v := undef) rfl (by kernel_rfl) (by kernel_rfl) (by kernel_rfl) (fun _ _ _ h => h) (Or.inr ⟨by rfl, rfl⟩) hHeld ?_
              try simp only [Act.put, List.setIfInBounds_toArray, List.set_cons_zero, List.set_cons_succ]
              refine wpAnyH_take (i := 22) (oi := { dst := some 160, op := Op.move (Operand.tmp 159), type := 4, pos := "top08.go:72", after := #[{ on := 21, ground := Ground.data }, { on := 13, ground := Ground.chain }, { on := 3, ground := Ground.guard }], guard := some (3, true) }) (v := undef) rfl (by kernel_rfl) (by kernel_rfl) (by kernel_rfl) (fun _ _ _ h => h) (Or.inr ⟨by rfl, rfl⟩) hHeld ?_
              try simp only [Act.put, List.setIfInBounds_toArray, List.set_cons_zero, List.set_cons_succ]
              refine wpAnyH_take (i := 23) (oi := { dst := some 161, op := Op.move (Operand.tmp 16), type := 46, pos := "top08.go:72", after := #[{ on := 22, ground := Ground.guard }], guard := some (22, false) }) (v := undef) rfl (by kernel_rfl) (by kernel_rfl) (by kernel_rfl) (fun _ _ _ h => h) (Or.inr ⟨by rfl, rfl⟩) hHeld ?_
              try simp only [Act.put, List.setIfInBounds_toArray, List.set_cons_zero, List.set_cons_succ]
              refine wpAnyH_take (i := 24) (oi := { dst := some 162, op := Op.indexAddr 46 (Operand.tmp 161) (Operand.const (Value.int IntKind.i64 0)), type := 0, pos := "top08.go:72", after := #[{ on := 23, ground := Ground.data }, { on := 22, ground := Ground.guard }], guard := some (22, false) }) (v := undef) rfl (by kernel_rfl) (by kernel_rfl) (by kernel_rfl) (fun _ _ _ h => h) (Or.inr ⟨by rfl, rfl⟩) hHeld ?_
              try simp only [Act.put, List.setIfInBounds_toArray, List.set_cons_zero, List.set_cons_succ]
              refine wpAnyH_take (i := 25) (oi := { dst := some 163, op := Op.fieldAddr 49 (Operand.tmp 162) 4, type := 0, pos := "top08.go:72", after := #[{ on := 24, ground := Ground.data }, { on := 22, ground := Ground.guard }], guard := some (22, false) }) (v := undef) rfl (by kernel_rfl) (by kernel_rfl) (by kernel_rfl) (fun _ _ _ h => h) (Or.inr ⟨by rfl, rfl⟩) hHeld ?_
              try simp only [Act.put, List.setIfInBounds_toArray, List.set_cons_zero, List.set_cons_succ]
              refine wpAnyH_take (i := 26) (oi := { dst := some 164, op := Op.load 9 (Operand.tmp 163), type := 9, pos := "top08.go:72", after := #[{ on := 25, ground := Ground.data }, { on := 22, ground := Ground.guard }], guard := some (22, false) }) (v := undef) rfl (by kernel_rfl) (by kernel_rfl) (by kernel_rfl) (fun _ _ _ h => h) (Or.inr ⟨by rfl, rfl⟩) hHeld ?_
              try simp only [Act.put, List.setIfInBounds_toArray, List.set_cons_zero, List.set_cons_succ]
              refine wpAnyH_take (i := 27) (oi := { dst := some 165, op := Op.fieldAddr 42 (Operand.tmp 4) 7, type := 0, pos := "top08.go:72", after := #[{ on := 22, ground := Ground.guard }], guard := some (22, false) }) (v := undef) rfl (by kernel_rfl) (by kernel_rfl) (by kernel_rfl) (fun _ _ _ h => h) (Or.inr ⟨by rfl, rfl⟩) hHeld ?_
              try simp only [Act.put, List.setIfInBounds_toArray, List.set_cons_zero, List.set_cons_succ]
              refine wpAnyH_take (i := 28) (oi := { dst := some 166, op := Op.load 9 (Operand.tmp 165), type := 9, pos := "top08.go:72", after := #[{ on := 27, ground := Ground.data }, { on := 22, ground := Ground.guard }], guard := some (22, false) }) (v := undef) rfl (by kernel_rfl) (by kernel_rfl) (by kernel_rfl) (fun _ _ _ h => h) (Or.inr ⟨by rfl, rfl⟩) hHeld ?_
              try simp only [Act.put, List.setIfInBounds_toArray, List.set_cons_zero, List.set_cons_succ]
              refine wpAnyH_take (i := 29) (oi := { dst := some 167, op := Op.binOp BinOp.neq 9 (Operand.tmp 164) (Operand.tmp 166) 9, type := 4, pos := "top08.go:72", after := #[{ on := 26, ground := Ground.data }, { on := 28, ground := Ground.data }, { on := 22, ground := Ground.guard }], guard := some (22, false) }) (v := undef) rfl (by kernel_rfl) (by kernel_rfl) (by kernel_rfl) (fun _ _ _ h => h) (Or.inr ⟨by rfl, rfl⟩) hHeld ?_
              try simp only [Act.put, List.setIfInBounds_toArray, List.set_cons_zero, List.set_cons_succ]
              refine wpAnyH_take (i := 30) (oi := { dst := some 168, op := Op.pick (Operand.tmp 160) (Operand.const (Value.bool true)) (Operand.tmp 167), type := 4, pos := "top08.go:72", after := #[{ on := 22, ground := Ground.data }, { on := 29, ground := Ground.data }, { on := 3, ground := Ground.guard }], guard := some (3, true) }) (v := undef) rfl (by kernel_rfl) (by kernel_rfl) (by kernel_rfl) (fun _ _ _ h => h) (Or.inr ⟨by rfl, rfl⟩) hHeld ?_
              try simp only [Act.put, List.setIfInBounds_toArray, List.set_cons_zero, List.set_cons_succ]
              refine wpAnyH_take (i := 31) (oi := { dst := some 169, op := Op.move (Operand.tmp 168), type := 4, pos := "top08.go:72", after := #[{ on := 30, ground := Ground.data }, { on := 22, ground := Ground.chain }, { on := 3, ground := Ground.guard }], guard := some (3, true) }) (v := undef) rfl (by kernel_rfl) (by kernel_rfl) (by kernel_rfl) (fun _ _ _ h => h) (Or.inr ⟨by rfl, rfl⟩) hHeld ?_
              try simp only [Act.put, List.setIfInBounds_toArray, List.set_cons_zero, List.set_cons_succ]
              refine wpAnyH_take (i := 32) (oi := { dst := some 170, op := Op.move (Operand.tmp 15), type := 46, pos := "top08.go:72", after := #[{ on := 31, ground := Ground.guard }], guard := some (31, false) }) (v := undef) rfl (by kernel_rfl) (by kernel_rfl) (by kernel_rfl) (fun _ _ _ h => h) (Or.inr ⟨by rfl, rfl⟩) hHeld ?_
              try simp only [Act.put, List.setIfInBounds_toArray, List.set_cons_zero, List.set_cons_succ]
              refine wpAnyH_take (i := 33) (oi := { dst := some 171, op := Op.indexAddr 46 (Operand.tmp 170) (Operand.const (Value.int IntKind.i64 0)), type := 0, pos := "top08.go:72", after := #[{ on := 32, ground := Ground.data }, { on := 31, ground := Ground.guard }], guard := some (31, false) }) (v := undef) rfl (by kernel_rfl) (by kernel_rfl) (by kernel_rfl) (fun _ _ _ h => h) (Or.inr ⟨by rfl, rfl⟩) hHeld ?_
              try simp only [Act.put, List.setIfInBounds_toArray, List.set_cons_zero, List.set_cons_succ]
              refine wpAnyH_take (i := 34) (oi := { dst := some 172, op := Op.fieldAddr 49 (Operand.tmp 171) 1, type := 0, pos := "top08.go:72", after := #[{ on := 33, ground := Ground.data }, { on := 31, ground := Ground.guard }], guard := some (31, false) }) (v := undef) rfl (by kernel_rfl) (by kernel_rfl) (by kernel_rfl) (fun _ _ _ h => h) (Or.inr ⟨by rfl, rfl⟩) hHeld ?_
              try simp only [Act.put, List.setIfInBounds_toArray, List.set_cons_zero, List.set_cons_succ]
              refine wpAnyH_take (i := 35) (oi := { dst := some 173, op := Op.load 31 (Operand.tmp 172), type := 31, pos := "top08.go:72", after := #[{ on := 34, ground := Ground.data }, { on := 31, ground := Ground.guard }], guard := some (31, false) }) (v := undef) rfl (by kernel_rfl) (by kernel_rfl) (by kernel_rfl) (fun _ _ _ h => h) (Or.inr ⟨by rfl, rfl⟩) hHeld ?_
              try simp only [Act.put, List.setIfInBounds_toArray, List.set_cons_zero, List.set_cons_succ]
              refine wpAnyH_take (i := 36) (oi := { dst := some 174, op := Op.fieldAddr 42 (Operand.tmp 4) 5, type := 0, pos := "top08.go:72", after := #[{ on := 31, ground := Ground.guard }], guard := some (31, false) }) (v := undef) rfl (by kernel_rfl) (by kernel_rfl) (by kernel_rfl) (fun _ _ _ h => h) (Or.inr ⟨by rfl, rfl⟩) hHeld ?_
              try simp only [Act.put, List.setIfInBounds_toArray, List.set_cons_zero, List.set_cons_succ]
              refine wpAnyH_take (i := 37) (oi := { dst := some 175, op := Op.fieldAddr 33 (Operand.tmp 174) 1, type := 0, pos := "top08.go:72", after := #[{ on := 36, ground := Ground.data }, { on := 31, ground := Ground.guard }], guard := some (31, false) }) (v := undef) rfl (by kernel_rfl) (by kernel_rfl) (by kernel_rfl) (fun _ _ _ h => h) (Or.inr ⟨by rfl, rfl⟩) hHeld ?_
              try simp only [Act.put, List.setIfInBounds_toArray, List.set_cons_zero, List.set_cons_succ]
              refine wpAnyH_take (i := 38) (oi := { dst := some 176, op := Op.load 31 (Operand.tmp 175), type := 31, pos := "top08.go:72", after := #[{ on := 37, ground := Ground.data }, { on := 31, ground := Ground.guard }], guard := some (31, false) }) (v := undef) rfl (by kernel_rfl) (by kernel_rfl) (by kernel_rfl) (fun _ _ _ h => h) (Or.inr ⟨by rfl, rfl⟩) hHeld ?_
              try simp only [Act.put, List.setIfInBounds_toArray, List.set_cons_zero, List.set_cons_succ]
              refine wpAnyH_take (i := 39) (oi := { dst := some 177, op := Op.binOp BinOp.neq 31 (Operand.tmp 173) (Operand.tmp 176) 31, type := 4, pos := "top08.go:72", after := #[{ on := 35, ground := Ground.data }, { on := 38, ground := Ground.data }, { on := 31, ground := Ground.guard }], guard := some (31, false) }) (v := undef) rfl (by kernel_rfl) (by kernel_rfl) (by kernel_rfl) (fun _ _ _ h => h) (Or.inr ⟨by rfl, rfl⟩) hHeld ?_
              try simp only [Act.put, List.setIfInBounds_toArray, List.set_cons_zero, List.set_cons_succ]
              refine wpAnyH_take (i := 40) (oi := { dst := some 178, op := Op.pick (Operand.tmp 169) (Operand.const (Value.bool true)) (Operand.tmp 177), type := 4, pos := "top08.go:72", after := #[{ on := 31, ground := Ground.data }, { on := 39, ground := Ground.data }, { on := 3, ground := Ground.guard }], guard := some (3, true) }) (v := undef) rfl (by kernel_rfl) (by kernel_rfl) (by kernel_rfl) (fun _ _ _ h => h) (Or.inr ⟨by rfl, rfl⟩) hHeld ?_
              try simp only [Act.put, List.setIfInBounds_toArray, List.set_cons_zero, List.set_cons_succ]
              refine wpAnyH_take (i := 41) (oi := { dst := some 179, op := Op.pick (Operand.tmp 141) (Operand.tmp 178) (Operand.const (Value.bool false)), type := 4, pos := "top08.go:72", after := #[{ on := 3, ground := Ground.data }, { on := 40, ground := Ground.data }], guard := none }) (v := ?_) rfl (by kernel_rfl) (by kernel_rfl) (by kernel_rfl) (fun _ _ _ h => h) (Or.inl ⟨by rfl, ?_⟩) hHeld ?_
              rotate_left
              · intro w hSw
                try dsimp only at hSw
                go_simp
                try with_reducible rfl
              try simp only [Act.put, List.setIfInBounds_toArray, List.set_cons_zero, List.set_cons_succ]
              refine wpAnyH_done (by kernel_rfl) ?_ _
              go_wp2_with fail
              go_roundw
              case rel => exact ⟨j + 1, by rw [HREL.out], hj1, by rw [hSUM.out]; simp, by first | exact b7 | exact b7.drew, by first | exact x7 | exact x7.drew, by first | exact xa7 | exact xa7.drew, by first | exact xb7 | exact xb7.drew⟩
              case measure => simpa [intOf] using hme
            subst n1
            by_cases n2 : r.fr ≤ y
            rotate_left
            · clear hq2
              go_upto_region 17 with fail
              refine wp_region_held_drew (S := fun w' => Below w.heap.size w w') (by kernel_rfl) (b7.drew) (fun hHeld => ?_)
              refine wpAnyH_take (i := 0) (oi := { dst := some 138, op := Op.move (Operand.tmp 15), type := 46, pos := "top08.go:72", after := #[], guard := none }) (v := ?_) rfl (by kernel_rfl) (by kernel_rfl) (by kernel_rfl) (fun _ _ _ h => h) (Or.inl ⟨by rfl, ?_⟩) hHeld ?_
              rotate_left
              · intro w hSw
                try dsimp only at hSw
                go_simp
                try with_reducible rfl
              try simp only [Act.put, List.setIfInBounds_toArray, List.set_cons_zero, List.set_cons_succ]
              refine wpAnyH_take (i := 1) (oi := { dst := some 139, op := Op.call { callee := Callee.builtin Builtin.len, args := #[Operand.tmp 138], argTypes := #[46] }, type := 3, pos := "top08.go:72", after := #[{ on := 0, ground := Ground.data }], guard := none }) (v := ?_) rfl (by kernel_rfl) (by kernel_rfl) (by kernel_rfl) (fun _ _ _ h => h) (Or.inl ⟨by rfl, ?_⟩) hHeld ?_
              rotate_left
              · intro w hSw
                try dsimp only at hSw
                go_simp
                try with_reducible rfl
              try simp only [Act.put, List.setIfInBounds_toArray, List.set_cons_zero, List.set_cons_succ]
              refine wpAnyH_take (i := 2) (oi := { dst := some 140, op := Op.binOp BinOp.eql 3 (Operand.tmp 139) (Operand.const (Value.int IntKind.i64 1)) 3, type := 4, pos := "top08.go:72", after := #[{ on := 1, ground := Ground.data }], guard := none }) (v := ?_) rfl (by kernel_rfl) (by kernel_rfl) (by kernel_rfl) (fun _ _ _ h => h) (Or.inl ⟨by rfl, ?_⟩) hHeld ?_
              rotate_left
              · intro w hSw
                try dsimp only at hSw
                go_simp
                try with_reducible rfl
              try simp only [Act.put, List.setIfInBounds_toArray, List.set_cons_zero, List.set_cons_succ]
              refine wpAnyH_take (i := 3) (oi := { dst := some 141, op := Op.move (Operand.tmp 140), type := 4, pos := "top08.go:72", after := #[{ on := 2, ground := Ground.data }], guard := none }) (v := ?_) rfl (by kernel_rfl) (by kernel_rfl) (by kernel_rfl) (fun _ _ _ h => h) (Or.inl ⟨by rfl, ?_⟩) hHeld ?_
              rotate_left
              · intro w hSw
                try dsimp only at hSw
                go_simp
                try with_reducible rfl
              try simp only [Act.put, List.setIfInBounds_toArray, List.set_cons_zero, List.set_cons_succ]
              refine wpAnyH_take (i := 4) (oi := { dst := some 142, op := Op.move (Operand.tmp 16), type := 46, pos := "top08.go:72", after := #[{ on := 3, ground := Ground.guard }], guard := some (3, true) }) (v := undef) rfl (by kernel_rfl) (by kernel_rfl) (by kernel_rfl) (fun _ _ _ h => h) (Or.inr ⟨by rfl, rfl⟩) hHeld ?_
              try simp only [Act.put, List.setIfInBounds_toArray, List.set_cons_zero, List.set_cons_succ]
              refine wpAnyH_take (i := 5) (oi := { dst := some 143, op := Op.indexAddr 46 (Operand.tmp 142) (Operand.const (Value.int IntKind.i64 0)), type := 0, pos := "top08.go:72", after := #[{ on := 4, ground := Ground.data }, { on := 3, ground := Ground.guard }], guard := some (3, true) }) (v := undef) rfl (by kernel_rfl) (by kernel_rfl) (by kernel_rfl) (fun _ _ _ h => h) (Or.inr ⟨by rfl, rfl⟩) hHeld ?_
              try simp only [Act.put, List.setIfInBounds_toArray, List.set_cons_zero, List.set_cons_succ]
              refine wpAnyH_take (i := 6) (oi := { dst := some 144, op := Op.fieldAddr 49 (Operand.tmp 143) 0, type := 0, pos := "top08.go:72", after := #[{ on := 5, ground := Ground.data }, { on := 3, ground := Ground.guard }], guard := some (3, true) }) (v := undef) rfl (by kernel_rfl) (by kernel_rfl) (by kernel_rfl) (fun _ _ _ h => h) (Or.inr ⟨by rfl, rfl⟩) hHeld ?_
              try simp only [Act.put, List.setIfInBounds_toArray, List.set_cons_zero, List.set_cons_succ]
              refine wpAnyH_take (i := 7) (oi := { dst := some 145, op := Op.load 2 (Operand.tmp 144), type := 2, pos := "top08.go:72", after := #[{ on := 6, ground := Ground.data }, { on := 3, ground := Ground.guard }], guard := some (3, true) }) (v := undef) rfl (by kernel_rfl) (by kernel_rfl) (by kernel_rfl) (fun _ _ _ h => h) (Or.inr ⟨by rfl, rfl⟩) hHeld ?_
              try simp only [Act.put, List.setIfInBounds_toArray, List.set_cons_zero, List.set_cons_succ]
              refine wpAnyH_take (i := 8) (oi := { dst := some 146, op := Op.move (Operand.tmp 15), type := 46, pos := "top08.go:72", after := #[{ on := 3, ground := Ground.guard }], guard := some (3, true) }) (v := undef) rfl (by kernel_rfl) (by kernel_rfl) (by kernel_rfl) (fun _ _ _ h => h) (Or.inr ⟨by rfl, rfl⟩) hHeld ?_
              try simp only [Act.put, List.setIfInBounds_toArray, List.set_cons_zero, List.set_cons_succ]
              refine wpAnyH_take (i := 9) (oi := { dst := some 147, op := Op.indexAddr 46 (Operand.tmp 146) (Operand.const (Value.int IntKind.i64 0)), type := 0, pos := "top08.go:72", after := #[{ on := 8, ground := Ground.data }, { on := 3, ground := Ground.guard }], guard := some (3, true) }) (v := undef) rfl (by kernel_rfl) (by kernel_rfl) (by kernel_rfl) (fun _ _ _ h => h) (Or.inr ⟨by rfl, rfl⟩) hHeld ?_
              try simp only [Act.put, List.setIfInBounds_toArray, List.set_cons_zero, List.set_cons_succ]
              refine wpAnyH_take (i := 10) (oi := { dst := some 148, op := Op.fieldAddr 49 (Operand.tmp 147) 0, type := 0, pos := "top08.go:72", after := #[{ on := 9, ground := Ground.data }, { on := 3, ground := Ground.guard }], guard := some (3, true) }) (v := undef) rfl (by kernel_rfl) (by kernel_rfl) (by kernel_rfl) (fun _ _ _ h => h) (Or.inr ⟨by rfl, rfl⟩) hHeld ?_
              try simp only [Act.put, List.setIfInBounds_toArray, List.set_cons_zero, List.set_cons_succ]
              refine wpAnyH_take (i := 11) (oi := { dst := some 149, op := Op.load 2 (Operand.tmp 148), type := 2, pos := "top08.go:72", after := #[{ on := 10, ground := Ground.data }, { on := 3, ground := Ground.guard }], guard := some (3, true) }) (v := undef) rfl (by kernel_rfl) (by kernel_rfl) (by kernel_rfl) (fun _ _ _ h => h) (Or.inr ⟨by rfl, rfl⟩) hHeld ?_
              try simp only [Act.put, List.setIfInBounds_toArray, List.set_cons_zero, List.set_cons_succ]
              refine wpAnyH_take (i := 12) (oi := { dst := some 150, op := Op.binOp BinOp.neq 2 (Operand.tmp 145) (Operand.tmp 149) 2, type := 4, pos := "top08.go:72", after := #[{ on := 7, ground := Ground.data }, { on := 11, ground := Ground.data }, { on := 3, ground := Ground.guard }], guard := some (3, true) }) (v := undef) rfl (by kernel_rfl) (by kernel_rfl) (by kernel_rfl) (fun _ _ _ h => h) (Or.inr ⟨by rfl, rfl⟩) hHeld ?_
              try simp only [Act.put, List.setIfInBounds_toArray, List.set_cons_zero, List.set_cons_succ]
              refine wpAnyH_take (i := 13) (oi := { dst := some 151, op := Op.move (Operand.tmp 150), type := 4, pos := "top08.go:72", after := #[{ on := 12, ground := Ground.data }, { on := 3, ground := Ground.chain }, { on := 3, ground := Ground.guard }], guard := some (3, true) }) (v := undef) rfl (by kernel_rfl) (by kernel_rfl) (by kernel_rfl) (fun _ _ _ h => h) (Or.inr ⟨by rfl, rfl⟩) hHeld ?_
              try simp only [Act.put, List.setIfInBounds_toArray, List.set_cons_zero, List.set_cons_succ]
              refine wpAnyH_take (i := 14) (oi := { dst := some 152, op := Op.move (Operand.tmp 16), type := 46, pos := "top08.go:72", after := #[{ on := 13, ground := Ground.guard }], guard := some (13, false) }) (v := undef) rfl (by kernel_rfl) (by kernel_rfl) (by kernel_rfl) (fun _ _ _ h => h) (Or.inr ⟨by rfl, rfl⟩) hHeld ?_
              try simp only [Act.put, List.setIfInBounds_toArray, List.set_cons_zero, List.set_cons_succ]
              refine wpAnyH_take (i := 15) (oi := { dst := some 153, op := Op.indexAddr 46 (Operand.tmp 152) (Operand.const (Value.int IntKind.i64 0)), type := 0, pos := "top08.go:72", after := #[{ on := 14, ground := Ground.data }, { on := 13, ground := Ground.guard }], guard := some (13, false) }) (v := undef) rfl (by kernel_rfl) (by kernel_rfl) (by kernel_rfl) (fun _ _ _ h => h) (Or.inr ⟨by rfl, rfl⟩) hHeld ?_
              try simp only [Act.put, List.setIfInBounds_toArray, List.set_cons_zero, List.set_cons_succ]
              refine wpAnyH_take (i := 16) (oi := { dst := some 154, op := Op.fieldAddr 49 (Operand.tmp 153) 2, type := 0, pos := "top08.go:72", after := #[{ on := 15, ground := Ground.data }, { on := 13, ground := Ground.guard }], guard := some (13, false) }) (v := undef) rfl (by kernel_rfl) (by kernel_rfl) (by kernel_rfl) (fun _ _ _ h => h) (Or.inr ⟨by rfl, rfl⟩) hHeld ?_
              try simp only [Act.put, List.setIfInBounds_toArray, List.set_cons_zero, List.set_cons_succ]
              refine wpAnyH_take (i := 17) (oi := { dst := some 155, op := Op.load 2 (Operand.tmp 154), type := 2, pos := "top08.go:72", after := #[{ on := 16, ground := Ground.data }, { on := 13, ground := Ground.guard }], guard := some (13, false) }) (v := undef) rfl (by kernel_rfl) (by kernel_rfl) (by kernel_rfl) (fun _ _ _ h => h) (Or.inr ⟨by rfl, rfl⟩) hHeld ?_
              try simp only [Act.put, List.setIfInBounds_toArray, List.set_cons_zero, List.set_cons_succ]
              refine wpAnyH_take (i := 18) (oi := { dst := some 156, op := Op.fieldAddr 42 (Operand.tmp 4) 6, type := 0, pos := "top08.go:72", after := #[{ on := 13, ground := Ground.guard }], guard := some (13, false) }) (v := undef) rfl (by kernel_rfl) (by kernel_rfl) (by kernel_rfl) (fun _ _ _ h => h) (Or.inr ⟨by rfl, rfl⟩) hHeld ?_
              try simp only [Act.put, List.setIfInBounds_toArray, List.set_cons_zero, List.set_cons_succ]
              refine wpAnyH_take (i := 19) (oi := { dst := some 157, op := Op.load 2 (Operand.tmp 156), type := 2, pos := "top08.go:72", after := #[{ on := 18, ground := Ground.data }, { on := 13, ground := Ground.guard }], guard := some (13, false) }) (v := undef) rfl (by kernel_rfl) (by kernel_rfl) (by kernel_rfl) (fun _ _ _ h => h) (Or.inr ⟨by rfl, rfl⟩) hHeld ?_
              try simp only [Act.put, List.setIfInBounds_toArray, List.set_cons_zero, List.set_cons_succ]
              refine wpAnyH_take (i := 20) (oi := { dst := some 158, op := Op.binOp BinOp.neq 2 (Operand.tmp 155) (Operand.tmp 157) 2, type := 4, pos := "top08.go:72", after := #[{ on := 17, ground := Ground.data }, { on := 19, ground := Ground.data }, { on := 13, ground := Ground.guard }], guard := some (13, false) }) (v := undef) rfl (by kernel_rfl) (by kernel_rfl) (by kernel_rfl) (fun _ _ _ h => h) (Or.inr ⟨by rfl, rfl⟩) hHeld ?_
              try simp only [Act.put, List.setIfInBounds_toArray, List.set_cons_zero, List.set_cons_succ]
              refine wpAnyH_take (i := 21) (oi := { dst := some 159, op := Op.pick (Operand.tmp 151) (Operand.const (Value.bool true)) (Operand.tmp 158), type := 4, pos := "top08.go:72", after := #[{ on := 13, ground := Ground.data }, { on := 20, ground := Ground.data }, { on := 3, ground := Ground.guard }], guard := some (3, true) }) (v := undef) rfl (by kernel_rfl) (by kernel_rfl) (by kernel_rfl) (fun _ _ _ h => h) (Or.inr ⟨by rfl, rfl⟩) hHeld ?_
              try simp only [Act.put, List.setIfInBounds_toArray, List.set_cons_zero, List.set_cons_succ]
              refine wpAnyH_take (i := 22) (oi := { dst := some 160, op := Op.move (Operand.tmp 159), type := 4, pos := "top08.go:72", after := #[{ on := 21, ground := Ground.data }, { on := 13, ground := Ground.chain }, { on := 3, ground := Ground.guard }], guard := some (3, true) }) (v := undef) rfl (by kernel_rfl) (by kernel_rfl) (by kernel_rfl) (fun _ _ _ h => h) (Or.inr ⟨by rfl, rfl⟩) hHeld ?_
              try simp only [Act.put, List.setIfInBounds_toArray, List.set_cons_zero, List.set_cons_succ]
              refine wpAnyH_take (i := 23) (oi := { dst := some 161, op := Op.move (Operand.tmp 16), type := 46, pos := "top08.go:72", after := #[{ on := 22, ground := Ground.guard }], guard := some (22, false) }) (v := undef) rfl (by kernel_rfl) (by kernel_rfl) (by kernel_rfl) (fun _ _ _ h => h) (Or.inr ⟨by rfl, rfl⟩) hHeld ?_
              try simp only [Act.put, List.setIfInBounds_toArray, List.set_cons_zero, List.set_cons_succ]
              refine wpAnyH_take (i := 24) (oi := { dst := some 162, op := Op.indexAddr 46 (Operand.tmp 161) (Operand.const (Value.int IntKind.i64 0)), type := 0, pos := "top08.go:72", after := #[{ on := 23, ground := Ground.data }, { on := 22, ground := Ground.guard }], guard := some (22, false) }) (v := undef) rfl (by kernel_rfl) (by kernel_rfl) (by kernel_rfl) (fun _ _ _ h => h) (Or.inr ⟨by rfl, rfl⟩) hHeld ?_
              try simp only [Act.put, List.setIfInBounds_toArray, List.set_cons_zero, List.set_cons_succ]
              refine wpAnyH_take (i := 25) (oi := { dst := some 163, op := Op.fieldAddr 49 (Operand.tmp 162) 4, type := 0, pos := "top08.go:72", after := #[{ on := 24, ground := Ground.data }, { on := 22, ground := Ground.guard }], guard := some (22, false) }) (v := undef) rfl (by kernel_rfl) (by kernel_rfl) (by kernel_rfl) (fun _ _ _ h => h) (Or.inr ⟨by rfl, rfl⟩) hHeld ?_
              try simp only [Act.put, List.setIfInBounds_toArray, List.set_cons_zero, List.set_cons_succ]
              refine wpAnyH_take (i := 26) (oi := { dst := some 164, op := Op.load 9 (Operand.tmp 163), type := 9, pos := "top08.go:72", after := #[{ on := 25, ground := Ground.data }, { on := 22, ground := Ground.guard }], guard := some (22, false) }) (v := undef) rfl (by kernel_rfl) (by kernel_rfl) (by kernel_rfl) (fun _ _ _ h => h) (Or.inr ⟨by rfl, rfl⟩) hHeld ?_
              try simp only [Act.put, List.setIfInBounds_toArray, List.set_cons_zero, List.set_cons_succ]
              refine wpAnyH_take (i := 27) (oi := { dst := some 165, op := Op.fieldAddr 42 (Operand.tmp 4) 7, type := 0, pos := "top08.go:72", after := #[{ on := 22, ground := Ground.guard }], guard := some (22, false) }) (v := undef) rfl (by kernel_rfl) (by kernel_rfl) (by kernel_rfl) (fun _ _ _ h => h) (Or.inr ⟨by rfl, rfl⟩) hHeld ?_
              try simp only [Act.put, List.setIfInBounds_toArray, List.set_cons_zero, List.set_cons_succ]
              refine wpAnyH_take (i := 28) (oi := { dst := some 166, op := Op.load 9 (Operand.tmp 165), type := 9, pos := "top08.go:72", after := #[{ on := 27, ground := Ground.data }, { on := 22, ground := Ground.guard }], guard := some (22, false) }) (v := undef) rfl (by kernel_rfl) (by kernel_rfl) (by kernel_rfl) (fun _ _ _ h => h) (Or.inr ⟨by rfl, rfl⟩) hHeld ?_
              try simp only [Act.put, List.setIfInBounds_toArray, List.set_cons_zero, List.set_cons_succ]
              refine wpAnyH_take (i := 29) (oi := { dst := some 167, op := Op.binOp BinOp.neq 9 (Operand.tmp 164) (Operand.tmp 166) 9, type := 4, pos := "top08.go:72", after := #[{ on := 26, ground := Ground.data }, { on := 28, ground := Ground.data }, { on := 22, ground := Ground.guard }], guard := some (22, false) }) (v := undef) rfl (by kernel_rfl) (by kernel_rfl) (by kernel_rfl) (fun _ _ _ h => h) (Or.inr ⟨by rfl, rfl⟩) hHeld ?_
              try simp only [Act.put, List.setIfInBounds_toArray, List.set_cons_zero, List.set_cons_succ]
              refine wpAnyH_take (i := 30) (oi := { dst := some 168, op := Op.pick (Operand.tmp 160) (Operand.const (Value.bool true)) (Operand.tmp 167), type := 4, pos := "top08.go:72", after := #[{ on := 22, ground := Ground.data }, { on := 29, ground := Ground.data }, { on := 3, ground := Ground.guard }], guard := some (3, true) }) (v := undef) rfl (by kernel_rfl) (by kernel_rfl) (by kernel_rfl) (fun _ _ _ h => h) (Or.inr ⟨by rfl, rfl⟩) hHeld ?_
              try simp only [Act.put, List.setIfInBounds_toArray, List.set_cons_zero, List.set_cons_succ]
              refine wpAnyH_take (i := 31) (oi := { dst := some 169, op := Op.move (Operand.tmp 168), type := 4, pos := "top08.go:72", after := #[{ on := 30, ground := Ground.data }, { on := 22, ground := Ground.chain }, { on := 3, ground := Ground.guard }], guard := some (3, true) }) (v := undef) rfl (by kernel_rfl) (by kernel_rfl) (by kernel_rfl) (fun _ _ _ h => h) (Or.inr ⟨by rfl, rfl⟩) hHeld ?_
              try simp only [Act.put, List.setIfInBounds_toArray, List.set_cons_zero, List.set_cons_succ]
              refine wpAnyH_take (i := 32) (oi := { dst := some 170, op := Op.move (Operand.tmp 15), type := 46, pos := "top08.go:72", after := #[{ on := 31, ground := Ground.guard }], guard := some (31, false) }) (v := undef) rfl (by kernel_rfl) (by kernel_rfl) (by kernel_rfl) (fun _ _ _ h => h) (Or.inr ⟨by rfl, rfl⟩) hHeld ?_
              try simp only [Act.put, List.setIfInBounds_toArray, List.set_cons_zero, List.set_cons_succ]
              refine wpAnyH_take (i := 33) (oi := { dst := some 171, op := Op.indexAddr 46 (Operand.tmp 170) (Operand.const (Value.int IntKind.i64 0)), type := 0, pos := "top08.go:72", after := #[{ on := 32, ground := Ground.data }, { on := 31, ground := Ground.guard }], guard := some (31, false) }) (v := undef) rfl (by kernel_rfl) (by kernel_rfl) (by kernel_rfl) (fun _ _ _ h => h) (Or.inr ⟨by rfl, rfl⟩) hHeld ?_
              try simp only [Act.put, List.setIfInBounds_toArray, List.set_cons_zero, List.set_cons_succ]
              refine wpAnyH_take (i := 34) (oi := { dst := some 172, op := Op.fieldAddr 49 (Operand.tmp 171) 1, type := 0, pos := "top08.go:72", after := #[{ on := 33, ground := Ground.data }, { on := 31, ground := Ground.guard }], guard := some (31, false) }) (v := undef) rfl (by kernel_rfl) (by kernel_rfl) (by kernel_rfl) (fun _ _ _ h => h) (Or.inr ⟨by rfl, rfl⟩) hHeld ?_
              try simp only [Act.put, List.setIfInBounds_toArray, List.set_cons_zero, List.set_cons_succ]
              refine wpAnyH_take (i := 35) (oi := { dst := some 173, op := Op.load 31 (Operand.tmp 172), type := 31, pos := "top08.go:72", after := #[{ on := 34, ground := Ground.data }, { on := 31, ground := Ground.guard }], guard := some (31, false) }) (v := undef) rfl (by kernel_rfl) (by kernel_rfl) (by kernel_rfl) (fun _ _ _ h => h) (Or.inr ⟨by rfl, rfl⟩) hHeld ?_
              try simp only [Act.put, List.setIfInBounds_toArray, List.set_cons_zero, List.set_cons_succ]
              refine wpAnyH_take (i := 36) (oi := { dst := some 174, op := Op.fieldAddr 42 (Operand.tmp 4) 5, type := 0, pos := "top08.go:72", after := #[{ on := 31, ground := Ground.guard }], guard := some (31, false) }) (v := undef) rfl (by kernel_rfl) (by kernel_rfl) (by kernel_rfl) (fun _ _ _ h => h) (Or.inr ⟨by rfl, rfl⟩) hHeld ?_
              try simp only [Act.put, List.setIfInBounds_toArray, List.set_cons_zero, List.set_cons_succ]
              refine wpAnyH_take (i := 37) (oi := { dst := some 175, op := Op.fieldAddr 33 (Operand.tmp 174) 1, type := 0, pos := "top08.go:72", after := #[{ on := 36, ground := Ground.data }, { on := 31, ground := Ground.guard }], guard := some (31, false) }) (v := undef) rfl (by kernel_rfl) (by kernel_rfl) (by kernel_rfl) (fun _ _ _ h => h) (Or.inr ⟨by rfl, rfl⟩) hHeld ?_
              try simp only [Act.put, List.setIfInBounds_toArray, List.set_cons_zero, List.set_cons_succ]
              refine wpAnyH_take (i := 38) (oi := { dst := some 176, op := Op.load 31 (Operand.tmp 175), type := 31, pos := "top08.go:72", after := #[{ on := 37, ground := Ground.data }, { on := 31, ground := Ground.guard }], guard := some (31, false) }) (v := undef) rfl (by kernel_rfl) (by kernel_rfl) (by kernel_rfl) (fun _ _ _ h => h) (Or.inr ⟨by rfl, rfl⟩) hHeld ?_
              try simp only [Act.put, List.setIfInBounds_toArray, List.set_cons_zero, List.set_cons_succ]
              refine wpAnyH_take (i := 39) (oi := { dst := some 177, op := Op.binOp BinOp.neq 31 (Operand.tmp 173) (Operand.tmp 176) 31, type := 4, pos := "top08.go:72", after := #[{ on := 35, ground := Ground.data }, { on := 38, ground := Ground.data }, { on := 31, ground := Ground.guard }], guard := some (31, false) }) (v := undef) rfl (by kernel_rfl) (by kernel_rfl) (by kernel_rfl) (fun _ _ _ h => h) (Or.inr ⟨by rfl, rfl⟩) hHeld ?_
              try simp only [Act.put, List.setIfInBounds_toArray, List.set_cons_zero, List.set_cons_succ]
              refine wpAnyH_take (i := 40) (oi := { dst := some 178, op := Op.pick (Operand.tmp 169) (Operand.const (Value.bool true)) (Operand.tmp 177), type := 4, pos := "top08.go:72", after := #[{ on := 31, ground := Ground.data }, { on := 39, ground := Ground.data }, { on := 3, ground := Ground.guard }], guard := some (3, true) }) (v := undef) rfl (by kernel_rfl) (by kernel_rfl) (by kernel_rfl) (fun _ _ _ h => h) (Or.inr ⟨by rfl, rfl⟩) hHeld ?_
              try simp only [Act.put, List.setIfInBounds_toArray, List.set_cons_zero, List.set_cons_succ]
              refine wpAnyH_take (i := 41) (oi := { dst := some 179, op := Op.pick (Operand.tmp 141) (Operand.tmp 178) (Operand.const (Value.bool false)), type := 4, pos := "top08.go:72", after := #[{ on := 3, ground := Ground.data }, { on := 40, ground := Ground.data }], guard := none }) (v := ?_) rfl (by kernel_rfl) (by kernel_rfl) (by kernel_rfl) (fun _ _ _ h => h) (Or.inl ⟨by rfl, ?_⟩) hHeld ?_
              rotate_left
              · intro w hSw
                try dsimp only at hSw
                go_simp
                try with_reducible rfl
              try simp only [Act.put, List.setIfInBounds_toArray, List.set_cons_zero, List.set_cons_succ]
              refine wpAnyH_done (by kernel_rfl) ?_ _
              go_wp2_with fail
              go_roundw
              case rel => exact ⟨j + 1, by rw [HREL.out], hj1, by rw [hSUM.out]; simp, by first | exact b7 | exact b7.drew, by first | exact x7 | exact x7.drew, by first | exact xa7 | exact xa7.drew, by first | exact xb7 | exact xb7.drew⟩
              case measure => simpa [intOf] using hme
            have n3 : ¬ y ≤ r.tt := fun h => hq2 ⟨n2, h, rfl⟩
            clear hq2
            go_upto_region 17 with fail
            refine wp_region_held_drew (S := fun w' => Below w.heap.size w w') (by kernel_rfl) (b7.drew) (fun hHeld => ?_)
            refine wpAnyH_take (i := 0) (oi := { dst := some 138, op := Op.move (Operand.tmp 15), type := 46, pos := "top08.go:72", after := #[], guard := none }) (v := ?_) rfl (by kernel_rfl) (by kernel_rfl) (by kernel_rfl) (fun _ _ _ h => h) (Or.inl ⟨by rfl, ?_⟩) hHeld ?_
            rotate_left
            · intro w hSw
              try dsimp only at hSw
              go_simp
              try with_reducible rfl
            try simp only [Act.put, List.setIfInBounds_toArray, List.set_cons_zero, List.set_cons_succ]
            refine wpAnyH_take (i := 1) (oi := { dst := some 139, op := Op.call { callee := Callee.builtin Builtin.len, args := #[Operand.tmp 138], argTypes := #[46] }, type := 3, pos := "top08.go:72", after := #[{ on := 0, ground := Ground.data }], guard := none }) (v := ?_) rfl (by kernel_rfl) (by kernel_rfl) (by kernel_rfl) (fun _ _ _ h => h) (Or.inl ⟨by rfl, ?_⟩) hHeld ?_
            rotate_left
            · intro w hSw
              try dsimp only at hSw
              go_simp
              try with_reducible rfl
            try simp only [Act.put, List.setIfInBounds_toArray, List.set_cons_zero, List.set_cons_succ]
            refine wpAnyH_take (i := 2) (oi := { dst := some 140, op := Op.binOp BinOp.eql 3 (Operand.tmp 139) (Operand.const (Value.int IntKind.i64 1)) 3, type := 4, pos := "top08.go:72", after := #[{ on := 1, ground := Ground.data }], guard := none }) (v := ?_) rfl (by kernel_rfl) (by kernel_rfl) (by kernel_rfl) (fun _ _ _ h => h) (Or.inl ⟨by rfl, ?_⟩) hHeld ?_
            rotate_left
            · intro w hSw
              try dsimp only at hSw
              go_simp
              try with_reducible rfl
            try simp only [Act.put, List.setIfInBounds_toArray, List.set_cons_zero, List.set_cons_succ]
            refine wpAnyH_take (i := 3) (oi := { dst := some 141, op := Op.move (Operand.tmp 140), type := 4, pos := "top08.go:72", after := #[{ on := 2, ground := Ground.data }], guard := none }) (v := ?_) rfl (by kernel_rfl) (by kernel_rfl) (by kernel_rfl) (fun _ _ _ h => h) (Or.inl ⟨by rfl, ?_⟩) hHeld ?_
            rotate_left
            · intro w hSw
              try dsimp only at hSw
              go_simp
              try with_reducible rfl
            try simp only [Act.put, List.setIfInBounds_toArray, List.set_cons_zero, List.set_cons_succ]
            refine wpAnyH_take (i := 4) (oi := { dst := some 142, op := Op.move (Operand.tmp 16), type := 46, pos := "top08.go:72", after := #[{ on := 3, ground := Ground.guard }], guard := some (3, true) }) (v := undef) rfl (by kernel_rfl) (by kernel_rfl) (by kernel_rfl) (fun _ _ _ h => h) (Or.inr ⟨by rfl, rfl⟩) hHeld ?_
            try simp only [Act.put, List.setIfInBounds_toArray, List.set_cons_zero, List.set_cons_succ]
            refine wpAnyH_take (i := 5) (oi := { dst := some 143, op := Op.indexAddr 46 (Operand.tmp 142) (Operand.const (Value.int IntKind.i64 0)), type := 0, pos := "top08.go:72", after := #[{ on := 4, ground := Ground.data }, { on := 3, ground := Ground.guard }], guard := some (3, true) }) (v := undef) rfl (by kernel_rfl) (by kernel_rfl) (by kernel_rfl) (fun _ _ _ h => h) (Or.inr ⟨by rfl, rfl⟩) hHeld ?_
            try simp only [Act.put, List.setIfInBounds_toArray, List.set_cons_zero, List.set_cons_succ]
            refine wpAnyH_take (i := 6) (oi := { dst := some 144, op := Op.fieldAddr 49 (Operand.tmp 143) 0, type := 0, pos := "top08.go:72", after := #[{ on := 5, ground := Ground.data }, { on := 3, ground := Ground.guard }], guard := some (3, true) }) (v := undef) rfl (by kernel_rfl) (by kernel_rfl) (by kernel_rfl) (fun _ _ _ h => h) (Or.inr ⟨by rfl, rfl⟩) hHeld ?_
            try simp only [Act.put, List.setIfInBounds_toArray, List.set_cons_zero, List.set_cons_succ]
            refine wpAnyH_take (i := 7) (oi := { dst := some 145, op := Op.load 2 (Operand.tmp 144), type := 2, pos := "top08.go:72", after := #[{ on := 6, ground := Ground.data }, { on := 3, ground := Ground.guard }], guard := some (3, true) }) (v := undef) rfl (by kernel_rfl) (by kernel_rfl) (by kernel_rfl) (fun _ _ _ h => h) (Or.inr ⟨by rfl, rfl⟩) hHeld ?_
            try simp only [Act.put, List.setIfInBounds_toArray, List.set_cons_zero, List.set_cons_succ]
            refine wpAnyH_take (i := 8) (oi := { dst := some 146, op := Op.move (Operand.tmp 15), type := 46, pos := "top08.go:72", after := #[{ on := 3, ground := Ground.guard }], guard := some (3, true) }) (v := undef) rfl (by kernel_rfl) (by kernel_rfl) (by kernel_rfl) (fun _ _ _ h => h) (Or.inr ⟨by rfl, rfl⟩) hHeld ?_
            try simp only [Act.put, List.setIfInBounds_toArray, List.set_cons_zero, List.set_cons_succ]
            refine wpAnyH_take (i := 9) (oi := { dst := some 147, op := Op.indexAddr 46 (Operand.tmp 146) (Operand.const (Value.int IntKind.i64 0)), type := 0, pos := "top08.go:72", after := #[{ on := 8, ground := Ground.data }, { on := 3, ground := Ground.guard }], guard := some (3, true) }) (v := undef) rfl (by kernel_rfl) (by kernel_rfl) (by kernel_rfl) (fun _ _ _ h => h) (Or.inr ⟨by rfl, rfl⟩) hHeld ?_
            try simp only [Act.put, List.setIfInBounds_toArray, List.set_cons_zero, List.set_cons_succ]
            refine wpAnyH_take (i := 10) (oi := { dst := some 148, op := Op.fieldAddr 49 (Operand.tmp 147) 0, type := 0, pos := "top08.go:72", after := #[{ on := 9, ground := Ground.data }, { on := 3, ground := Ground.guard }], guard := some (3, true) }) (v := undef) rfl (by kernel_rfl) (by kernel_rfl) (by kernel_rfl) (fun _ _ _ h => h) (Or.inr ⟨by rfl, rfl⟩) hHeld ?_
            try simp only [Act.put, List.setIfInBounds_toArray, List.set_cons_zero, List.set_cons_succ]
            refine wpAnyH_take (i := 11) (oi := { dst := some 149, op := Op.load 2 (Operand.tmp 148), type := 2, pos := "top08.go:72", after := #[{ on := 10, ground := Ground.data }, { on := 3, ground := Ground.guard }], guard := some (3, true) }) (v := undef) rfl (by kernel_rfl) (by kernel_rfl) (by kernel_rfl) (fun _ _ _ h => h) (Or.inr ⟨by rfl, rfl⟩) hHeld ?_
            try simp only [Act.put, List.setIfInBounds_toArray, List.set_cons_zero, List.set_cons_succ]
            refine wpAnyH_take (i := 12) (oi := { dst := some 150, op := Op.binOp BinOp.neq 2 (Operand.tmp 145) (Operand.tmp 149) 2, type := 4, pos := "top08.go:72", after := #[{ on := 7, ground := Ground.data }, { on := 11, ground := Ground.data }, { on := 3, ground := Ground.guard }], guard := some (3, true) }) (v := undef) rfl (by kernel_rfl) (by kernel_rfl) (by kernel_rfl) (fun _ _ _ h => h) (Or.inr ⟨by rfl, rfl⟩) hHeld ?_
            try simp only [Act.put, List.setIfInBounds_toArray, List.set_cons_zero, List.set_cons_succ]
            refine wpAnyH_take (i := 13) (oi := { dst := some 151, op := Op.move (Operand.tmp 150), type := 4, pos := "top08.go:72", after := #[{ on := 12, ground := Ground.data }, { on := 3, ground := Ground.chain }, { on := 3, ground := Ground.guard }], guard := some (3, true) }) (v := undef) rfl (by kernel_rfl) (by kernel_rfl) (by kernel_rfl) (fun _ _ _ h => h) (Or.inr ⟨by rfl, rfl⟩) hHeld ?_
            try simp only [Act.put, List.setIfInBounds_toArray, List.set_cons_zero, List.set_cons_succ]
            refine wpAnyH_take (i := 14) (oi := { dst := some 152, op := Op.move (Operand.tmp 16), type := 46, pos := "top08.go:72", after := #[{ on := 13, ground := Ground.guard }], guard := some (13, false) }) (v := undef) rfl (by kernel_rfl) (by kernel_rfl) (by kernel_rfl) (fun _ _ _ h => h) (Or.inr ⟨by rfl, rfl⟩) hHeld ?_
            try simp only [Act.put, List.setIfInBounds_toArray, List.set_cons_zero, List.set_cons_succ]
            refine wpAnyH_take (i := 15) (oi := { dst := some 153, op := Op.indexAddr 46 (Operand.tmp 152) (Operand.const (Value.int IntKind.i64 0)), type := 0, pos := "top08.go:72", after := #[{ on := 14, ground := Ground.data }, { on := 13, ground := Ground.guard }], guard := some (13, false) }) (v := undef) rfl (by kernel_rfl) (by kernel_rfl) (by kernel_rfl) (fun _ _ _ h => h) (Or.inr ⟨by rfl, rfl⟩) hHeld ?_
            try simp only [Act.put, List.setIfInBounds_toArray, List.set_cons_zero, List.set_cons_succ]
            refine wpAnyH_take (i := 16) (oi := { dst := some 154, op := Op.fieldAddr 49 (Operand.tmp 153) 2, type := 0, pos := "top08.go:72", after := #[{ on := 15, ground := Ground.data }, { on := 13, ground := Ground.guard }], guard := some (13, false) }) (v := undef) rfl (by kernel_rfl) (by kernel_rfl) (by kernel_rfl) (fun _ _ _ h => h) (Or.inr ⟨by rfl, rfl⟩) hHeld ?_
            try simp only [Act.put, List.setIfInBounds_toArray, List.set_cons_zero, List.set_cons_succ]
            refine wpAnyH_take (i := 17) (oi := { dst := some 155, op := Op.load 2 (Operand.tmp 154), type := 2, pos := "top08.go:72", after := #[{ on := 16, ground := Ground.data }, { on := 13, ground := Ground.guard }], guard := some (13, false) }) (v := undef) rfl (by kernel_rfl) (by kernel_rfl) (by kernel_rfl) (fun _ _ _ h => h) (Or.inr ⟨by rfl, rfl⟩) hHeld ?_
            try simp only [Act.put, List.setIfInBounds_toArray, List.set_cons_zero, List.set_cons_succ]
            refine wpAnyH_take (i := 18) (oi := { dst := some 156, op := Op.fieldAddr 42 (Operand.tmp 4) 6, type := 0, pos := "top08.go:72", after := #[{ on := 13, ground := Ground.guard }], guard := some (13, false) }) (v := undef) rfl (by kernel_rfl) (by kernel_rfl) (by kernel_rfl) (fun _ _ _ h => h) (Or.inr ⟨by rfl, rfl⟩) hHeld ?_
            try simp only [Act.put, List.setIfInBounds_toArray, List.set_cons_zero, List.set_cons_succ]
            refine wpAnyH_take (i := 19) (oi := { dst := some 157, op := Op.load 2 (Operand.tmp 156), type := 2, pos := "top08.go:72", after := #[{ on := 18, ground := Ground.data }, { on := 13, ground := Ground.guard }], guard := some (13, false) }) (v := undef) rfl (by kernel_rfl) (by kernel_rfl) (by kernel_rfl) (fun _ _ _ h => h) (Or.inr ⟨by rfl, rfl⟩) hHeld ?_
            try simp only [Act.put, List.setIfInBounds_toArray, List.set_cons_zero, List.set_cons_succ]
            refine wpAnyH_take (i := 20) (oi := { dst := some 158, op := Op.binOp BinOp.neq 2 (Operand.tmp 155) (Operand.tmp 157) 2, type := 4, pos := "top08.go:72", after := #[{ on := 17, ground := Ground.data }, { on := 19, ground := Ground.data }, { on := 13, ground := Ground.guard }], guard := some (13, false) }) (v := undef) rfl (by kernel_rfl) (by kernel_rfl) (by kernel_rfl) (fun _ _ _ h => h) (Or.inr ⟨by rfl, rfl⟩) hHeld ?_
            try simp only [Act.put, List.setIfInBounds_toArray, List.set_cons_zero, List.set_cons_succ]
            refine wpAnyH_take (i := 21) (oi := { dst := some 159, op := Op.pick (Operand.tmp 151) (Operand.const (Value.bool true)) (Operand.tmp 158), type := 4, pos := "top08.go:72", after := #[{ on := 13, ground := Ground.data }, { on := 20, ground := Ground.data }, { on := 3, ground := Ground.guard }], guard := some (3, true) }) (v := undef) rfl (by kernel_rfl) (by kernel_rfl) (by kernel_rfl) (fun _ _ _ h => h) (Or.inr ⟨by rfl, rfl⟩) hHeld ?_
            try simp only [Act.put, List.setIfInBounds_toArray, List.set_cons_zero, List.set_cons_succ]
            refine wpAnyH_take (i := 22) (oi := { dst := some 160, op := Op.move (Operand.tmp 159), type := 4, pos := "top08.go:72", after := #[{ on := 21, ground := Ground.data }, { on := 13, ground := Ground.chain }, { on := 3, ground := Ground.guard }], guard := some (3, true) }) (v := undef) rfl (by kernel_rfl) (by kernel_rfl) (by kernel_rfl) (fun _ _ _ h => h) (Or.inr ⟨by rfl, rfl⟩) hHeld ?_
            try simp only [Act.put, List.setIfInBounds_toArray, List.set_cons_zero, List.set_cons_succ]
            refine wpAnyH_take (i := 23) (oi := { dst := some 161, op := Op.move (Operand.tmp 16), type := 46, pos := "top08.go:72", after := #[{ on := 22, ground := Ground.guard }], guard := some (22, false) }) (v := undef) rfl (by kernel_rfl) (by kernel_rfl) (by kernel_rfl) (fun _ _ _ h => h) (Or.inr ⟨by rfl, rfl⟩) hHeld ?_
            try simp only [Act.put, List.setIfInBounds_toArray, List.set_cons_zero, List.set_cons_succ]
            refine wpAnyH_take (i := 24) (oi := { dst := some 162, op := Op.indexAddr 46 (Operand.tmp 161) (Operand.const (Value.int IntKind.i64 0)), type := 0, pos := "top08.go:72", after := #[{ on := 23, ground := Ground.data }, { on := 22, ground := Ground.guard }], guard := some (22, false) }) (v := undef) rfl (by kernel_rfl) (by kernel_rfl) (by kernel_rfl) (fun _ _ _ h => h) (Or.inr ⟨by rfl, rfl⟩) hHeld ?_
            try simp only [Act.put, List.setIfInBounds_toArray, List.set_cons_zero, List.set_cons_succ]
            refine wpAnyH_take (i := 25) (oi := { dst := some 163, op := Op.fieldAddr 49 (Operand.tmp 162) 4, type := 0, pos := "top08.go:72", after := #[{ on := 24, ground := Ground.data }, { on := 22, ground := Ground.guard }], guard := some (22, false) }) (v := undef) rfl (by kernel_rfl) (by kernel_rfl) (by kernel_rfl) (fun _ _ _ h => h) (Or.inr ⟨by rfl, rfl⟩) hHeld ?_
            try simp only [Act.put, List.setIfInBounds_toArray, List.set_cons_zero, List.set_cons_succ]
            refine wpAnyH_take (i := 26) (oi := { dst := some 164, op := Op.load 9 (Operand.tmp 163), type := 9, pos := "top08.go:72", after := #[{ on := 25, ground := Ground.data }, { on := 22, ground := Ground.guard }], guard := some (22, false) }) (v := undef) rfl (by kernel_rfl) (by kernel_rfl) (by kernel_rfl) (fun _ _ _ h => h) (Or.inr ⟨by rfl, rfl⟩) hHeld ?_
            try simp only [Act.put, List.setIfInBounds_toArray, List.set_cons_zero, List.set_cons_succ]
            refine wpAnyH_take (i := 27) (oi := { dst := some 165, op := Op.fieldAddr 42 (Operand.tmp 4) 7, type := 0, pos := "top08.go:72", after := #[{ on := 22, ground := Ground.guard }], guard := some (22, false) }) (v := undef) rfl (by kernel_rfl) (by kernel_rfl) (by kernel_rfl) (fun _ _ _ h => h) (Or.inr ⟨by rfl, rfl⟩) hHeld ?_
            try simp only [Act.put, List.setIfInBounds_toArray, List.set_cons_zero, List.set_cons_succ]
            refine wpAnyH_take (i := 28) (oi := { dst := some 166, op := Op.load 9 (Operand.tmp 165), type := 9, pos := "top08.go:72", after := #[{ on := 27, ground := Ground.data }, { on := 22, ground := Ground.guard }], guard := some (22, false) }) (v := undef) rfl (by kernel_rfl) (by kernel_rfl) (by kernel_rfl) (fun _ _ _ h => h) (Or.inr ⟨by rfl, rfl⟩) hHeld ?_
            try simp only [Act.put, List.setIfInBounds_toArray, List.set_cons_zero, List.set_cons_succ]
            refine wpAnyH_take (i := 29) (oi := { dst := some 167, op := Op.binOp BinOp.neq 9 (Operand.tmp 164) (Operand.tmp 166) 9, type := 4, pos := "top08.go:72", after := #[{ on := 26, ground := Ground.data }, { on := 28, ground := Ground.data }, { on := 22, ground := Ground.guard }], guard := some (22, false) }) (v := undef) rfl (by kernel_rfl) (by kernel_rfl) (by kernel_rfl) (fun _ _ _ h => h) (Or.inr ⟨by rfl, rfl⟩) hHeld ?_
            try simp only [Act.put, List.setIfInBounds_toArray, List.set_cons_zero, List.set_cons_succ]
            refine wpAnyH_take (i := 30) (oi := { dst := some 168, op := Op.pick (Operand.tmp 160) (Operand.const (Value.bool true)) (Operand.tmp 167), type := 4, pos := "top08.go:72", after := #[{ on := 22, ground := Ground.data }, { on := 29, ground := Ground.data }, { on := 3, ground := Ground.guard }], guard := some (3, true) }) (v := undef) rfl (by kernel_rfl) (by kernel_rfl) (by kernel_rfl) (fun _ _ _ h => h) (Or.inr ⟨by rfl, rfl⟩) hHeld ?_
            try simp only [Act.put, List.setIfInBounds_toArray, List.set_cons_zero, List.set_cons_succ]
            refine wpAnyH_take (i := 31) (oi := { dst := some 169, op := Op.move (Operand.tmp 168), type := 4, pos := "top08.go:72", after := #[{ on := 30, ground := Ground.data }, { on := 22, ground := Ground.chain }, { on := 3, ground := Ground.guard }], guard := some (3, true) }) (v := undef) rfl (by kernel_rfl) (by kernel_rfl) (by kernel_rfl) (fun _ _ _ h => h) (Or.inr ⟨by rfl, rfl⟩) hHeld ?_
            try simp only [Act.put, List.setIfInBounds_toArray, List.set_cons_zero, List.set_cons_succ]
            refine wpAnyH_take (i := 32) (oi := { dst := some 170, op := Op.move (Operand.tmp 15), type := 46, pos := "top08.go:72", after := #[{ on := 31, ground := Ground.guard }], guard := some (31, false) }) (v := undef) rfl (by kernel_rfl) (by kernel_rfl) (by kernel_rfl) (fun _ _ _ h => h) (Or.inr ⟨by rfl, rfl⟩) hHeld ?_
            try simp only [Act.put, List.setIfInBounds_toArray, List.set_cons_zero, List.set_cons_succ]
            refine wpAnyH_take (i := 33) (oi := { dst := some 171, op := Op.indexAddr 46 (Operand.tmp 170) (Operand.const (Value.int IntKind.i64 0)), type := 0, pos := "top08.go:72", after := #[{ on := 32, ground := Ground.data }, { on := 31, ground := Ground.guard }], guard := some (31, false) }) (v := undef) rfl (by kernel_rfl) (by kernel_rfl) (by kernel_rfl) (fun _ _ _ h => h) (Or.inr ⟨by rfl, rfl⟩) hHeld ?_
            try simp only [Act.put, List.setIfInBounds_toArray, List.set_cons_zero, List.set_cons_succ]
            refine wpAnyH_take (i := 34) (oi := { dst := some 172, op := Op.fieldAddr 49 (Operand.tmp 171) 1, type := 0, pos := "top08.go:72", after := #[{ on := 33, ground := Ground.data }, { on := 31, ground := Ground.guard }], guard := some (31, false) }) (v := undef) rfl (by kernel_rfl) (by kernel_rfl) (by kernel_rfl) (fun _ _ _ h => h) (Or.inr ⟨by rfl, rfl⟩) hHeld ?_
            try simp only [Act.put, List.setIfInBounds_toArray, List.set_cons_zero, List.set_cons_succ]
            refine wpAnyH_take (i := 35) (oi := { dst := some 173, op := Op.load 31 (Operand.tmp 172), type := 31, pos := "top08.go:72", after := #[{ on := 34, ground := Ground.data }, { on := 31, ground := Ground.guard }], guard := some (31, false) }) (v := undef) rfl (by kernel_rfl) (by kernel_rfl) (by kernel_rfl) (fun _ _ _ h => h) (Or.inr ⟨by rfl, rfl⟩) hHeld ?_
            try simp only [Act.put, List.setIfInBounds_toArray, List.set_cons_zero, List.set_cons_succ]
            refine wpAnyH_take (i := 36) (oi := { dst := some 174, op := Op.fieldAddr 42 (Operand.tmp 4) 5, type := 0, pos := "top08.go:72", after := #[{ on := 31, ground := Ground.guard }], guard := some (31, false) }) (v := undef) rfl (by kernel_rfl) (by kernel_rfl) (by kernel_rfl) (fun _ _ _ h => h) (Or.inr ⟨by rfl, rfl⟩) hHeld ?_
            try simp only [Act.put, List.setIfInBounds_toArray, List.set_cons_zero, List.set_cons_succ]
            refine wpAnyH_take (i := 37) (oi := { dst := some 175, op := Op.fieldAddr 33 (Operand.tmp 174) 1, type := 0, pos := "top08.go:72", after := #[{ on := 36, ground := Ground.data }, { on := 31, ground := Ground.guard }], guard := some (31, false) }) (v := undef) rfl (by kernel_rfl) (by kernel_rfl) (by kernel_rfl) (fun _ _ _ h => h) (Or.inr ⟨by rfl, rfl⟩) hHeld ?_
            try simp only [Act.put, List.setIfInBounds_toArray, List.set_cons_zero, List.set_cons_succ]
            refine wpAnyH_take (i := 38) (oi := { dst := some 176, op := Op.load 31 (Operand.tmp 175), type := 31, pos := "top08.go:72", after := #[{ on := 37, ground := Ground.data }, { on := 31, ground := Ground.guard }], guard := some (31, false) }) (v := undef) rfl (by kernel_rfl) (by kernel_rfl) (by kernel_rfl) (fun _ _ _ h => h) (Or.inr ⟨by rfl, rfl⟩) hHeld ?_
            try simp only [Act.put, List.setIfInBounds_toArray, List.set_cons_zero, List.set_cons_succ]
            refine wpAnyH_take (i := 39) (oi := { dst := some 177, op := Op.binOp BinOp.neq 31 (Operand.tmp 173) (Operand.tmp 176) 31, type := 4, pos := "top08.go:72", after := #[{ on := 35, ground := Ground.data }, { on := 38, ground := Ground.data }, { on := 31, ground := Ground.guard }], guard := some (31, false) }) (v := undef) rfl (by kernel_rfl) (by kernel_rfl) (by kernel_rfl) (fun _ _ _ h => h) (Or.inr ⟨by rfl, rfl⟩) hHeld ?_
            try simp only [Act.put, List.setIfInBounds_toArray, List.set_cons_zero, List.set_cons_succ]
            refine wpAnyH_take (i := 40) (oi := { dst := some 178, op := Op.pick (Operand.tmp 169) (Operand.const (Value.bool true)) (Operand.tmp 177), type := 4, pos := "top08.go:72", after := #[{ on := 31, ground := Ground.data }, { on := 39, ground := Ground.data }, { on := 3, ground := Ground.guard }], guard := some (3, true) }) (v := undef) rfl (by kernel_rfl) (by kernel_rfl) (by kernel_rfl) (fun _ _ _ h => h) (Or.inr ⟨by rfl, rfl⟩) hHeld ?_
            try simp only [Act.put, List.setIfInBounds_toArray, List.set_cons_zero, List.set_cons_succ]
            refine wpAnyH_take (i := 41) (oi := { dst := some 179, op := Op.pick (Operand.tmp 141) (Operand.tmp 178) (Operand.const (Value.bool false)), type := 4, pos := "top08.go:72", after := #[{ on := 3, ground := Ground.data }, { on := 40, ground := Ground.data }], guard := none }) (v := ?_) rfl (by kernel_rfl) (by kernel_rfl) (by kernel_rfl) (fun _ _ _ h => h) (Or.inl ⟨by rfl, ?_⟩) hHeld ?_
            rotate_left
            · intro w hSw
              try dsimp only at hSw
              go_simp
              try with_reducible rfl
            try simp only [Act.put, List.setIfInBounds_toArray, List.set_cons_zero, List.set_cons_succ]
            refine wpAnyH_done (by kernel_rfl) ?_ _
            go_wp2_with fail
            go_roundw
            case rel => exact ⟨j + 1, by rw [HREL.out], hj1, by rw [hSUM.out]; simp, by first | exact b7 | exact b7.drew, by first | exact x7 | exact x7.drew, by first | exact xa7 | exact xa7.drew, by first | exact xb7 | exact xb7.drew⟩
            case measure => simpa [intOf] using hme
      · have hjj : (hi + 1 - lo).toNat = j := by omega
        go_wp2_with fail
        go_meet
        exact ⟨by rw [hjj], b⟩
theorem s5_mk {W4 w' : World} {r : Ru} {g0 : Nat} (b : Below W4.heap.size W4 w') (x : Blk w' g0 42 r.C) : Below W4.heap.size W4 w' ∧ Blk w' g0 42 r.C ∧ ldT 42 (.pointer (some ⟨g0, 0, none⟩)) w' = some r.C :=
  ⟨b, x, ldT_of (ld_seg x Tryd.underlying42 rfl (by kernel_rfl) (by kernel_rfl))⟩
set_option maxRecDepth 100000 in
set_option maxHeartbeats 25600000 in
theorem years_any (r : Ru) (mid lo hi : Int) (w : World) (hT : Tab w) (hB : r.Bd) (hmb : -9223372036854775808 ≤ mid ∧ mid ≤ 9223372036854775807) (hlb : -9223372036854775808 ≤ lo ∧ lo ≤ 9223372036854775807) (hhb : -9223372036854775808 ≤ hi ∧ hi ≤ 9223372036854775807) :
    Calls Tryd.prog 4 #[.agg r.C, .int .i64 mid, .int .i64 lo, .int .i64 hi] w (OneB w) := by
  have x0 := Blk.new w 42 r.C
  have b0 := bal (Below.refl _ w) (.cells r.C 42)
  go_enter Tryd.func4, Tryd.ntmps4
  go_upto_region 1 with fail
  generalize w.alloc (.cells r.C 42) = W at *
  obtain ⟨g0, hg0⟩ : ∃ g, w.heap.size = g := ⟨_, rfl⟩
  have x1 : Blk W g0 42 r.C := by rw [← hg0]; exact x0
  rw [hg0]
  have hG0 : w.heap.size ≤ g0 := by omega
  clear hg0 x0
  have hbg := begins8_any W (hT.below hT.1 b0)
  go_wp2_with fail
  refine hbg.mono ?_; rintro e_ W1 ⟨rfl, hb⟩
  have x2 := x1.below hb x1.lt; have b1 := bcl b0 hb; clear hb x1 b0 hbg
  have hch := rule_any r W1 hB
  by_cases hro : RuOk r
  rotate_left
  · have hE2 : ruE r = 2 := by rcases ruE_02 r with q | q
                               · exact absurd (ruE_0.1 q) hro
                               · exact q
    rw [hE2] at hch
    clear hro hE2
    go_wp2_with (refine wpList_row_g rfl 42 _ rfl _ rfl _ _ _ _ x2 Tryd.underlying42 rfl (by kernel_rfl) ?_)
    refine hch.mono ?_; rintro e_ V2 ⟨rfl, hb2⟩
    go_wp2_with fail
    go_ret
    exact ⟨rfl, bcl b1 hb2⟩
  rw [ruE_0.2 hro] at hch
  have HRO := Lib.hid hro
  have hye := hro.ye
  clear hro
  go_wp2_with (refine wpList_row_g rfl 42 _ rfl _ rfl _ _ _ _ x2 Tryd.underlying42 rfl (by kernel_rfl) ?_)
  refine hch.mono ?_; rintro e_ W2 ⟨rfl, hb⟩
  have x3 := x2.below hb x2.lt; have b2 := bcl b1 hb; clear hb x2 b1 hch
  have x3a := x3.alloc (.cells r.C 42); have b3 := bal b2 (.cells r.C 42); have y3 := Blk.new W2 42 r.C
  have hne := near15 (some ⟨W2.heap.size, 0, none⟩) 1 1 _ [r] 2100 _ (one_sls y3) (Nat.le_refl _) (bd_one hB)
  go_wp2_with (refine wpList_row_g rfl 42 _ rfl _ rfl _ _ _ _ x3 Tryd.underlying42 rfl (by kernel_rfl) ?_)
  refine hne.mono ?_; rintro e_ W4 ⟨hv, hb⟩
  have x4 := x3a.below hb x3a.lt; have b4 := b3.trans (hb.mono b3.size); clear hb x3a b3 y3 hne x3 b2
  rcases hv with rfl | ⟨rfl, -⟩
  · go_wp2_with fail
    go_ret
    exact ⟨rfl, b4⟩
  have d1 : W4.cell? ⟨g0, 1, none⟩ = some (.int .i64 r.fr) := x4.cell 1
  have d2 : W4.cell? ⟨g0, 2, none⟩ = some (.int .i64 r.tt) := x4.cell 2
  by_cases h1 : mid ≤ r.fr
  · go_wp2_with fail
    go_ret
    exact ⟨rfl, b4⟩
  by_cases h2 : r.tt < mid
  · go_wp2_with fail
    go_ret
    exact ⟨rfl, b4⟩
  by_cases h3 : lo < 1
  · go_wp2_with fail
    go_ret
    exact ⟨rfl, b4⟩
  by_cases h4 : 2100 < hi
  · go_wp2_with fail
    go_ret
    exact ⟨rfl, b4⟩
  by_cases h5 : hi < lo
  · go_wp2_with fail
    go_ret
    exact ⟨rfl, b4⟩
  have wd : IntKind.i64.wrap (hi - lo) = hi - lo := by simp [IntKind.wrap, IntKind.bits, IntKind.signed]; omega
  by_cases h6 : 60 < hi - lo
  · go_wp2_with fail
    go_ret
    exact ⟨rfl, b4⟩
  go_upto_region 5 with fail
  clear d1 d2
  go_cut [9, 10] (fun a b wx => ∃ gA gB : Nat, a = .pointer (some ⟨gA, 0, none⟩) ∧ b = .pointer (some ⟨gB, 0, none⟩) ∧ gA ≠ gB ∧ g0 ≠ gA ∧ g0 ≠ gB ∧ W4.heap.size ≤ gA ∧ W4.heap.size ≤ gB ∧ Below W4.heap.size W4 wx ∧ Blk wx gA 42 r.C ∧ Blk wx gB 42 r.C)
  case first =>
    refine wp_region_held_drew (S := fun w' => Below W4.heap.size W4 w' ∧ Blk w' g0 42 r.C ∧ ldT 42 (.pointer (some ⟨g0, 0, none⟩)) w' = some r.C) (by kernel_rfl) (s5_mk (Below.refl _ _).drew x4.drew) (fun hHeld => ?_)
    generalize W4.drew = Wd at *
    refine wpAnyH_take (i := 0) (oi := { dst := some 61, op := Op.load 42 (Operand.tmp 4), type := 42, pos := "top08.go:61", after := #[], guard := none }) (v := ?_) rfl (by kernel_rfl) (by kernel_rfl) (by kernel_rfl) (fun _ _ _ h => h) (Or.inl ⟨by rfl, ?_⟩) hHeld ?_
    rotate_left
    · intro w hSw
      try dsimp only at hSw
      go_simp
      try with_reducible rfl
    try simp only [Act.put, List.setIfInBounds_toArray, List.set_cons_zero, List.set_cons_succ]
    refine wpAnyH_take (i := 1) (oi := { dst := some 62, op := Op.load 42 (Operand.tmp 4), type := 42, pos := "top08.go:61", after := #[{ on := 4, ground := Ground.gcOnly Departure.lateStores }], guard := none }) (v := ?_) rfl (by kernel_rfl) (by kernel_rfl) (by kernel_rfl) (fun _ _ _ h => h) (Or.inl ⟨by rfl, ?_⟩) hHeld ?_
    rotate_left
    · intro w hSw
      try dsimp only at hSw
      go_simp
      try with_reducible rfl
    try simp only [Act.put, List.setIfInBounds_toArray, List.set_cons_zero, List.set_cons_succ]
    refine wpAnyH_ready (rs := [2, 3]) (by kernel_rfl) (by simp) ?_
    refine AllReadyH.cons (o := { dst := some 9, op := Op.alloc 42, type := 0, pos := "top08.go:61", after := #[], guard := none }) rfl (fun K hK => ?_) (AllReadyH.cons (o := { dst := some 10, op := Op.alloc 42, type := 0, pos := "top08.go:61", after := #[], guard := none }) rfl (fun K hK => ?_) (AllReadyH.nil))
    · skip
      go_simp
      have al_1 : Below Wd.heap.size Wd (Wd.alloc (.cells ruZ 42)) := Below.alloc (Below.refl _ _) (Nat.le_refl _) _
      have ya_1 := Blk.new Wd 42 ruZ
      have HB_1 := hHeld.1.trans (al_1.mono hHeld.1.size); have HX_1 := hHeld.2.1.below al_1 hHeld.2.1.lt
      have hge_1 := hHeld.1.size; have hg0_1 := hHeld.2.1.lt
      generalize Wd.alloc (.cells ruZ 42) = W_1 at *
      obtain ⟨gA, hg_1⟩ : ∃ g, Wd.heap.size = g := ⟨_, rfl⟩
      rw [hg_1] at ya_1 hge_1 hg0_1 ⊢
      clear al_1 hg_1
      refine hK.out _ _ (s5_mk HB_1 HX_1) (fun hHeld2 => ?_)
      clear hK K hHeld; have hHeld := hHeld2; clear hHeld2
      try simp only [Act.put, List.setIfInBounds_toArray, List.set_cons_zero, List.set_cons_succ]
      refine wpAnyH_ready (rs := [3]) (by kernel_rfl) (by simp) ?_
      refine AllReadyH.cons (o := { dst := some 10, op := Op.alloc 42, type := 0, pos := "top08.go:61", after := #[], guard := none }) rfl (fun K hK => ?_) (AllReadyH.nil)
      go_simp
      have al_2 : Below W_1.heap.size W_1 (W_1.alloc (.cells ruZ 42)) := Below.alloc (Below.refl _ _) (Nat.le_refl _) _
      have ya_2 := ya_1.below al_2 ya_1.lt
      have yb_2 := Blk.new W_1 42 ruZ
      have HB_2 := hHeld.1.trans (al_2.mono hHeld.1.size); have HX_2 := hHeld.2.1.below al_2 hHeld.2.1.lt
      have hge_2 := hHeld.1.size; have hg0_2 := hHeld.2.1.lt
      have hlo_2 := ya_1.lt
      generalize W_1.alloc (.cells ruZ 42) = W_2 at *
      obtain ⟨gB, hg_2⟩ : ∃ g, W_1.heap.size = g := ⟨_, rfl⟩
      rw [hg_2] at yb_2 hge_2 hg0_2 hlo_2 ⊢
      clear al_2 hg_2
      refine hK.out _ _ (s5_mk HB_2 HX_2) (fun hHeld2 => ?_)
      clear hK K hHeld; have hHeld := hHeld2; clear hHeld2
      try simp only [Act.put, List.setIfInBounds_toArray, List.set_cons_zero, List.set_cons_succ]
      refine wpAnyH_ready (rs := [4]) (by kernel_rfl) (by simp) ?_
      refine AllReadyH.cons (o := { dst := none, op := Op.store 42 (Operand.tmp 9) (Operand.tmp 61), type := 0, pos := "top08.go:61", after := #[{ on := 2, ground := Ground.data }, { on := 0, ground := Ground.data }, { on := 0, ground := Ground.phase }, { on := 1, ground := Ground.textOnly Departure.lateStores }, { on := 2, ground := Ground.phase }, { on := 3, ground := Ground.phase }], guard := none }) rfl (fun K hK => ?_) (AllReadyH.nil)
      rw [if_pos (by rfl)]
      refine wp_store_g 42 (.tmp 9) (.tmp 61) rfl rfl gA 0 r.C r.C rfl rfl _ _ ya_2 (Nat.le_refl 11) (by kernel_rfl) (by kernel_rfl) (by kernel_rfl) ?_
      have HB_3 := hHeld.1.trans (below_row (Below.refl W4.heap.size W_2) (show W4.heap.size ≤ gA by omega) r.C); have HX_3 := Blk.rowFar hHeld.2.1 (show g0 ≠ gA by omega) r.C
      have ya_3 := Blk.row ya_2 r.C
      have yb_3 := Blk.rowFar yb_2 (show gB ≠ gA by omega) r.C
      generalize W_2.setRow gA r.C = W_3 at *
      refine hK.out _ _ (s5_mk HB_3 HX_3) (fun hHeld2 => ?_)
      clear hK K hHeld; have hHeld := hHeld2; clear hHeld2
      try simp only [Act.put, List.setIfInBounds_toArray, List.set_cons_zero, List.set_cons_succ]
      refine wpAnyH_ready (rs := [5]) (by kernel_rfl) (by simp) ?_
      refine AllReadyH.cons (o := { dst := none, op := Op.store 42 (Operand.tmp 10) (Operand.tmp 62), type := 0, pos := "top08.go:61", after := #[{ on := 3, ground := Ground.data }, { on := 1, ground := Ground.data }, { on := 4, ground := Ground.chain }, { on := 0, ground := Ground.phase }, { on := 1, ground := Ground.phase }, { on := 2, ground := Ground.phase }, { on := 3, ground := Ground.phase }, { on := 4, ground := Ground.phase }], guard := none }) rfl (fun K hK => ?_) (AllReadyH.nil)
      rw [if_pos (by rfl)]
      refine wp_store_g 42 (.tmp 10) (.tmp 62) rfl rfl gB 0 r.C r.C rfl rfl _ _ yb_3 (Nat.le_refl 11) (by kernel_rfl) (by kernel_rfl) (by kernel_rfl) ?_
      have HB_4 := hHeld.1.trans (below_row (Below.refl W4.heap.size W_3) (show W4.heap.size ≤ gB by omega) r.C); have HX_4 := Blk.rowFar hHeld.2.1 (show g0 ≠ gB by omega) r.C
      have yb_4 := Blk.row yb_3 r.C
      have ya_4 := Blk.rowFar ya_3 (show gA ≠ gB by omega) r.C
      generalize W_3.setRow gB r.C = W_4 at *
      refine hK.out _ _ (s5_mk HB_4 HX_4) (fun hHeld2 => ?_)
      clear hK K hHeld; have hHeld := hHeld2; clear hHeld2
      try simp only [Act.put, List.setIfInBounds_toArray, List.set_cons_zero, List.set_cons_succ]
      refine wpAnyH_done (by kernel_rfl) ?_ _
      go_wp2_with fail
      go_meet
      exact ⟨gA, gB, rfl, rfl, by omega, by omega, by omega, by omega, by omega, hHeld.1, ya_4, yb_4⟩
    · skip
      go_simp
      have al_5 : Below Wd.heap.size Wd (Wd.alloc (.cells ruZ 42)) := Below.alloc (Below.refl _ _) (Nat.le_refl _) _
      have yb_5 := Blk.new Wd 42 ruZ
      have HB_5 := hHeld.1.trans (al_5.mono hHeld.1.size); have HX_5 := hHeld.2.1.below al_5 hHeld.2.1.lt
      have hge_5 := hHeld.1.size; have hg0_5 := hHeld.2.1.lt
      generalize Wd.alloc (.cells ruZ 42) = W_5 at *
      obtain ⟨gB, hg_5⟩ : ∃ g, Wd.heap.size = g := ⟨_, rfl⟩
      rw [hg_5] at yb_5 hge_5 hg0_5 ⊢
      clear al_5 hg_5
      refine hK.out _ _ (s5_mk HB_5 HX_5) (fun hHeld2 => ?_)
      clear hK K hHeld; have hHeld := hHeld2; clear hHeld2
      try simp only [Act.put, List.setIfInBounds_toArray, List.set_cons_zero, List.set_cons_succ]
      refine wpAnyH_ready (rs := [2]) (by kernel_rfl) (by simp) ?_
      refine AllReadyH.cons (o := { dst := some 9, op := Op.alloc 42, type := 0, pos := "top08.go:61", after := #[], guard := none }) rfl (fun K hK => ?_) (AllReadyH.nil)
      go_simp
      have al_6 : Below W_5.heap.size W_5 (W_5.alloc (.cells ruZ 42)) := Below.alloc (Below.refl _ _) (Nat.le_refl _) _
      have yb_6 := yb_5.below al_6 yb_5.lt
      have ya_6 := Blk.new W_5 42 ruZ
      have HB_6 := hHeld.1.trans (al_6.mono hHeld.1.size); have HX_6 := hHeld.2.1.below al_6 hHeld.2.1.lt
      have hge_6 := hHeld.1.size; have hg0_6 := hHeld.2.1.lt
      have hlo_6 := yb_5.lt
      generalize W_5.alloc (.cells ruZ 42) = W_6 at *
      obtain ⟨gA, hg_6⟩ : ∃ g, W_5.heap.size = g := ⟨_, rfl⟩
      rw [hg_6] at ya_6 hge_6 hg0_6 hlo_6 ⊢
      clear al_6 hg_6
      refine hK.out _ _ (s5_mk HB_6 HX_6) (fun hHeld2 => ?_)
      clear hK K hHeld; have hHeld := hHeld2; clear hHeld2
      try simp only [Act.put, List.setIfInBounds_toArray, List.set_cons_zero, List.set_cons_succ]
      refine wpAnyH_ready (rs := [4]) (by kernel_rfl) (by simp) ?_
      refine AllReadyH.cons (o := { dst := none, op := Op.store 42 (Operand.tmp 9) (Operand.tmp 61), type := 0, pos := "top08.go:61", after := #[{ on := 2, ground := Ground.data }, { on := 0, ground := Ground.data }, { on := 0, ground := Ground.phase }, { on := 1, ground := Ground.textOnly Departure.lateStores }, { on := 2, ground := Ground.phase }, { on := 3, ground := Ground.phase }], guard := none }) rfl (fun K hK => ?_) (AllReadyH.nil)
      rw [if_pos (by rfl)]
      refine wp_store_g 42 (.tmp 9) (.tmp 61) rfl rfl gA 0 r.C r.C rfl rfl _ _ ya_6 (Nat.le_refl 11) (by kernel_rfl) (by kernel_rfl) (by kernel_rfl) ?_
      have HB_7 := hHeld.1.trans (below_row (Below.refl W4.heap.size W_6) (show W4.heap.size ≤ gA by omega) r.C); have HX_7 := Blk.rowFar hHeld.2.1 (show g0 ≠ gA by omega) r.C
      have ya_7 := Blk.row ya_6 r.C
      have yb_7 := Blk.rowFar yb_6 (show gB ≠ gA by omega) r.C
      generalize W_6.setRow gA r.C = W_7 at *
      refine hK.out _ _ (s5_mk HB_7 HX_7) (fun hHeld2 => ?_)
      clear hK K hHeld; have hHeld := hHeld2; clear hHeld2
      try simp only [Act.put, List.setIfInBounds_toArray, List.set_cons_zero, List.set_cons_succ]
      refine wpAnyH_ready (rs := [5]) (by kernel_rfl) (by simp) ?_
      refine AllReadyH.cons (o := { dst := none, op := Op.store 42 (Operand.tmp 10) (Operand.tmp 62), type := 0, pos := "top08.go:61", after := #[{ on := 3, ground := Ground.data }, { on := 1, ground := Ground.data }, { on := 4, ground := Ground.chain }, { on := 0, ground := Ground.phase }, { on := 1, ground := Ground.phase }, { on := 2, ground := Ground.phase }, { on := 3, ground := Ground.phase }, { on := 4, ground := Ground.phase }], guard := none }) rfl (fun K hK => ?_) (AllReadyH.nil)
      rw [if_pos (by rfl)]
      refine wp_store_g 42 (.tmp 10) (.tmp 62) rfl rfl gB 0 r.C r.C rfl rfl _ _ yb_7 (Nat.le_refl 11) (by kernel_rfl) (by kernel_rfl) (by kernel_rfl) ?_
      have HB_8 := hHeld.1.trans (below_row (Below.refl W4.heap.size W_7) (show W4.heap.size ≤ gB by omega) r.C); have HX_8 := Blk.rowFar hHeld.2.1 (show g0 ≠ gB by omega) r.C
      have yb_8 := Blk.row yb_7 r.C
      have ya_8 := Blk.rowFar ya_7 (show gA ≠ gB by omega) r.C
      generalize W_7.setRow gB r.C = W_8 at *
      refine hK.out _ _ (s5_mk HB_8 HX_8) (fun hHeld2 => ?_)
      clear hK K hHeld; have hHeld := hHeld2; clear hHeld2
      try simp only [Act.put, List.setIfInBounds_toArray, List.set_cons_zero, List.set_cons_succ]
      refine wpAnyH_done (by kernel_rfl) ?_ _
      go_wp2_with fail
      go_meet
      exact ⟨gA, gB, rfl, rfl, by omega, by omega, by omega, by omega, by omega, hHeld.1, ya_8, yb_8⟩
  case rest =>
    obtain ⟨gA, gB, rfl, rfl, n1, n2, n3, hgA, hgB, bx, ya, yb⟩ := hcut
    have x5 := x4.below bx x4.lt; have b5 := b4.trans (bx.mono b4.size); have hG4 := b4.size; clear bx x4 b4
    have w1 : IntKind.i64.wrap (mid - 1) = mid - 1 := by simp [IntKind.wrap, IntKind.bits, IntKind.signed]; omega
    have ca : wc.cell? ⟨gA, 2, none⟩ = some (.int .i64 r.tt) := ya.cell 2
    have fa := ya.frozen 2
    have ya2 : Blk (wc.setCell ⟨gA, 2, none⟩ (.int .i64 (mid - 1))) gA 42 (ruTo r (mid - 1)).C := ya.set_ 2 (.int .i64 (mid - 1))
    have yb2 := yb.far (p := ⟨gA, 2, none⟩) (fun e => n1 e.symm) (.int .i64 (mid - 1))
    have x6 := x5.far (p := ⟨gA, 2, none⟩) n2 (.int .i64 (mid - 1))
    have b6 := b5.setCell (p := ⟨gA, 2, none⟩) (show w.heap.size ≤ gA from Nat.le_trans hG4 hgA) (.int .i64 (mid - 1))
    have cb : (wc.setCell ⟨gA, 2, none⟩ (.int .i64 (mid - 1))).cell? ⟨gB, 1, none⟩ = some (.int .i64 r.fr) := yb2.cell 1
    have fb := yb2.frozen 1
    have yb3 : Blk ((wc.setCell ⟨gA, 2, none⟩ (.int .i64 (mid - 1))).setCell ⟨gB, 1, none⟩ (.int .i64 mid)) gB 42 (ruFr r mid).C := yb2.set_ 1 (.int .i64 mid)
    have ya3 := ya2.far (p := ⟨gB, 1, none⟩) n1 (.int .i64 mid)
    have x7 := x6.far (p := ⟨gB, 1, none⟩) n3 (.int .i64 mid)
    have b7 := b6.setCell (p := ⟨gB, 1, none⟩) (show w.heap.size ≤ gB from Nat.le_trans hG4 hgB) (.int .i64 mid)
    clear ya yb ya2 yb2 x5 x6 b5 b6
    go_step
    go_upto_region 7 with fail
    generalize (wc.setCell ⟨gA, 2, none⟩ (.int .i64 (mid - 1))).setCell ⟨gB, 1, none⟩ (.int .i64 mid) = W7 at *
    clear ca fa cb fb
    have x8 := x7.alloc (.cells r.C 42); have ya8 := ya3.alloc (.cells r.C 42); have yb8 := yb3.alloc (.cells r.C 42); have b8 := bal b7 (.cells r.C 42); have y8 := Blk.new W7 42 r.C
    have hof := Of_any (some ⟨W7.heap.size, 0, none⟩) 1 1 [r] lo hi _ (one_sls y8) (bd_one hB) (by decide) (hT.below hT.1 b8) (ok_one HRO.out) (by omega) (by omega) (by omega) (by omega)
    go_wp2_with (refine wpList_row_g rfl 42 _ rfl _ rfl _ _ _ _ x7 Tryd.underlying42 rfl (by kernel_rfl) ?_)
    refine hof.mono ?_; rintro e_ W9 ⟨hb, gx, k0, N, rfl, hk0, hN⟩
    have x9 := x8.below hb x8.lt; have ya9 := ya8.below hb ya8.lt; have yb9 := yb8.below hb yb8.lt; have b9 := b8.trans (hb.mono b8.size)
    clear hb x8 ya8 yb8 b8 y8 hof x7 ya3 yb3 b7
    have hk1 : k0 ≤ 1 := Nat.le_trans hk0 (plK_len [r] 1)
    have hs := sumY_le [r] lo (hi + 1 - lo).toNat
    have hsz : N ≤ 20000 := by
      have : sumY [r] lo (hi + 1 - lo).toNat ≤ (hi + 1 - lo).toNat := by simpa using hs
      omega
    have HN := Lib.hid hN
    clear hN hs hk0
    go_upto_region 8 with fail
    go_cut [13] (fun v wx => v = .int .i64 0 ∧ wx = W9)
    case first =>
      go_wp2_with fail
      go_meet
      exact ⟨rfl, rfl⟩
    case rest =>
      obtain ⟨rfl, rfl⟩ := hcut
      go_step
      exact ty_b hT HRO (Lib.hid hB) (by omega) (by omega) (by omega) (by omega) (by omega) hk1 HN hsz b9 x9 ya9 yb9
end Go.Proofs.YtoklcbkphipmkaaDoor.Oc
