/-
  TopLinked: walked.
-/
import Derived.Test.YtnoaeejdcdeanaaDoorVaK
import Derived.BigQuiet
namespace Go.Proofs.YtnoaeejdcdeanaaDoor.Va
open Go.ChangeShapes Go.WideShapes Go.ChangeAt Go.RowKit Go.Shelf
open Go.Proofs.YtnoaeejdcdeanaaDoor
open Go.Proofs.YtnoaeejdcdeanaaDoor.Wd
open Go.Proofs.YtnoaeejdcdeanaaDoor.Sr
open Go.Proofs.YtnoaeejdcdeanaaDoor.Sl
set_option linter.unusedVariables false
set_option linter.unusedSimpArgs false
open Go.Proofs.YtnoaeejdcdeanaaDoor.Civ (Tab)
open Go.Proofs.YtnoaeejdcdeanaaDoor.Ab (Tb)
open Go.Proofs.YtnoaeejdcdeanaaDoor.Lk (own_slice nmB names_any stV lead keys Txs alL AliP aliases_any own_ge info_str)
def OneP (w : World) (e : Ending) (w' : World) : Prop := e = .returned (.bool true) ∧ Below w.heap.size w w'
theorem info_lk : (Tryd.prog.info? 32).map (fun i => (i.zero, i.size, i.bytes)) = some (some (.agg #[.string ByteArray.empty, .string ByteArray.empty]), 2, 32) := by kernel_rfl
theorem li_one (l : Li) : l.C.all (·.oneCell') = true := by simp [Value.oneCell']
theorem own_lit0 (w : World) {base : Nat} (hb : base ≤ w.heap.size) : (w.alloc (.cells (#[] : Array Value) 32)).ownsRow base 32 2 (.slice (some ⟨w.heap.size, 0, none⟩) 0 0) 0 [] :=
  World.ownsRow_lit (base := base) (e := 32) (size := 2) w (#[] : Array Value) 0 hb (by unfold maxLen; omega) rfl
abbrev moreH (h : Hd) (A : Option Addr) (n c : Nat) : Hd := ⟨h.rA, h.rn, h.rc, h.zA, h.zn, h.zc, A, n, c⟩
theorem more_ok {w W : World} {B : Nat} {h : Hd} {S : So} {A : Option Addr} {n c : Nat} {l : List Li} (hS : SoR w B h S) (hl : Sls Li.C 2 W B A n (S.ls ++ l)) (hb : Below B w W) (hp : ∀ a ∈ l, LiOk a) (hm : n ≤ maxLen) (hc : n ≤ c) : SoR W B (moreH h A n c) (moreL S l) :=
  have k := hS.below hb
  ⟨k.r, k.z, hl, k.rb, k.zb, fun a ha => (List.mem_append.1 ha).elim (k.lb a) (hp a), k.rm, k.zm, ⟨hm, hc⟩⟩
theorem own_cap {w : World} {base e size n c : Nat} {A : Option Addr} {xs : List Value} (h : w.ownsRow base e size (.slice A n c) n xs) : n ≤ c := by
  rcases h.2 with ⟨e, rfl⟩ | ⟨g', cap, cur, e, _, _, hc, _⟩
  · exact Nat.zero_le _
  · injection e with _ _ e; omega
theorem soz_of {h : Hd} {S : So} (x : SoS h S) : SoZ h S := ⟨x.rn, x.zn, by have := x.ln; omega, x.z, x.r, x.l⟩
theorem name_small {h : Hd} {S : So} (x : SoS h S) {s : ByteArray} (hs : s ∈ nmB S) : s.size ≤ 1000 := by
  rcases List.mem_append.1 hs with g | g
  · obtain ⟨z, hz, rfl⟩ := List.mem_map.1 g; exact (x.z z hz).2.1
  · obtain ⟨z, hz, rfl⟩ := List.mem_map.1 g; exact (x.l z hz).2
theorem name_right {S : So} (x : SoOk S) {s : ByteArray} (hs : s ∈ nmB S) : Nv.nmB s = true := by
  rcases List.mem_append.1 hs with g | g
  · obtain ⟨z, hz, rfl⟩ := List.mem_map.1 g; exact (x.z z hz).nm
  · obtain ⟨z, hz, rfl⟩ := List.mem_map.1 g; exact (x.l z hz).2
theorem soz_more {h : Hd} {S : So} (x : SoS h S) {A0 : Option Addr} {c : Nat} {l : List Li} (hl : l.length ≤ 2) (hp : ∀ a ∈ l, LiS a) : SoZ (moreH h A0 (h.ln + l.length) c) (moreL S l) :=
  ⟨x.rn, x.zn, by show h.ln + l.length ≤ 22; have := x.ln; omega, x.z, x.r, fun a ha => (List.mem_append.1 ha).elim (x.l a) (hp a)⟩
theorem sook_more {S : So} (x : SoOk S) {l : List Li} (hp : ∀ a ∈ l, LiRt a) : SoOk (moreL S l) := ⟨x.r, x.z, fun a ha => (List.mem_append.1 ha).elim (x.l a) (hp a)⟩
theorem names_keys (S : So) : (names S).map key = znames S ++ lnames S := by unfold names znames lnames; rw [List.map_append, List.map_map, List.map_map]; rfl
theorem al_len {S : So} {x : ByteArray} {y : Int} (h : lead (net S) (key x) = ⟨y, 0⟩) {l : List ByteArray} (hl : keys l = alL S x) : l.length = (Lk.onceP (fun k => decide (lead (net S) k = lead (net S) (key x))) ((names S).map key)).length := by
  have : (keys l).length = l.length := List.length_map ..
  rw [← this, hl, alL, h, if_pos rfl, names_keys]
/-- what the law leans on, from the place on where the source with a link more is made -/
structure Lnk (w W : World) (h hT : Hd) (S T : So) (g0 gt : Nat) (A7 : Option Addr) (l : List ByteArray) (c7 : Nat) : Prop where
  s : SoR W W.heap.size h S
  t : SoR W W.heap.size hT T
  x : Blk W g0 26 h.C
  y : Blk W gt 26 hT.C
  n : Txs W W.heap.size A7 l.length l
  b : Below w.heap.size w W
theorem Lnk.below {w W W' : World} {h hT : Hd} {S T : So} {g0 gt : Nat} {A7 : Option Addr} {l : List ByteArray} {c7 : Nat} (k : Lnk w W h hT S T g0 gt A7 l c7) (hb : Below W.heap.size W W') : Lnk w W' h hT S T g0 gt A7 l c7 :=
  ⟨(k.s.below hb).more hb.size, (k.t.below hb).more hb.size, k.x.below hb k.x.lt, k.y.below hb k.y.lt, (k.n.below hb).more hb.size, bcl k.b hb⟩
theorem Lnk.drew {w W : World} {h hT : Hd} {S T : So} {g0 gt : Nat} {A7 : Option Addr} {l : List ByteArray} {c7 : Nat} (k : Lnk w W h hT S T g0 gt A7 l c7) : Lnk w W.drew h hT S T g0 gt A7 l c7 := k.below (Below.refl _ _).drew
set_option maxRecDepth 100000 in
set_option maxHeartbeats 25600000 in
theorem linked_any (h : Hd) (S : So) (k n : Int) (w : World) (hT : Tab w) (hTb : Tb w) (hS : SoR w w.heap.size h S) (hz0 : h.zn ≤ 5864062014805) (hl0 : h.ln ≤ 4398046511104) (hk : 0 ≤ k ∧ k ≤ 255) (hn : 0 ≤ n ∧ n ≤ 255) : Calls Tryd.prog 4 #[h.V, .int .u8 k, .int .u8 n] w (OneP w) := by
  have HTb := Lib.hid hTb; have HT := Lib.hid hT; have HS := Lib.hid hS
  have x := Blk.new w 26 h.C
  have b := bal (Below.refl _ w) (.cells h.C 26)
  clear hS hTb hT
  go_enter Tryd.func4, Tryd.ntmps4
  go_upto_region 1 with fail
  generalize w.alloc (.cells h.C 26) = W at *
  obtain ⟨g0, hg⟩ : ∃ g, w.heap.size = g := ⟨_, rfl⟩
  have x0 : Blk W g0 26 h.C := by rw [← hg]; exact x
  rw [hg]
  have Hg := Lib.hid hg; clear hg x
  have hbg := begins7_any W (HT.out.below HT.out.1 b) (HTb.out.bel b)
  go_wp2_with fail
  refine hbg.mono ?_; rintro e0 W1 ⟨rfl, hb⟩
  have x1 := x0.below hb x0.lt; have b1 := bcl b hb; clear hb x0 b hbg
  go_wp2_with (refine wpList_row_g rfl 26 _ rfl _ rfl _ _ _ _ x1 Tryd.underlying26 rfl (by kernel_rfl) ?_)
  refine (names_any h S W1 ((HS.out.below b1).more b1.size) hz0 hl0).mono ?_; rintro e0 W2 ⟨A7, c7, rfl, hown, hb⟩
  have x2 := x1.below hb x1.lt; have b2 := bcl b1 hb
  have N2 : Txs W2 W2.heap.size A7 (nmB S).length (nmB S) := ⟨rfl, Reads.of_own hown, Lk.nmB_size HS.out⟩
  clear hb x1 b1 hown
  go_wp2_with (refine wpList_row_g rfl 26 _ rfl _ rfl _ _ _ _ x2 Tryd.underlying26 rfl (by kernel_rfl) ?_)
  refine (small_any h S W2 ((HS.out.below b2).more b2.size)).mono ?_; rintro e0 W3 ⟨hsm, hb⟩
  have x3 := x2.below hb x2.lt; have b3 := bcl b2 hb; have N3 := (N2.below hb).more hb.size; clear hb x2 b2 N2
  rcases hsm with rfl | ⟨rfl, hss⟩
  · go_wp2_with fail
    go_ret
    exact ⟨rfl, b3⟩
  · have HSS := Lib.hid hss; clear hss
    have hT3 := HT.out.below HT.out.1 b3; have hTb3 := HTb.out.bel b3; have S3 := (HS.out.below b3).more b3.size
    by_cases hw : WellP S
    · have hwl := well_any h S W3 hT3 hTb3 S3 (soz_of HSS.out) true ⟨fun _ => hw, fun _ => rfl⟩
      have HW := Lib.hid hw; clear hw hT3 hTb3 S3
      go_wp2_with (refine wpList_row_g rfl 26 _ rfl _ rfl _ _ _ _ x3 Tryd.underlying26 rfl (by kernel_rfl) ?_)
      refine hwl.mono ?_; rintro e0 W4 ⟨rfl, hb⟩
      have x4 := x3.below hb x3.lt; have b4 := bcl b3 hb; have N4 := (N3.below hb).more hb.size; clear hb x3 b3 N3 hwl
      obtain ⟨l, hl⟩ : ∃ l, nmB S = l := ⟨_, rfl⟩
      have hll : l.length ≤ 100 := by rw [← hl, Lk.nmB_len, HS.out.z.len, HS.out.l.len]; have := HSS.out.zn; have := HSS.out.ln; omega
      rw [hl] at N4 ⊢
      have HL := Lib.hid hl; clear hl
      by_cases hl0 : l.length = 0
      · have e1 : ((l.length : Int) == 0) = true := by rw [hl0]; rfl
        have e2 : l = [] := List.eq_nil_of_length_eq_zero hl0
        clear hl0
        go_wp2_with fail
        go_ret
        exact ⟨rfl, b4⟩
      · have e1 : ((l.length : Int) == 0) = false := by rw [beq_eq_false_iff_ne]; omega
        have e3 : ¬ l = [] := fun e => hl0 (by rw [e]; rfl)
        obtain ⟨i, hki⟩ : ∃ i : Nat, k % (l.length : Int) = (i : Int) := ⟨(k % (l.length : Int)).toNat, by have := Int.emod_nonneg k (show (l.length : Int) ≠ 0 by omega); omega⟩
        have hil : i < l.length := by have := Int.emod_lt_of_pos k (show (0 : Int) < (l.length : Int) by omega); omega
        obtain ⟨ad, eA, hab, hc0⟩ := N4.at_ hil
        subst eA
        have hnl := getD_mem ByteArray.empty hil
        obtain ⟨name, hname⟩ : ∃ s, l.getD i ByteArray.empty = s := ⟨_, rfl⟩
        rw [hname] at hc0 hnl; clear hname
        have HNM := Lib.hid (show name ∈ nmB S by rw [HL.out]; exact hnl); clear hnl
        have hnz := name_small HSS.out HNM.out
        have hlI : (l.length : Int) ≤ 100 := by omega
        have hlI0 : (0 : Int) < (l.length : Int) := by omega
        have hiI : (0 : Int) ≤ (i : Int) := by omega
        have hiI2 : (i : Int) < (l.length : Int) := by omega
        have hk1 := hk.1; have hk2 := hk.2; have hn1 := hn.1; have hn2 := hn.2
        have wk : IntKind.i64.wrap k = k := by simp [IntKind.wrap, IntKind.bits, IntKind.signed]; omega
        have wn : IntKind.i64.wrap n = n := by simp [IntKind.wrap, IntKind.bits, IntKind.signed]; omega
        have hkt : k.tmod (l.length : Int) = (i : Int) := by rw [Int.tmod_eq_emod_of_nonneg hk1]; exact hki
        go_upto_region 6 with fail
        have s6 : W4.drew.cell? ⟨g0, 0, none⟩ = some (.slice h.rA h.rn h.rc) ∧ W4.drew.cell? ⟨g0, 1, none⟩ = some (.slice h.zA h.zn h.zc) ∧ W4.drew.cell? ⟨g0, 2, none⟩ = some (.slice h.lA h.ln h.lc) ∧ W4.drew.cell? (ad.add i) = some (.string name) := ⟨x4.cell 0, x4.cell 1, x4.cell 2, hc0⟩
        have hfr := fresh_any h S n W4.drew ((HS.out.below b4.drew).more (b4.drew).size) (soz_of HSS.out) (by omega)
        refine wp_region_held_drew (S := fun w' => w'.cell? ⟨g0, 0, none⟩ = some (.slice h.rA h.rn h.rc) ∧ w'.cell? ⟨g0, 1, none⟩ = some (.slice h.zA h.zn h.zc) ∧ w'.cell? ⟨g0, 2, none⟩ = some (.slice h.lA h.ln h.lc) ∧ w'.cell? (ad.add i) = some (.string name)) (by kernel_rfl) (s6) (fun hHeld => ?_)
        refine wpAnyH_take (i := 0) (oi := { dst := some 39, op := Op.move (Operand.tmp 7), type := 40, pos := "top07.go:46", after := #[], guard := none }) (v := ?_) rfl (by kernel_rfl) (by kernel_rfl) (by kernel_rfl) (fun _ _ _ h => h) (Or.inl ⟨by rfl, ?_⟩) hHeld ?_
        rotate_left
        · intro w hSw
          try dsimp only at hSw
          go_simp
          try with_reducible rfl
        try simp only [Act.put, List.setIfInBounds_toArray, List.set_cons_zero, List.set_cons_succ]
        refine wpAnyH_take (i := 1) (oi := { dst := some 40, op := Op.move (Operand.tmp 1), type := 5, pos := "top07.go:46", after := #[], guard := none }) (v := ?_) rfl (by kernel_rfl) (by kernel_rfl) (by kernel_rfl) (fun _ _ _ h => h) (Or.inl ⟨by rfl, ?_⟩) hHeld ?_
        rotate_left
        · intro w hSw
          try dsimp only at hSw
          go_simp
          try with_reducible rfl
        try simp only [Act.put, List.setIfInBounds_toArray, List.set_cons_zero, List.set_cons_succ]
        refine wpAnyH_take (i := 2) (oi := { dst := some 41, op := Op.convert 5 3 (Operand.tmp 40), type := 3, pos := "top07.go:46", after := #[{ on := 1, ground := Ground.data }], guard := none }) (v := ?_) rfl (by kernel_rfl) (by kernel_rfl) (by kernel_rfl) (fun _ _ _ h => h) (Or.inl ⟨by rfl, ?_⟩) hHeld ?_
        rotate_left
        · intro w hSw
          try dsimp only at hSw
          go_simp
          try with_reducible rfl
        try simp only [Act.put, List.setIfInBounds_toArray, List.set_cons_zero, List.set_cons_succ]
        refine wpAnyH_take (i := 3) (oi := { dst := some 42, op := Op.move (Operand.tmp 7), type := 40, pos := "top07.go:46", after := #[], guard := none }) (v := ?_) rfl (by kernel_rfl) (by kernel_rfl) (by kernel_rfl) (fun _ _ _ h => h) (Or.inl ⟨by rfl, ?_⟩) hHeld ?_
        rotate_left
        · intro w hSw
          try dsimp only at hSw
          go_simp
          try with_reducible rfl
        try simp only [Act.put, List.setIfInBounds_toArray, List.set_cons_zero, List.set_cons_succ]
        refine wpAnyH_take (i := 4) (oi := { dst := some 43, op := Op.call { callee := Callee.builtin Builtin.len, args := #[Operand.tmp 42], argTypes := #[40] }, type := 3, pos := "top07.go:46", after := #[{ on := 3, ground := Ground.data }], guard := none }) (v := ?_) rfl (by kernel_rfl) (by kernel_rfl) (by kernel_rfl) (fun _ _ _ h => h) (Or.inl ⟨by rfl, ?_⟩) hHeld ?_
        rotate_left
        · intro w hSw
          try dsimp only at hSw
          go_simp
          try with_reducible rfl
        try simp only [Act.put, List.setIfInBounds_toArray, List.set_cons_zero, List.set_cons_succ]
        refine wpAnyH_take (i := 5) (oi := { dst := some 44, op := Op.binOp BinOp.rem 3 (Operand.tmp 41) (Operand.tmp 43) 3, type := 3, pos := "top07.go:46", after := #[{ on := 2, ground := Ground.data }, { on := 4, ground := Ground.data }], guard := none }) (v := ?_) rfl (by kernel_rfl) (by kernel_rfl) (by kernel_rfl) (fun _ _ _ h => h) (Or.inl ⟨by rfl, ?_⟩) hHeld ?_
        rotate_left
        · intro w hSw
          try dsimp only at hSw
          go_simp
          try with_reducible rfl
        try simp only [Act.put, List.setIfInBounds_toArray, List.set_cons_zero, List.set_cons_succ]
        refine wpAnyH_take (i := 6) (oi := { dst := some 45, op := Op.indexAddr 40 (Operand.tmp 39) (Operand.tmp 44), type := 0, pos := "top07.go:46", after := #[{ on := 0, ground := Ground.data }, { on := 5, ground := Ground.data }], guard := none }) (v := ?_) rfl (by kernel_rfl) (by kernel_rfl) (by kernel_rfl) (fun _ _ _ h => h) (Or.inl ⟨by rfl, ?_⟩) hHeld ?_
        rotate_left
        · intro w hSw
          try dsimp only at hSw
          go_simp
          try with_reducible rfl
        try simp only [Act.put, List.setIfInBounds_toArray, List.set_cons_zero, List.set_cons_succ]
        refine wpAnyH_take (i := 7) (oi := { dst := some 46, op := Op.load 9 (Operand.tmp 45), type := 9, pos := "top07.go:46", after := #[{ on := 6, ground := Ground.data }], guard := none }) (v := ?_) rfl (by kernel_rfl) (by kernel_rfl) (by kernel_rfl) (fun _ _ _ h => h) (Or.inl ⟨by rfl, ?_⟩) hHeld ?_
        rotate_left
        · intro w hSw
          try dsimp only at hSw
          go_simp
          try with_reducible rfl
        try simp only [Act.put, List.setIfInBounds_toArray, List.set_cons_zero, List.set_cons_succ]
        refine wpAnyH_take (i := 8) (oi := { dst := some 47, op := Op.load 26 (Operand.tmp 3), type := 26, pos := "top07.go:46", after := #[], guard := none }) (v := ?_) rfl (by kernel_rfl) (by kernel_rfl) (by kernel_rfl) (fun _ _ _ h => h) (Or.inl ⟨by rfl, ?_⟩) hHeld ?_
        rotate_left
        · intro w hSw
          try dsimp only at hSw
          go_simp
          try with_reducible rfl
        try simp only [Act.put, List.setIfInBounds_toArray, List.set_cons_zero, List.set_cons_succ]
        refine wpAnyH_take (i := 9) (oi := { dst := some 48, op := Op.move (Operand.tmp 2), type := 5, pos := "top07.go:46", after := #[], guard := none }) (v := ?_) rfl (by kernel_rfl) (by kernel_rfl) (by kernel_rfl) (fun _ _ _ h => h) (Or.inl ⟨by rfl, ?_⟩) hHeld ?_
        rotate_left
        · intro w hSw
          try dsimp only at hSw
          go_simp
          try with_reducible rfl
        try simp only [Act.put, List.setIfInBounds_toArray, List.set_cons_zero, List.set_cons_succ]
        refine wpAnyH_take (i := 10) (oi := { dst := some 49, op := Op.convert 5 3 (Operand.tmp 48), type := 3, pos := "top07.go:46", after := #[{ on := 9, ground := Ground.data }], guard := none }) (v := ?_) rfl (by kernel_rfl) (by kernel_rfl) (by kernel_rfl) (fun _ _ _ h => h) (Or.inl ⟨by rfl, ?_⟩) hHeld ?_
        rotate_left
        · intro w hSw
          try dsimp only at hSw
          go_simp
          try with_reducible rfl
        try simp only [Act.put, List.setIfInBounds_toArray, List.set_cons_zero, List.set_cons_succ]
        refine wpAnyH_ready (rs := [11]) (by kernel_rfl) (by simp) ?_
        refine AllReadyH.cons (o := { dst := some 50, op := Op.call { callee := Callee.value (Operand.func 8), args := #[Operand.tmp 47, Operand.tmp 49], argTypes := #[26, 3] }, type := 9, pos := "top07.go:46", after := #[{ on := 8, ground := Ground.data }, { on := 10, ground := Ground.data }], guard := none }) rfl (fun K hK => ?_) (AllReadyH.nil)
        go_simp
        refine hfr.mono ?_; rintro e0 W5 ⟨fresh, rfl, hf1, hf2, hb⟩
        try go_wp2_with fail
        have hbk : Below W4.heap.size W4 W5 := (Below.refl _ W4).drew.trans hb
        refine hK.out _ _ (⟨(hb.cell (p := ⟨g0, 0, none⟩) x4.lt).trans hHeld.1, (hb.cell (p := ⟨g0, 1, none⟩) x4.lt).trans hHeld.2.1, (hb.cell (p := ⟨g0, 2, none⟩) x4.lt).trans hHeld.2.2.1, (hb.cell (p := ad.add i) (by rw [block_of_add]; exact hab)).trans hHeld.2.2.2⟩) (fun hHeld2 => ?_)
        clear hK K hHeld; have hHeld := hHeld2; clear hHeld2
        try simp only [Act.put, List.setIfInBounds_toArray, List.set_cons_zero, List.set_cons_succ]
        refine wpAnyH_take (i := 12) (oi := { dst := some 8, op := Op.assign (Operand.tmp 46), type := 9, pos := "top07.go:46", after := #[{ on := 7, ground := Ground.data }, { on := 11, ground := Ground.chain }, { on := 0, ground := Ground.phase }, { on := 1, ground := Ground.phase }, { on := 2, ground := Ground.phase }, { on := 3, ground := Ground.phase }, { on := 4, ground := Ground.phase }, { on := 5, ground := Ground.phase }, { on := 6, ground := Ground.phase }, { on := 7, ground := Ground.phase }, { on := 8, ground := Ground.textOnly Departure.lateStores }, { on := 9, ground := Ground.textOnly Departure.lateStores }, { on := 10, ground := Ground.textOnly Departure.lateStores }, { on := 11, ground := Ground.textOnly Departure.lateStoresUnsure }], guard := none }) (v := ?_) rfl (by kernel_rfl) (by kernel_rfl) (by kernel_rfl) (fun _ _ _ h => h) (Or.inl ⟨by rfl, ?_⟩) hHeld ?_
        rotate_left
        · intro w hSw
          try dsimp only at hSw
          go_simp
          try with_reducible rfl
        try simp only [Act.put, List.setIfInBounds_toArray, List.set_cons_zero, List.set_cons_succ]
        refine wpAnyH_take (i := 13) (oi := { dst := some 9, op := Op.assign (Operand.tmp 50), type := 9, pos := "top07.go:46", after := #[{ on := 11, ground := Ground.data }, { on := 12, ground := Ground.chain }, { on := 0, ground := Ground.phase }, { on := 1, ground := Ground.phase }, { on := 2, ground := Ground.phase }, { on := 3, ground := Ground.phase }, { on := 4, ground := Ground.phase }, { on := 5, ground := Ground.phase }, { on := 6, ground := Ground.phase }, { on := 7, ground := Ground.phase }, { on := 8, ground := Ground.phase }, { on := 9, ground := Ground.phase }, { on := 10, ground := Ground.phase }, { on := 11, ground := Ground.phase }, { on := 12, ground := Ground.phase }], guard := none }) (v := ?_) rfl (by kernel_rfl) (by kernel_rfl) (by kernel_rfl) (fun _ _ _ h => h) (Or.inl ⟨by rfl, ?_⟩) hHeld ?_
        rotate_left
        · intro w hSw
          try dsimp only at hSw
          go_simp
          try with_reducible rfl
        try simp only [Act.put, List.setIfInBounds_toArray, List.set_cons_zero, List.set_cons_succ]
        refine wpAnyH_done (by kernel_rfl) ?_ _
        clear hHeld
        have x5 := x4.below hbk x4.lt; have b5 := bcl b4 hbk; have N5 := (N4.below hbk).more hbk.size
        clear s6 hfr hb hbk x4 b4 N4 hc0 hab hki hiI hiI2 wk wn hkt hk1 hk2 hn1 hn2
        have HF2 := Lib.hid hf2; clear hf2
        skip
        obtain ⟨i0, hi0, hz1, hz2, hz3⟩ := info_parts info_lk
        have HI := Lib.hid hi0; clear hi0
        have q1 := HS.out.zm; have q2 := HS.out.lm; have q3 := HSS.out.ln; have q4 := HSS.out.zn
        have x13 := x5.alloc (.cells h.C 26); have y13 := Blk.new W5 26 h.C; have b13 := bal b5 (.cells h.C 26); have N13 := N5.below ((Below.refl _ W5).alloc (Nat.le_refl _) (.cells h.C 26))
        go_upto_region 8 with (first | (refine wpList_row_g rfl 26 _ rfl _ rfl _ _ _ _ x5 Tryd.underlying26 rfl (by kernel_rfl) ?_) | (refine wpList_store_new rfl 26 _ _ rfl rfl W5.heap.size h.C rfl rfl _ #[.slice none 0 0, .slice none 0 0, .slice none 0 0] W5 rfl rfl rfl (by kernel_rfl) (by kernel_rfl) ?_))
        have xl : g0 < W5.heap.size := x5.lt
        have wl : w.heap.size ≤ W5.heap.size := b5.size
        obtain ⟨gt, hgt⟩ : ∃ gt, W5.heap.size = gt := ⟨_, rfl⟩
        rw [hgt] at y13 N13 xl wl ⊢
        generalize W5.alloc (.cells h.C 26) = W13 at *
        have hgt13 : gt < W13.heap.size := y13.lt
        clear hgt x5 b5 N5
        have o0 := own_lit0 (base := W13.heap.size) W13 (Nat.le_refl _)
        have c14 := (Below.refl gt W13).alloc (Nat.le_of_lt hgt13) (.cells (#[] : Array Value) 32)
        have y14 := y13.alloc (.cells (#[] : Array Value) 32); have x14 := x13.alloc (.cells (#[] : Array Value) 32)
        have d2 : (W13.alloc (.cells (#[] : Array Value) 32)).cell? ⟨g0, 2, none⟩ = some (.slice h.lA h.ln h.lc) := x14.cell 2
        have hrd := (HS.out.below (b13.trans (c14.mono wl))).l.r
        have s14 : W13.heap.size ≤ (W13.alloc (.cells (#[] : Array Value) 32)).heap.size := by rw [sz1 _ _ rfl]; omega
        go_upto_region 9 with (first
  | (at_builtin; refine wpList_append_any _ rfl (.tmp 52) (.tmp 54) 24 rfl W13.heap.size 32 i0 _ 2 32 Tryd.underlying24 HI.out hz1 hz2 hz3 rfl (by decide) _ 0 _ rfl o0 _ _ h.ln h.lc (flat Li.C S.ls) rfl hrd (flat_cells li_one _) (by unfold maxLen; omega) (by omega) s14 ?_; intro v15 w15 o15 g15 at15
     have r0 := fun g (e : _ = some g) => own_ge o0 g e
     have c15 := c14.grown g15 (Nat.le_of_lt (by rw [sz1 _ _ rfl]; omega)) (fun g e => by have := (r0 g e).1; omega)
     have y15 := y14.grown g15 (fun e => by have := (r0 _ e.symm).1; omega)
     have s15 := Nat.le_trans s14 g15.size
     rw [List.nil_append] at o15
     clear c14 y14 x14 d2 hrd s14 o0 r0 g15 at15
     have c16 := c15.alloc (Nat.le_trans (Nat.le_of_lt hgt13) s15) (.cells #[.string name, .string fresh] 32)
     have y16 := y15.alloc (.cells #[.string name, .string fresh] 32)
     have o16 := o15.alloc (.cells #[.string name, .string fresh] 32)
     have q16 := (Sls.of_blk (f := Li.C) (sz := 2) (L := [⟨name, fresh⟩]) (fun _ => rfl) (Blk.new w15 32 #[.string name, .string fresh]) rfl).r
     have s16 : W13.heap.size ≤ (w15.alloc (.cells #[.string name, .string fresh] 32)).heap.size := by rw [sz1 _ _ rfl]; omega
     clear c15 y15 o15 s15)
  | (at_builtin; refine wpList_append_any _ rfl (.tmp 55) (.tmp 59) 24 rfl W13.heap.size 32 i0 _ 2 32 Tryd.underlying24 HI.out hz1 hz2 hz3 rfl (by decide) _ (0 + h.ln) _ rfl o16 _ _ 1 1 _ rfl q16 (flat_cells li_one _) (by unfold maxLen; omega) (by omega) s16 ?_; intro v17 w17 o17 g17 at17
     obtain ⟨A5, c5, rfl⟩ := own_slice o17
     have r16 := fun g (e : _ = some g) => own_ge o16 g e
     have c17 := c16.grown g17 (Nat.le_trans (Nat.le_of_lt hgt13) s16) (fun g e => by have := (r16 g e).1; omega)
     have y17 := y16.grown g17 (fun e => by have := (r16 _ e.symm).1; omega)
     have s17 := Nat.le_trans s16 g17.size
     rw [← flat_append] at o17
     simp only [Nat.zero_add] at o17
     clear c16 y16 o16 q16 s16 r16 g17 at17
     have y17c : w17.cell? ⟨gt, 2, none⟩ = some (.slice h.lA h.ln h.lc) := y17.cell 2
     have y17f := y17.frozen 2
     have c18 := c17.setCell (p := ⟨gt, 2, none⟩) (Nat.le_refl gt) (.slice A5 (h.ln + 1) c5)
     have y18 : Blk (w17.setCell ⟨gt, 2, none⟩ (.slice A5 (h.ln + 1) c5)) gt 26 (moreH h A5 (h.ln + 1) c5).C := y17.set_ 2 (.slice A5 (h.ln + 1) c5)
     have hgr := g_cell w17 ⟨gt, 2, none⟩ (.slice A5 (h.ln + 1) c5)
     have o18 := o17.kept hgr (.inr (fun e => by have := (own_ge o17 gt e).1; omega))))
        have b18 := b13.trans (c18.mono wl)
        have K : Lnk w (w17.setCell ⟨gt, 2, none⟩ (.slice A5 (h.ln + 1) c5)) h (moreH h A5 (h.ln + 1) c5) S (moreL S [⟨name, fresh⟩]) g0 gt (some ad) l c7 := ⟨(HS.out.below b18).more b18.size, more_ok ((HS.out.below b18).more b18.size) (Sls.of_own (by rw [List.length_append, HS.out.l.len]; rfl) o18) (Below.refl _ _) (fun a ha => by rw [List.mem_singleton.1 ha]; exact ⟨by unfold maxLen; show name.size ≤ _; omega, by unfold maxLen; show fresh.size ≤ _; omega⟩) (by unfold maxLen; omega) (own_cap o18), x13.below c18 xl, y18, (N13.below c18).more (by have := c18.size; omega), b18⟩
        have HLC := Lib.hid (own_cap o18)
        generalize w17.setCell ⟨gt, 2, none⟩ (.slice A5 (h.ln + 1) c5) = U at *
        clear o17 y17 y17c y17f c17 hgr o18 c18 y18 b18 x13 y13 b13 N13 s17 hgt13 hz1 hz2 hz3 HI
        obtain ⟨z, hz⟩ := name_leads (flaws_nil HW.out.2).2.2.2 HNM.out
        have hzo := Lk.zone_any h S name U K.s (by unfold maxLen; omega) (by omega) (by omega)
        rw [hz] at hzo
        have HZ := Lib.hid hz; clear hz
        go_wp2_with (refine wpList_row_g rfl 26 _ rfl _ rfl _ _ _ _ K.x Tryd.underlying26 rfl (by kernel_rfl) ?_)
        refine hzo.mono ?_; rintro e0 U1 ⟨rfl, hb⟩
        have K1 := K.below hb; clear K hb hzo
        by_cases hf60 : fresh.size ≤ 60
        · have hI : ¬ (60 : Int) < (fresh.size : Int) := by omega
          obtain ⟨hfn, hfr⟩ := HF2.out hf60
          obtain ⟨hfl, z', hz1, hlf, hall⟩ := linked HW.out.2 HNM.out hfn
          obtain rfl : z = z' := by have := HZ.out.symm.trans hz1; injection this
          have hWT : WellP (moreL S [⟨name, fresh⟩]) := ⟨sook_more HW.out.1 (fun a ha => by rw [List.mem_singleton.1 ha]; exact ⟨name_right HW.out.1 HNM.out, hfr⟩), hfl⟩
          have hZT : SoZ (moreH h A5 (h.ln + 1) c5) (moreL S [⟨name, fresh⟩]) := soz_more HSS.out (l := [⟨name, fresh⟩]) (show 1 ≤ 2 by decide) (fun a ha => by rw [List.mem_singleton.1 ha]; exact ⟨hnz, by show fresh.size ≤ 1000; omega⟩)
          have HLF := Lib.hid hlf; have HALL := Lib.hid hall; clear hlf hall hfl hz1 hfn hfr hf60
          generalize moreL S [⟨name, fresh⟩] = T at *
          have hwl := well_any (moreH h A5 (h.ln + 1) c5) T U1 (HT.out.below HT.out.1 K1.b) (HTb.out.bel K1.b) K1.t hZT true ⟨fun _ => hWT, fun _ => rfl⟩
          clear hWT hZT
          go_wp2_with (refine wpList_row_g rfl 26 _ rfl _ rfl _ _ _ _ K1.y Tryd.underlying26 rfl (by kernel_rfl) ?_)
          refine hwl.mono ?_; rintro e0 U2 ⟨rfl, hb⟩
          have K2 := K1.below hb; clear K1 hb hwl
          obtain ⟨hT2, hhT⟩ : ∃ q, (moreH h A5 (h.ln + 1) c5) = q := ⟨_, rfl⟩
          have hTn : hT2.zn ≤ 12 ∧ hT2.ln ≤ 21 := by rw [← hhT]; exact ⟨by show h.zn ≤ 12; omega, by show h.ln + 1 ≤ 21; omega⟩
          rw [hhT] at K2; clear hhT HLC
          go_wp2_with fail
          go_loopw [14, 15, 16, 17, 18, 19, 80, 84, 90] (fun _ _ _ _ _ _ i _ _ wr => ∃ k : Nat, i = .int .i64 (k : Int) ∧ k ≤ l.length ∧ Lnk w wr h hT2 S T g0 gt (some ad) l c7) (fun _ _ _ _ _ _ i _ _ _ => l.length - (intOf i).toNat)
          case atStart => exact ⟨0, rfl, Nat.zero_le _, K2⟩
          case round =>
            clear K2
            obtain ⟨j, rfl, hj, K⟩ := hrel
            by_cases hlt : j < l.length
            · have hltI : (j : Int) < (l.length : Int) := by omega
              obtain ⟨ad2, eA, hab, hc0⟩ := K.n.at_ hlt
              obtain rfl := Option.some.inj eA
              clear eA
              have hxl := getD_mem ByteArray.empty hlt
              obtain ⟨x, hx⟩ : ∃ s, l.getD j ByteArray.empty = s := ⟨_, rfl⟩
              rw [hx] at hc0 hxl; clear hx
              have hxn : x ∈ nmB S := by rw [HL.out]; exact hxl
              clear hxl
              have hxz := name_small HSS.out hxn
              obtain ⟨y, hsx, htx, hln⟩ := HALL.out x hxn
              clear hxn
              have zt := Lk.zone_any hT2 T x wr K.t (by unfold maxLen; omega) (by omega) (by omega)
              rw [htx] at zt
              have zs := fun W k => Lk.zone_any h S x W k (by unfold maxLen; omega) (by omega) (by omega)
              rw [hsx] at zs
              have at_ := fun W k => aliases_any hT2 T x W k (by unfold maxLen; omega) (by omega) (by omega)
              have as_ := fun W k => aliases_any h S x W k (by unfold maxLen; omega) (by omega) (by omega)
              have HTX := Lib.hid htx; have HSX := Lib.hid hsx; have HLN := Lib.hid hln; clear htx hsx hln
              have HAT := Lib.hid at_; have HAS := Lib.hid as_; have HZS := Lib.hid zs; clear at_ as_ zs
              go_wp2_with (refine wpList_row_g rfl 26 _ rfl _ rfl _ _ _ _ K.y Tryd.underlying26 rfl (by kernel_rfl) ?_)
              refine zt.mono ?_; rintro e0 V1 ⟨rfl, hb⟩
              have K1 := K.below hb; clear K hb zt hc0 hab
              have zs := HZS.out V1 K1.s
              go_wp2_with (refine wpList_row_g rfl 26 _ rfl _ rfl _ _ _ _ K1.x Tryd.underlying26 rfl (by kernel_rfl) ?_)
              refine zs.mono ?_; rintro e0 V2 ⟨rfl, hb⟩
              have K2 := K1.below hb; clear K1 hb zs HZS
              go_upto_region 19 with fail
              have yy0 : (y != y) = false := by simp
              by_cases hyz : y = z
              · have HYZ := Lib.hid hyz; clear hyz
                have yzb : (y == z) = true := by rw [HYZ.out]; simp
                have s19 : V2.drew.cell? ⟨gt, 0, none⟩ = some (.slice hT2.rA hT2.rn hT2.rc) ∧ V2.drew.cell? ⟨gt, 1, none⟩ = some (.slice hT2.zA hT2.zn hT2.zc) ∧ V2.drew.cell? ⟨gt, 2, none⟩ = some (.slice hT2.lA hT2.ln hT2.lc) ∧ V2.drew.cell? ⟨g0, 0, none⟩ = some (.slice h.rA h.rn h.rc) ∧ V2.drew.cell? ⟨g0, 1, none⟩ = some (.slice h.zA h.zn h.zc) ∧ V2.drew.cell? ⟨g0, 2, none⟩ = some (.slice h.lA h.ln h.lc) := ⟨K2.y.cell 0, K2.y.cell 1, K2.y.cell 2, K2.x.cell 0, K2.x.cell 1, K2.x.cell 2⟩
                have K3 := K2.drew
                clear K2
                refine wp_region_held_drew (S := fun w' => w'.cell? ⟨gt, 0, none⟩ = some (.slice hT2.rA hT2.rn hT2.rc) ∧ w'.cell? ⟨gt, 1, none⟩ = some (.slice hT2.zA hT2.zn hT2.zc) ∧ w'.cell? ⟨gt, 2, none⟩ = some (.slice hT2.lA hT2.ln hT2.lc) ∧ w'.cell? ⟨g0, 0, none⟩ = some (.slice h.rA h.rn h.rc) ∧ w'.cell? ⟨g0, 1, none⟩ = some (.slice h.zA h.zn h.zc) ∧ w'.cell? ⟨g0, 2, none⟩ = some (.slice h.lA h.ln h.lc)) (by kernel_rfl) (s19) (fun hHeld => ?_)
                refine wpAnyH_take (i := 0) (oi := { dst := some 96, op := Op.load 26 (Operand.tmp 10), type := 26, pos := "top07.go:59", after := #[], guard := none }) (v := ?_) rfl (by kernel_rfl) (by kernel_rfl) (by kernel_rfl) (fun _ _ _ h => h) (Or.inl ⟨by rfl, ?_⟩) hHeld ?_
                rotate_left
                · intro w hSw
                  try dsimp only at hSw
                  go_simp
                  try with_reducible rfl
                try simp only [Act.put, List.setIfInBounds_toArray, List.set_cons_zero, List.set_cons_succ]
                refine wpAnyH_take (i := 1) (oi := { dst := some 97, op := Op.move (Operand.tmp 14), type := 9, pos := "top07.go:59", after := #[], guard := none }) (v := ?_) rfl (by kernel_rfl) (by kernel_rfl) (by kernel_rfl) (fun _ _ _ h => h) (Or.inl ⟨by rfl, ?_⟩) hHeld ?_
                rotate_left
                · intro w hSw
                  try dsimp only at hSw
                  go_simp
                  try with_reducible rfl
                try simp only [Act.put, List.setIfInBounds_toArray, List.set_cons_zero, List.set_cons_succ]
                refine wpAnyH_take (i := 4) (oi := { dst := some 100, op := Op.load 26 (Operand.tmp 3), type := 26, pos := "top07.go:59", after := #[], guard := none }) (v := ?_) rfl (by kernel_rfl) (by kernel_rfl) (by kernel_rfl) (fun _ _ _ h => h) (Or.inl ⟨by rfl, ?_⟩) hHeld ?_
                rotate_left
                · intro w hSw
                  try dsimp only at hSw
                  go_simp
                  try with_reducible rfl
                try simp only [Act.put, List.setIfInBounds_toArray, List.set_cons_zero, List.set_cons_succ]
                refine wpAnyH_take (i := 5) (oi := { dst := some 101, op := Op.move (Operand.tmp 14), type := 9, pos := "top07.go:59", after := #[], guard := none }) (v := ?_) rfl (by kernel_rfl) (by kernel_rfl) (by kernel_rfl) (fun _ _ _ h => h) (Or.inl ⟨by rfl, ?_⟩) hHeld ?_
                rotate_left
                · intro w hSw
                  try dsimp only at hSw
                  go_simp
                  try with_reducible rfl
                try simp only [Act.put, List.setIfInBounds_toArray, List.set_cons_zero, List.set_cons_succ]
                refine wpAnyH_ready (rs := [2]) (by kernel_rfl) (by simp) ?_
                refine AllReadyH.cons (o := { dst := some 98, op := Op.call { callee := Callee.value (Operand.func 14), args := #[Operand.tmp 96, Operand.tmp 97], argTypes := #[26, 9] }, type := 40, pos := "top07.go:59", after := #[{ on := 0, ground := Ground.data }, { on := 1, ground := Ground.data }], guard := none }) rfl (fun K hK => ?_) (AllReadyH.nil)
                go_simp
                refine (HAT.out _ K3.t).mono ?_; rintro e0 V_1 ⟨A_1, c_1, l_1, rfl, -, hk_1, hb_1⟩
                have hn_1 := al_len HTX.out hk_1; clear hk_1
                obtain ⟨m_1, hm_1⟩ : ∃ m, l_1.length = m := ⟨_, rfl⟩
                rw [hm_1] at hn_1 ⊢; clear hm_1; have Hn_1 := Lib.hid hn_1; clear hn_1
                skip
                try go_wp2_with fail
                have K_1 := K3.below hb_1
                refine hK.out _ _ (⟨(hb_1.cell (p := ⟨gt, 0, none⟩) K3.y.lt).trans hHeld.1, (hb_1.cell (p := ⟨gt, 1, none⟩) K3.y.lt).trans hHeld.2.1, (hb_1.cell (p := ⟨gt, 2, none⟩) K3.y.lt).trans hHeld.2.2.1, (hb_1.cell (p := ⟨g0, 0, none⟩) K3.x.lt).trans hHeld.2.2.2.1, (hb_1.cell (p := ⟨g0, 1, none⟩) K3.x.lt).trans hHeld.2.2.2.2.1, (hb_1.cell (p := ⟨g0, 2, none⟩) K3.x.lt).trans hHeld.2.2.2.2.2⟩) (fun hHeld2 => ?_)
                clear hK K hHeld; have hHeld := hHeld2; clear hHeld2
                try simp only [Act.put, List.setIfInBounds_toArray, List.set_cons_zero, List.set_cons_succ]
                refine wpAnyH_take (i := 3) (oi := { dst := some 99, op := Op.call { callee := Callee.builtin Builtin.len, args := #[Operand.tmp 98], argTypes := #[40] }, type := 3, pos := "top07.go:59", after := #[{ on := 2, ground := Ground.data }], guard := none }) (v := ?_) rfl (by kernel_rfl) (by kernel_rfl) (by kernel_rfl) (fun _ _ _ h => h) (Or.inl ⟨by rfl, ?_⟩) hHeld ?_
                rotate_left
                · intro w hSw
                  try dsimp only at hSw
                  go_simp
                  try with_reducible rfl
                try simp only [Act.put, List.setIfInBounds_toArray, List.set_cons_zero, List.set_cons_succ]
                refine wpAnyH_ready (rs := [6]) (by kernel_rfl) (by simp) ?_
                refine AllReadyH.cons (o := { dst := some 102, op := Op.call { callee := Callee.value (Operand.func 14), args := #[Operand.tmp 100, Operand.tmp 101], argTypes := #[26, 9] }, type := 40, pos := "top07.go:59", after := #[{ on := 4, ground := Ground.data }, { on := 5, ground := Ground.data }, { on := 2, ground := Ground.chain }], guard := none }) rfl (fun K hK => ?_) (AllReadyH.nil)
                go_simp
                refine (HAS.out _ K_1.s).mono ?_; rintro e0 V_2 ⟨A_2, c_2, l_2, rfl, -, hk_2, hb_2⟩
                have hn_2 := al_len HSX.out hk_2; clear hk_2
                obtain ⟨m_2, hm_2⟩ : ∃ m, l_2.length = m := ⟨_, rfl⟩
                rw [hm_2] at hn_2 ⊢; clear hm_2; have Hn_2 := Lib.hid hn_2; clear hn_2
                have hsub : (m_1 : Int) - (m_2 : Int) = 1 := by have := HLN.out; rw [← Hn_1.out, ← Hn_2.out] at this; rw [if_pos HYZ.out] at this; omega
                have hwr : IntKind.i64.wrap ((m_1 : Int) - (m_2 : Int)) = 1 := by rw [hsub]; decide
                clear Hn_1 Hn_2
                try go_wp2_with fail
                have K_2 := K_1.below hb_2
                refine hK.out _ _ (⟨(hb_2.cell (p := ⟨gt, 0, none⟩) K_1.y.lt).trans hHeld.1, (hb_2.cell (p := ⟨gt, 1, none⟩) K_1.y.lt).trans hHeld.2.1, (hb_2.cell (p := ⟨gt, 2, none⟩) K_1.y.lt).trans hHeld.2.2.1, (hb_2.cell (p := ⟨g0, 0, none⟩) K_1.x.lt).trans hHeld.2.2.2.1, (hb_2.cell (p := ⟨g0, 1, none⟩) K_1.x.lt).trans hHeld.2.2.2.2.1, (hb_2.cell (p := ⟨g0, 2, none⟩) K_1.x.lt).trans hHeld.2.2.2.2.2⟩) (fun hHeld2 => ?_)
                clear hK K hHeld; have hHeld := hHeld2; clear hHeld2
                try simp only [Act.put, List.setIfInBounds_toArray, List.set_cons_zero, List.set_cons_succ]
                refine wpAnyH_take (i := 7) (oi := { dst := some 103, op := Op.call { callee := Callee.builtin Builtin.len, args := #[Operand.tmp 102], argTypes := #[40] }, type := 3, pos := "top07.go:59", after := #[{ on := 6, ground := Ground.data }], guard := none }) (v := ?_) rfl (by kernel_rfl) (by kernel_rfl) (by kernel_rfl) (fun _ _ _ h => h) (Or.inl ⟨by rfl, ?_⟩) hHeld ?_
                rotate_left
                · intro w hSw
                  try dsimp only at hSw
                  go_simp
                  try with_reducible rfl
                try simp only [Act.put, List.setIfInBounds_toArray, List.set_cons_zero, List.set_cons_succ]
                refine wpAnyH_take (i := 8) (oi := { dst := some 104, op := Op.binOp BinOp.sub 3 (Operand.tmp 99) (Operand.tmp 103) 3, type := 3, pos := "top07.go:59", after := #[{ on := 3, ground := Ground.data }, { on := 7, ground := Ground.data }], guard := none }) (v := ?_) rfl (by kernel_rfl) (by kernel_rfl) (by kernel_rfl) (fun _ _ _ h => h) (Or.inl ⟨by rfl, ?_⟩) hHeld ?_
                rotate_left
                · intro w hSw
                  try dsimp only at hSw
                  go_simp
                  try with_reducible rfl
                try simp only [Act.put, List.setIfInBounds_toArray, List.set_cons_zero, List.set_cons_succ]
                refine wpAnyH_take (i := 9) (oi := { dst := some 19, op := Op.assign (Operand.tmp 104), type := 3, pos := "top07.go:59", after := #[{ on := 8, ground := Ground.data }, { on := 6, ground := Ground.chain }, { on := 0, ground := Ground.phase }, { on := 1, ground := Ground.phase }, { on := 2, ground := Ground.phase }, { on := 3, ground := Ground.phase }, { on := 4, ground := Ground.phase }, { on := 5, ground := Ground.phase }, { on := 6, ground := Ground.phase }, { on := 7, ground := Ground.phase }, { on := 8, ground := Ground.phase }], guard := none }) (v := ?_) rfl (by kernel_rfl) (by kernel_rfl) (by kernel_rfl) (fun _ _ _ h => h) (Or.inl ⟨by rfl, ?_⟩) hHeld ?_
                rotate_left
                · intro w hSw
                  try dsimp only at hSw
                  go_simp
                  try with_reducible rfl
                try simp only [Act.put, List.setIfInBounds_toArray, List.set_cons_zero, List.set_cons_succ]
                refine wpAnyH_done (by kernel_rfl) ?_ _
                clear hHeld s19 HAT HAS HLN HTX HSX
                go_wp2_with fail
                go_roundw
                case rel => exact ⟨j + 1, by go_num, by omega, K_2⟩
                case measure => simp [intOf]; omega
              · have HYZ := Lib.hid hyz; clear hyz
                have yzb : (y == z) = false := by rw [beq_eq_false_iff_ne]; exact HYZ.out
                have s19 : V2.drew.cell? ⟨gt, 0, none⟩ = some (.slice hT2.rA hT2.rn hT2.rc) ∧ V2.drew.cell? ⟨gt, 1, none⟩ = some (.slice hT2.zA hT2.zn hT2.zc) ∧ V2.drew.cell? ⟨gt, 2, none⟩ = some (.slice hT2.lA hT2.ln hT2.lc) ∧ V2.drew.cell? ⟨g0, 0, none⟩ = some (.slice h.rA h.rn h.rc) ∧ V2.drew.cell? ⟨g0, 1, none⟩ = some (.slice h.zA h.zn h.zc) ∧ V2.drew.cell? ⟨g0, 2, none⟩ = some (.slice h.lA h.ln h.lc) := ⟨K2.y.cell 0, K2.y.cell 1, K2.y.cell 2, K2.x.cell 0, K2.x.cell 1, K2.x.cell 2⟩
                have K3 := K2.drew
                clear K2
                refine wp_region_held_drew (S := fun w' => w'.cell? ⟨gt, 0, none⟩ = some (.slice hT2.rA hT2.rn hT2.rc) ∧ w'.cell? ⟨gt, 1, none⟩ = some (.slice hT2.zA hT2.zn hT2.zc) ∧ w'.cell? ⟨gt, 2, none⟩ = some (.slice hT2.lA hT2.ln hT2.lc) ∧ w'.cell? ⟨g0, 0, none⟩ = some (.slice h.rA h.rn h.rc) ∧ w'.cell? ⟨g0, 1, none⟩ = some (.slice h.zA h.zn h.zc) ∧ w'.cell? ⟨g0, 2, none⟩ = some (.slice h.lA h.ln h.lc)) (by kernel_rfl) (s19) (fun hHeld => ?_)
                refine wpAnyH_take (i := 0) (oi := { dst := some 96, op := Op.load 26 (Operand.tmp 10), type := 26, pos := "top07.go:59", after := #[], guard := none }) (v := ?_) rfl (by kernel_rfl) (by kernel_rfl) (by kernel_rfl) (fun _ _ _ h => h) (Or.inl ⟨by rfl, ?_⟩) hHeld ?_
                rotate_left
                · intro w hSw
                  try dsimp only at hSw
                  go_simp
                  try with_reducible rfl
                try simp only [Act.put, List.setIfInBounds_toArray, List.set_cons_zero, List.set_cons_succ]
                refine wpAnyH_take (i := 1) (oi := { dst := some 97, op := Op.move (Operand.tmp 14), type := 9, pos := "top07.go:59", after := #[], guard := none }) (v := ?_) rfl (by kernel_rfl) (by kernel_rfl) (by kernel_rfl) (fun _ _ _ h => h) (Or.inl ⟨by rfl, ?_⟩) hHeld ?_
                rotate_left
                · intro w hSw
                  try dsimp only at hSw
                  go_simp
                  try with_reducible rfl
                try simp only [Act.put, List.setIfInBounds_toArray, List.set_cons_zero, List.set_cons_succ]
                refine wpAnyH_take (i := 4) (oi := { dst := some 100, op := Op.load 26 (Operand.tmp 3), type := 26, pos := "top07.go:59", after := #[], guard := none }) (v := ?_) rfl (by kernel_rfl) (by kernel_rfl) (by kernel_rfl) (fun _ _ _ h => h) (Or.inl ⟨by rfl, ?_⟩) hHeld ?_
                rotate_left
                · intro w hSw
                  try dsimp only at hSw
                  go_simp
                  try with_reducible rfl
                try simp only [Act.put, List.setIfInBounds_toArray, List.set_cons_zero, List.set_cons_succ]
                refine wpAnyH_take (i := 5) (oi := { dst := some 101, op := Op.move (Operand.tmp 14), type := 9, pos := "top07.go:59", after := #[], guard := none }) (v := ?_) rfl (by kernel_rfl) (by kernel_rfl) (by kernel_rfl) (fun _ _ _ h => h) (Or.inl ⟨by rfl, ?_⟩) hHeld ?_
                rotate_left
                · intro w hSw
                  try dsimp only at hSw
                  go_simp
                  try with_reducible rfl
                try simp only [Act.put, List.setIfInBounds_toArray, List.set_cons_zero, List.set_cons_succ]
                refine wpAnyH_ready (rs := [2]) (by kernel_rfl) (by simp) ?_
                refine AllReadyH.cons (o := { dst := some 98, op := Op.call { callee := Callee.value (Operand.func 14), args := #[Operand.tmp 96, Operand.tmp 97], argTypes := #[26, 9] }, type := 40, pos := "top07.go:59", after := #[{ on := 0, ground := Ground.data }, { on := 1, ground := Ground.data }], guard := none }) rfl (fun K hK => ?_) (AllReadyH.nil)
                go_simp
                refine (HAT.out _ K3.t).mono ?_; rintro e0 V_1 ⟨A_1, c_1, l_1, rfl, -, hk_1, hb_1⟩
                have hn_1 := al_len HTX.out hk_1; clear hk_1
                obtain ⟨m_1, hm_1⟩ : ∃ m, l_1.length = m := ⟨_, rfl⟩
                rw [hm_1] at hn_1 ⊢; clear hm_1; have Hn_1 := Lib.hid hn_1; clear hn_1
                skip
                try go_wp2_with fail
                have K_1 := K3.below hb_1
                refine hK.out _ _ (⟨(hb_1.cell (p := ⟨gt, 0, none⟩) K3.y.lt).trans hHeld.1, (hb_1.cell (p := ⟨gt, 1, none⟩) K3.y.lt).trans hHeld.2.1, (hb_1.cell (p := ⟨gt, 2, none⟩) K3.y.lt).trans hHeld.2.2.1, (hb_1.cell (p := ⟨g0, 0, none⟩) K3.x.lt).trans hHeld.2.2.2.1, (hb_1.cell (p := ⟨g0, 1, none⟩) K3.x.lt).trans hHeld.2.2.2.2.1, (hb_1.cell (p := ⟨g0, 2, none⟩) K3.x.lt).trans hHeld.2.2.2.2.2⟩) (fun hHeld2 => ?_)
                clear hK K hHeld; have hHeld := hHeld2; clear hHeld2
                try simp only [Act.put, List.setIfInBounds_toArray, List.set_cons_zero, List.set_cons_succ]
                refine wpAnyH_take (i := 3) (oi := { dst := some 99, op := Op.call { callee := Callee.builtin Builtin.len, args := #[Operand.tmp 98], argTypes := #[40] }, type := 3, pos := "top07.go:59", after := #[{ on := 2, ground := Ground.data }], guard := none }) (v := ?_) rfl (by kernel_rfl) (by kernel_rfl) (by kernel_rfl) (fun _ _ _ h => h) (Or.inl ⟨by rfl, ?_⟩) hHeld ?_
                rotate_left
                · intro w hSw
                  try dsimp only at hSw
                  go_simp
                  try with_reducible rfl
                try simp only [Act.put, List.setIfInBounds_toArray, List.set_cons_zero, List.set_cons_succ]
                refine wpAnyH_ready (rs := [6]) (by kernel_rfl) (by simp) ?_
                refine AllReadyH.cons (o := { dst := some 102, op := Op.call { callee := Callee.value (Operand.func 14), args := #[Operand.tmp 100, Operand.tmp 101], argTypes := #[26, 9] }, type := 40, pos := "top07.go:59", after := #[{ on := 4, ground := Ground.data }, { on := 5, ground := Ground.data }, { on := 2, ground := Ground.chain }], guard := none }) rfl (fun K hK => ?_) (AllReadyH.nil)
                go_simp
                refine (HAS.out _ K_1.s).mono ?_; rintro e0 V_2 ⟨A_2, c_2, l_2, rfl, -, hk_2, hb_2⟩
                have hn_2 := al_len HSX.out hk_2; clear hk_2
                obtain ⟨m_2, hm_2⟩ : ∃ m, l_2.length = m := ⟨_, rfl⟩
                rw [hm_2] at hn_2 ⊢; clear hm_2; have Hn_2 := Lib.hid hn_2; clear hn_2
                have hsub : (m_1 : Int) - (m_2 : Int) = 0 := by have := HLN.out; rw [← Hn_1.out, ← Hn_2.out] at this; rw [if_neg HYZ.out] at this; omega
                have hwr : IntKind.i64.wrap ((m_1 : Int) - (m_2 : Int)) = 0 := by rw [hsub]; decide
                clear Hn_1 Hn_2
                try go_wp2_with fail
                have K_2 := K_1.below hb_2
                refine hK.out _ _ (⟨(hb_2.cell (p := ⟨gt, 0, none⟩) K_1.y.lt).trans hHeld.1, (hb_2.cell (p := ⟨gt, 1, none⟩) K_1.y.lt).trans hHeld.2.1, (hb_2.cell (p := ⟨gt, 2, none⟩) K_1.y.lt).trans hHeld.2.2.1, (hb_2.cell (p := ⟨g0, 0, none⟩) K_1.x.lt).trans hHeld.2.2.2.1, (hb_2.cell (p := ⟨g0, 1, none⟩) K_1.x.lt).trans hHeld.2.2.2.2.1, (hb_2.cell (p := ⟨g0, 2, none⟩) K_1.x.lt).trans hHeld.2.2.2.2.2⟩) (fun hHeld2 => ?_)
                clear hK K hHeld; have hHeld := hHeld2; clear hHeld2
                try simp only [Act.put, List.setIfInBounds_toArray, List.set_cons_zero, List.set_cons_succ]
                refine wpAnyH_take (i := 7) (oi := { dst := some 103, op := Op.call { callee := Callee.builtin Builtin.len, args := #[Operand.tmp 102], argTypes := #[40] }, type := 3, pos := "top07.go:59", after := #[{ on := 6, ground := Ground.data }], guard := none }) (v := ?_) rfl (by kernel_rfl) (by kernel_rfl) (by kernel_rfl) (fun _ _ _ h => h) (Or.inl ⟨by rfl, ?_⟩) hHeld ?_
                rotate_left
                · intro w hSw
                  try dsimp only at hSw
                  go_simp
                  try with_reducible rfl
                try simp only [Act.put, List.setIfInBounds_toArray, List.set_cons_zero, List.set_cons_succ]
                refine wpAnyH_take (i := 8) (oi := { dst := some 104, op := Op.binOp BinOp.sub 3 (Operand.tmp 99) (Operand.tmp 103) 3, type := 3, pos := "top07.go:59", after := #[{ on := 3, ground := Ground.data }, { on := 7, ground := Ground.data }], guard := none }) (v := ?_) rfl (by kernel_rfl) (by kernel_rfl) (by kernel_rfl) (fun _ _ _ h => h) (Or.inl ⟨by rfl, ?_⟩) hHeld ?_
                rotate_left
                · intro w hSw
                  try dsimp only at hSw
                  go_simp
                  try with_reducible rfl
                try simp only [Act.put, List.setIfInBounds_toArray, List.set_cons_zero, List.set_cons_succ]
                refine wpAnyH_take (i := 9) (oi := { dst := some 19, op := Op.assign (Operand.tmp 104), type := 3, pos := "top07.go:59", after := #[{ on := 8, ground := Ground.data }, { on := 6, ground := Ground.chain }, { on := 0, ground := Ground.phase }, { on := 1, ground := Ground.phase }, { on := 2, ground := Ground.phase }, { on := 3, ground := Ground.phase }, { on := 4, ground := Ground.phase }, { on := 5, ground := Ground.phase }, { on := 6, ground := Ground.phase }, { on := 7, ground := Ground.phase }, { on := 8, ground := Ground.phase }], guard := none }) (v := ?_) rfl (by kernel_rfl) (by kernel_rfl) (by kernel_rfl) (fun _ _ _ h => h) (Or.inl ⟨by rfl, ?_⟩) hHeld ?_
                rotate_left
                · intro w hSw
                  try dsimp only at hSw
                  go_simp
                  try with_reducible rfl
                try simp only [Act.put, List.setIfInBounds_toArray, List.set_cons_zero, List.set_cons_succ]
                refine wpAnyH_done (by kernel_rfl) ?_ _
                clear hHeld s19 HAT HAS HLN HTX HSX
                go_wp2_with fail
                go_roundw
                case rel => exact ⟨j + 1, by go_num, by omega, K_2⟩
                case measure => simp [intOf]; omega
            · obtain rfl : j = l.length := by omega
              have hltI : ¬ (l.length : Int) < (l.length : Int) := by omega
              have zf := Lk.zone_any hT2 T fresh wr K.t (by unfold maxLen; omega) (by omega) (by omega)
              rw [HLF.out] at zf
              have zzb : (z == z) = true := by simp
              go_wp2_with (refine wpList_row_g rfl 26 _ rfl _ rfl _ _ _ _ K.y Tryd.underlying26 rfl (by kernel_rfl) ?_)
              refine zf.mono ?_; rintro e0 V1 ⟨rfl, hb⟩
              have b9 := bcl K.b hb
              clear hb zf K
              go_wp2_with fail
              go_ret
              exact ⟨rfl, b9⟩
        · have hI : (60 : Int) < (fresh.size : Int) := by omega
          go_wp2_with fail
          go_ret
          exact ⟨rfl, K1.b⟩
    · have hwl := well_any h S W3 hT3 hTb3 S3 (soz_of HSS.out) false ⟨fun q => (by cases q), fun q => absurd q hw⟩
      clear hw hT3 hTb3 S3
      go_wp2_with (refine wpList_row_g rfl 26 _ rfl _ rfl _ _ _ _ x3 Tryd.underlying26 rfl (by kernel_rfl) ?_)
      refine hwl.mono ?_; rintro e0 W4 ⟨rfl, hb⟩
      have b4 := bcl b3 hb; clear hb hwl
      go_wp2_with fail
      go_ret
      exact ⟨rfl, b4⟩
end Go.Proofs.YtnoaeejdcdeanaaDoor.Va
