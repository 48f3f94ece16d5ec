/-
  scan.Lines, walked.
-/
import Derived.Test.YtoiccljmdplfgaaLnM
import Derived.Test.YtoiccljmdplfgaaSls
import Derived.Deep.QuietTactic
namespace Go.Proofs.Ytoiccljmdplfgaa.Scn
open Go.ChangeShapes Go.WideShapes Go.ChangeAt Go.RowKit Go.Shelf
open Go.Proofs.Ytoiccljmdplfgaa
open Go.Proofs.Ytoiccljmdplfgaa.Wd
open Go.Proofs.Ytoiccljmdplfgaa.Pt (L L_len own_ge B own_bel)
open Go.Proofs.Ytoiccljmdplfgaa.Sl
open Go.Lib (byteCells)
set_option linter.unusedVariables false
set_option linter.unusedSimpArgs false
theorem ext_take (s : ByteArray) (k : Nat) : s.extract 0 k = B ((L s).take k) := by
  apply ByteArray.ext; apply Array.toList_inj.1
  simp [L, B]
theorem ext_drop (s : ByteArray) (k : Nat) : s.extract k s.size = B ((L s).drop k) := by
  apply ByteArray.ext; apply Array.toList_inj.1
  simp [L, B]
  exact List.take_of_length_le (by rw [List.length_drop]; exact Nat.le_refl _)
theorem B_L (s : ByteArray) : B (L s) = s := by apply ByteArray.ext; simp [L, B]
theorem L_B (l : List UInt8) : L (B l) = l := rfl
theorem B_len (l : List UInt8) : (B l).size = l.length := by show l.toArray.size = _; simp
abbrev CutR (l : List UInt8) : Value := .tuple #[.string (B (cutL l).1), .string (B (cutL l).2.1), .bool (cutL l).2.2]
set_option maxRecDepth 20000 in
set_option maxHeartbeats 3200000 in
theorem scut_nl (s : ByteArray) (w : World) (hs : s.size ≤ maxLen) :
    Calls Try.prog 100 #[.string s, .string ⟨#[10]⟩] w fun e w' => e = .returned (CutR (L s)) ∧ Below w.heap.size w w' := by
  unfold maxLen at hs
  have hix := fun w => Try.stringslite_Index_one s 10 w
  rcases cut_idx (L s) with ⟨h1, h2⟩ | ⟨k, h1, h2, h3⟩
  · rw [show Lib.indexByte s.data.toList 10 = -1 from h1] at hix
    have hR := Lib.hid (show CutR (L s) = .tuple #[.string s, .string ⟨#[]⟩, .bool false] by unfold CutR; rw [h2])
    clear h1 h2
    go_enter Try.func100, Try.ntmps100
    go_wp2_with fail
    refine (hix _).mono ?_; rintro e w1 ⟨rfl, rfl⟩
    go_wp2_with fail
    exact bodyPost_ret (by simp [results, go_sem]; try rfl) rfl ⟨by rw [hR.out], Below.refl _ _⟩
  · rw [show Lib.indexByte s.data.toList 10 = (k : Int) from h1] at hix
    rw [L_len] at h2
    have hR := Lib.hid (show CutR (L s) = .tuple #[.string (s.extract 0 k), .string (s.extract (k + 1) s.size), .bool true] by unfold CutR; rw [h3, ext_take, ext_drop])
    have b1 : (0 : Int) ≤ (k : Int) := by omega
    have b2 : (k : Int) ≤ (s.size : Int) := by omega
    have b3 : (k : Int) + 1 ≤ (s.size : Int) := by omega
    have wr1 : IntKind.i64.wrap ((k : Int) + 1) = (k : Int) + 1 := by simp [IntKind.wrap, IntKind.bits, IntKind.signed]; omega
    clear h1 h3
    go_enter Try.func100, Try.ntmps100
    go_wp2_with fail
    refine (hix _).mono ?_; rintro e w1 ⟨rfl, rfl⟩
    go_wp2_with fail
    go_region
    all_goals (go_wp2_with fail; exact bodyPost_ret (by simp [results, go_sem]; try rfl) rfl ⟨by rw [hR.out], (Below.refl _ _).drew⟩)
set_option maxRecDepth 20000 in
set_option maxHeartbeats 3200000 in
theorem cut_nl (s : ByteArray) (w : World) (hs : s.size ≤ maxLen) :
    Calls Try.prog 89 #[.string s, .string ⟨#[10]⟩] w fun e w' => e = .returned (CutR (L s)) ∧ Below w.heap.size w w' := by
  have hc := fun w => scut_nl s w hs
  simp only [CutR] at hc ⊢
  generalize B (cutL (L s)).1 = a1 at *
  generalize B (cutL (L s)).2.1 = a2 at *
  generalize (cutL (L s)).2.2 = a3 at *
  go_enter Try.func89, Try.ntmps89
  go_wp2_with fail
  refine (hc _).mono ?_; rintro e w1 ⟨rfl, hb⟩
  go_wp2_with fail
  exact bodyPost_ret (by simp [results, go_sem]; try rfl) rfl ⟨rfl, hb⟩
set_option maxRecDepth 40000 in
set_option maxHeartbeats 6400000 in
theorem fields_ct (s : ByteArray) (w0 : World) (hs : s.size ≤ maxLen) :
    Calls Try.prog 90 #[.string s] w0 (FPost (fds (L s)) w0.heap.size w0) := by
  unfold fds
  rw [L_len]
  unfold maxLen at hs
  by_cases h : 2048 < s.size
  · rw [if_pos h]
    have hs' : (2048 : Int) < (s.size : Int) := by omega
    go_enter Try.func90, Try.ntmps90
    go_wp2_with fail
    refine wp_scope_labels (fun _ _ _ => False) (fun _ _ _ => 0) (fun hlab => ?_) (fun l a w h => h.elim)
    clear hlab
    go_wp2_with fail
    simp only [jumps]
    go_ret3
    exact post_bad rfl (Below.refl _ _) rfl
  · rw [if_neg h]
    exact fields_any s w0 (by omega)
/-- a line: its number, and its fields' slice -/
structure Ln where
  no : Nat
  g : Nat
  c : Nat
  fs : List Fl
abbrev Ln.V (l : Ln) : Value := .slice (some ⟨l.g, 0, none⟩) l.fs.length l.c
abbrev Ln.C (l : Ln) : Array Value := #[.int .i64 (l.no : Int), l.V]
abbrev Ln.nil : Ln := ⟨0, 0, 0, []⟩
abbrev lp (l : List Ln) : List (Nat × List Fl) := l.map fun x => (x.no, x.fs)
/-- lines that lie in memory -/
structure Lines (w : World) (B : Nat) (A : Option Addr) (n : Nat) (l : List Ln) : Prop where
  s : Sls Ln.C 2 w B A n l
  f : ∀ x ∈ l, Reads w B 2 (some ⟨x.g, 0, none⟩) x.fs.length (flatF x.fs)
abbrev faV (a b : Int) (c : Int) : Value := .agg #[.int .i64 a, .int .i64 b, .int .i64 c]
abbrev faC (a b : Int) (c : Int) : Array Value := #[.int .i64 a, .int .i64 b, .int .i64 c]
def LnP (R : LR) (w0 : World) (e : Ending) (w' : World) : Prop :=
  Below w0.heap.size w0 w' ∧ match R with
    | .ok l => ∃ A n c LS, e = .returned (.tuple #[.slice A n c, faV 0 0 0]) ∧ Lines w' w'.heap.size A n LS ∧ lp LS = l ∧ n ≤ 2097152
    | .bad ln c y => e = .returned (.tuple #[.slice none 0 0, faV (ln : Int) (c : Int) y])
theorem results_sf {fn : Func} {p q : Tmp} (h : fn.results = #[.tmp q, .cell p 55]) (tmps : Array Value) (w : World) (g : Nat) (t : TypeId) (cs : Array Value) (v : Value)
    (hp : tmps.getD p undef = .pointer (some ⟨g, 0, none⟩)) (hq : tmps.getD q undef = v) (hg : w.heap[g]? = some (.cells cs t (0, 0))) (hs : cs.size = 3) :
    (results fn tmps).run Try.prog w = .ok (.tuple #[v, .agg cs]) w := by
  have hp' : tmps[p]?.getD undef = .pointer (some ⟨g, 0, none⟩) := by simpa using hp
  have hq' : tmps[q]?.getD undef = v := by simpa using hq
  have hi : (Try.prog.info? 55).map (·.size) = some cs.size := by rw [hs]; kernel_rfl
  have hl := run_loadVar_row w g t 55 cs (0, 0) _ hg Try.underlying55 rfl hi
  simp [results, h, hp', hq', asAddr]
  rw [hl]; rfl
theorem line_info : (Try.prog.info? 110).map (fun i => (i.zero, i.size, i.bytes)) = some (some (.agg #[.int .i64 0, .slice none 0 0]), 2, 32) := by kernel_rfl
theorem own_formP {w : World} {base size n : Nat} {e : TypeId} {v : Value} {xs : List Value} (h : w.ownsRow base e size v n xs) (hn : 0 < n) : ∃ g c, v = .slice (some ⟨g, 0, none⟩) n c ∧ n ≤ c := by
  rcases h.2 with ⟨_, h1⟩ | ⟨g, cap, cur, hv, h2, h3, h4, h5⟩
  · omega
  · exact ⟨g, cap, hv, h4⟩
theorem ln_one (x : Ln) : ∀ u ∈ (Ln.C x).toList, u.oneCell' = true := by
  intro u hu; simp at hu; rcases hu with rfl | rfl <;> rfl
theorem reads_ln (w : World) (t : TypeId) (x : Ln) : Reads (w.alloc (.cells (Ln.C x) t)) (w.heap.size + 1) 2 (some ⟨w.heap.size, 0, none⟩) 1 (Ln.C x).toList :=
  ⟨rfl, fun _ => ⟨_, rfl, Nat.lt_succ_self _, fun j u hu => by
    match j, hu with
    | 0, hu => simp at hu; subst hu; simp [Addr.add]
    | 1, hu => simp at hu; subst hu; simp [Addr.add]⟩⟩
theorem add_nil (acc : List (Nat × List Fl)) (no : Nat) : addL acc no [] = acc := rfl
theorem add_lp {LS : List Ln} {no g c : Nat} {fs : List Fl} (h : fs ≠ []) : addL (lp LS) no fs = lp (LS ++ [⟨no, g, c, fs⟩]) := by
  unfold addL lp
  cases fs with
  | nil => exact absurd rfl h
  | cons a t => rw [List.map_append]; rfl
def lnMu (tv mv : Value) : Nat := match mv, tv with
  | .bool true, .string b => b.size + 1
  | _, _ => 0
theorem own_base {w : World} {base base' size n : Nat} {e : TypeId} {v : Value} {xs : List Value} (h : w.ownsRow base e size v n xs) (hb : base' ≤ base) : w.ownsRow base' e size v n xs := by
  refine ⟨h.1, ?_⟩
  rcases h.2 with h' | ⟨b, cap, cur, h1, h2, h3⟩
  · exact .inl h'
  · exact .inr ⟨b, cap, cur, h1, Nat.le_trans hb h2, h3⟩
theorem own_row {w : World} {g base size n : Nat} {t e : TypeId} {v : Value} {xs : List Value} {cs ds : Array Value} (h : w.ownsRow base e size v n xs) (x : Blk w g t cs) (hne : e ≠ t) : (w.setRow g ds).ownsRow base e size v n xs := by
  refine ⟨h.1, ?_⟩
  rcases h.2 with h' | ⟨b, cap, cur, h1, h2, h3, h4⟩
  · exact .inl h'
  · refine .inr ⟨b, cap, cur, h1, h2, (setRow_other w g b ds (fun q => ?_)).trans h3, h4⟩
    subst q
    have := x.symm.trans h3
    injection this with q1; injection q1 with _ q2; exact hne q2.symm
/-- the lines' fields are one's own -/
abbrev OwnF (w : World) (B : Nat) (LS : List Ln) : Prop := ∀ x ∈ LS, w.ownsRow B 114 2 x.V x.fs.length (flatF x.fs)
theorem OwnF.below {w w' : World} {B : Nat} {LS : List Ln} (h : OwnF w B LS) (hb : Below w.heap.size w w') : OwnF w' B LS := fun x hx => own_bel (h x hx) hb
theorem OwnF.app {w w' : World} {B n : Nat} {LS : List Ln} {x : Ln} {v : Value} {xs : List Value} {C : Array Value} {t : TypeId} (h : OwnF w B LS) (hx : w.ownsRow B 114 2 x.V x.fs.length (flatF x.fs)) (ho : (w.alloc (.cells C t)).ownsRow B 110 2 v n xs)
    (hg : (w.alloc (.cells C t)).grownBy w' v.ownBlock) : OwnF w' B (LS ++ [x]) := by
  intro y hy
  have hy' : w.ownsRow B 114 2 y.V y.fs.length (flatF y.fs) := by
    rcases List.mem_append.1 hy with q | q
    · exact h y q
    · rw [List.mem_singleton.1 q]; exact hx
  exact (hy'.alloc _).kept hg (own_sep (hy'.alloc _) ho (by decide))
set_option maxRecDepth 40000 in
set_option maxHeartbeats 6400000 in
theorem lines_any (s : ByteArray) (w : World) (hs : s.size ≤ 1048576) :
    Calls Try.prog 69 #[.string s] w (LnP (lnV (L s)) w) := by
  obtain ⟨i0, hi0, hz0, hz1, hz2⟩ := info_parts line_info
  have HI := Lib.hid hi0; clear hi0
  generalize hR : lnV (L s) = R
  have hs' : ¬ (1048576 : Int) < (s.size : Int) := by omega
  have b1 := (Below.refl w.heap.size w).alloc (Nat.le_refl _) (.cells (faC 0 0 0) 55)
  have x1 := Blk.new w 55 (faC 0 0 0)
  go_enter Try.func69, Try.ntmps69
  go_wp2_with fail
  go_loopw [0, 4, 5, 6] (fun tv lv nv mv wr => ∃ (t : List UInt8) (LS : List Ln) (no : Nat) (m : Bool), tv = .string (B t) ∧ nv = .int .i64 (no : Int) ∧ mv = .bool m ∧ t.length ≤ s.size ∧ (m = true → no + t.length ≤ s.size + 1) ∧ no ≤ s.size + 2 ∧ 1 ≤ no ∧ LS.length + 1 ≤ no ∧ (m = true → ∃ f, t.length < f ∧ lnF f t no (lp LS) = R) ∧ (m = false → LR.ok (lp LS) = R) ∧ wr.ownsRow w.heap.size 110 2 lv LS.length (flat Ln.C LS) ∧ OwnF wr w.heap.size LS ∧ Below w.heap.size w wr ∧ Blk wr w.heap.size 55 (faC 0 0 0)) (fun tv _ _ mv _ => lnMu tv mv)
  case atStart => exact ⟨L s, [], 1, true, by rw [B_L], rfl, rfl, by rw [L_len]; omega, fun _ => by rw [L_len]; omega, by omega, by omega, by simp, fun _ => ⟨(L s).length + 1, by omega, hR⟩, (fun q => by cases q), own_nil _ _ _ _, fun x hx => absurd hx List.not_mem_nil, b1, x1⟩
  case round =>
    clear b1 x1
    obtain ⟨t, LS, no, m, rfl, rfl, rfl, ht, hn1, hn2, hn3, hll, hm1, hm0, o1, F1, b1, x1⟩ := hrel
    clear hR
    cases m with
    | false =>
      have HR := Lib.hid (hm0 rfl)
      clear hm0 hm1 hn1
      obtain ⟨A1, c1, rfl⟩ := own_form o1
      have hsz := b1.size
      go_wp2_with (refine wpList_store_g rfl 55 _ _ rfl rfl w.heap.size 0 (faC 0 0 0) (faC 0 0 0) rfl rfl _ (faC 0 0 0) x1 (by decide) (by kernel_rfl) (by kernel_rfl) rfl ?_)
      try simp only [Exit.inBlock, Exit.then]
      refine bodyPost_ret (results_sf (p := 3) (q := 2) rfl _ _ _ _ _ (.slice A1 LS.length c1) rfl rfl (x1.row _) rfl) rfl ?_
      refine ⟨below_row b1 (Nat.le_refl _) _, ?_⟩
      rw [← HR.out]
      have hs9 : (wr.setRow w.heap.size (faC 0 0 0)).heap.size = wr.heap.size := setRow_size _ _ _
      exact ⟨A1, LS.length, c1, LS, rfl, ⟨Sls.of_own rfl (own_row o1 x1 (by decide)), fun y hy => Reads.of_own (own_row (F1 y hy) x1 (by decide))⟩, rfl, by omega⟩
    | true =>
      obtain ⟨f0, hf, hF⟩ := hm1 rfl
      have hn1' := hn1 rfl
      clear hm0 hm1 hn1
      obtain ⟨f, rfl⟩ : ∃ f, f0 = f + 1 := ⟨f0 - 1, by omega⟩
      have hcut := fun W => cut_nl (B t) W (by rw [B_len]; unfold maxLen; omega)
      simp only [L_B, CutR] at hcut
      obtain ⟨k1, k2, k3⟩ := cut_len t
      have HB := Lib.hid (fun c y (q : fds (cutL t).1 = .bad c y) => (ln_bad (f := f) (no := no) (acc := lp LS) q).symm.trans hF)
      have HM := Lib.hid (fun fs (q : fds (cutL t).1 = .ok fs) (q2 : (cutL t).2.2 = true) => (ln_more (f := f) (no := no) (acc := lp LS) q q2).symm.trans hF)
      have HL := Lib.hid (fun fs (q : fds (cutL t).1 = .ok fs) (q2 : (cutL t).2.2 = false) => (ln_last (f := f) (no := no) (acc := lp LS) q q2).symm.trans hF)
      have hfine := fds_fine (cutL t).1
      have hfl := fun W => fields_ct (B (cutL t).1) W (by rw [B_len]; unfold maxLen; omega)
      simp only [L_B] at hfl
      clear hF
      obtain ⟨a, ha⟩ : ∃ a, (cutL t).1 = a := ⟨_, rfl⟩
      obtain ⟨r, hr⟩ : ∃ a, (cutL t).2.1 = a := ⟨_, rfl⟩
      obtain ⟨m, hm⟩ : ∃ a, (cutL t).2.2 = a := ⟨_, rfl⟩
      simp only [ha, hr, hm] at hcut k1 k2 k3 hfine hfl
      rw [ha, hm] at HM HL; rw [ha] at HB; rw [hr] at HM
      have hsz := b1.size
      clear ha hr hm
      go_wp2_with fail
      refine (hcut _).mono ?_; rintro e w1 ⟨rfl, hb⟩
      have b2 := b1.trans (hb.mono hsz); have x2 := x1.below hb x1.lt; have o2 := own_bel o1 hb; have F2 := OwnF.below F1 hb
      have hsz1 := b2.size
      clear b1 x1 o1 F1 hb hcut
      go_wp2_with fail
      refine (hfl _).mono ?_; rintro e w2 hP
      cases hfd : fds a with
      | bad c y =>
        rw [hfd] at hP hfine
        obtain ⟨hb, rfl⟩ := hP
        obtain ⟨-, hy⟩ := hfine
        have HR := Lib.hid (HB.out c y hfd)
        have b3 := b2.trans (hb.mono hsz1); have x3 := x2.below hb x2.lt
        have hy1 : (y != 0) = true := by simp [hy]
        clear b2 x2 o2 F2 hb HB HM HL hfd k1 k2 k3 hfl
        go_wp2_with (refine wpList_store_g rfl 55 _ _ rfl rfl w.heap.size 0 (faC (no : Int) (c : Int) y) (faC (no : Int) (c : Int) y) rfl rfl _ (faC 0 0 0) x3 (Nat.le_refl 3) (by kernel_rfl) (by kernel_rfl) rfl ?_)
        try simp only [Exit.inBlock, Exit.then]
        refine bodyPost_ret (results_sf (p := 3) (q := 2) rfl _ _ _ _ _ (.slice none 0 0) rfl rfl (x3.row _) rfl) rfl ?_
        refine ⟨below_row b3 (Nat.le_refl _) _, ?_⟩
        rw [← HR.out]
      | ok fs =>
        rw [hfd] at hP
        obtain ⟨hb, v, rfl, ho⟩ := hP
        by_cases hfs : fs = []
        · subst hfs
          obtain ⟨Af, cf, rfl⟩ := own_form ho
          have ho' := own_base ho hsz1
          have b3 := b2.trans (hb.mono hsz1); have x3 := x2.below hb x2.lt; have o3 := own_bel o2 hb; have F3 := OwnF.below F2 hb
          have hsz3 := b3.size
          clear b2 x2 o2 F2 hb HB hfl hfine ho
          cases m with
          | true =>
            have HR := Lib.hid ((add_nil (lp LS) no) ▸ HM.out [] hfd rfl)
            have k4 := k3 rfl
            clear HM HL hfd k3
            go_wp2_with fail
            go_roundw
            case rel => exact ⟨r, LS, no + 1, true, rfl, by go_num, rfl, by omega, fun _ => by omega, by omega, by omega, by omega, fun _ => ⟨f, by omega, HR.out⟩, (fun q => by cases q), o3, F3, b3, x3⟩
            case measure => show (B r).size + 1 < (B t).size + 1; rw [B_len, B_len]; omega
          | false =>
            have HR := Lib.hid ((add_nil (lp LS) no) ▸ HL.out [] hfd rfl)
            clear HM HL hfd k3
            go_wp2_with fail
            go_roundw
            case rel => exact ⟨r, LS, no + 1, false, rfl, by go_num, rfl, by omega, (fun q => by cases q), by omega, by omega, by omega, (fun q => by cases q), fun _ => HR.out, o3, F3, b3, x3⟩
            case measure => show 0 < (B t).size + 1; exact Nat.succ_pos _
        · have hfp0 : 0 < fs.length := by
            have : fs.length ≠ 0 := fun q => hfs (List.eq_nil_of_length_eq_zero q)
            omega
          have hfp : (0 : Int) < (fs.length : Int) := by omega
          obtain ⟨gf, cf, rfl, hcf⟩ := own_formP ho hfp0
          have ho' := own_base ho hsz1
          have b3 := b2.trans (hb.mono hsz1); have x3 := x2.below hb x2.lt; have o3 := own_bel o2 hb; have F3 := OwnF.below F2 hb
          have hsz3 := b3.size
          clear b2 x2 o2 F2 hb HB hfl hfine ho
          have HA := Lib.hid (add_lp (LS := LS) (no := no) (g := gf) (c := cf) hfs)
          clear hfs
          have o3a := o3.alloc (.cells (Ln.C ⟨no, gf, cf, fs⟩) 110); have x3a := x3.alloc (.cells (Ln.C ⟨no, gf, cf, fs⟩) 110)
          cases m with
          | true =>
            have HR := Lib.hid (HA.out ▸ HM.out fs hfd rfl)
            have k4 := k3 rfl
            clear HM HL hfd k3 HA
            go_wp2_with (at_builtin; refine wpList_append_any _ rfl (.tmp 39) (.tmp 43) 105 rfl w.heap.size 110 i0 _ 2 32 Try.underlying105 HI.out hz0 hz1 hz2 rfl (by decide) _ LS.length (flat Ln.C LS) rfl o3a _ _ 1 1 (Ln.C ⟨no, gf, cf, fs⟩).toList rfl (reads_ln _ _ ⟨no, gf, cf, fs⟩) (ln_one _) (by unfold maxLen; omega) (by omega) (by have := b3.size; simp; omega) ?_; intro v1 w3 o4 g4 _)
            have b5 : Below w.heap.size w w3 := (b3.alloc hsz3 _).grown g4 (by simp; omega) (fun g hg => own_ge o3 g hg)
            have x5 : Blk w3 w.heap.size 55 (faC 0 0 0) := x3a.grown g4 (fun e => own_blk_ne o3a x3a (by decide) e.symm)
            have F5 := OwnF.app (x := ⟨no, gf, cf, fs⟩) F3 ho' o3a g4
            have o5 : w3.ownsRow w.heap.size 110 2 v1 (LS ++ [(⟨no, gf, cf, fs⟩ : Ln)]).length (flat Ln.C (LS ++ [(⟨no, gf, cf, fs⟩ : Ln)])) := by rw [flat_append, flat_one, List.length_append, List.length_singleton]; exact o4
            clear b3 x3 F3 o3 g4 o4 ho' o3a x3a
            go_wp2_with fail
            go_roundw
            case rel => exact ⟨r, LS ++ [(⟨no, gf, cf, fs⟩ : Ln)], no + 1, true, rfl, by go_num, rfl, by omega, fun _ => by omega, by omega, by omega, by rw [List.length_append, List.length_singleton]; omega, fun _ => ⟨f, by omega, HR.out⟩, (fun q => by cases q), o5, F5, b5, x5⟩
            case measure => show (B r).size + 1 < (B t).size + 1; rw [B_len, B_len]; omega
          | false =>
            have HR := Lib.hid (HA.out ▸ HL.out fs hfd rfl)
            clear HM HL hfd k3 HA
            go_wp2_with (at_builtin; refine wpList_append_any _ rfl (.tmp 39) (.tmp 43) 105 rfl w.heap.size 110 i0 _ 2 32 Try.underlying105 HI.out hz0 hz1 hz2 rfl (by decide) _ LS.length (flat Ln.C LS) rfl o3a _ _ 1 1 (Ln.C ⟨no, gf, cf, fs⟩).toList rfl (reads_ln _ _ ⟨no, gf, cf, fs⟩) (ln_one _) (by unfold maxLen; omega) (by omega) (by have := b3.size; simp; omega) ?_; intro v1 w3 o4 g4 _)
            have b5 : Below w.heap.size w w3 := (b3.alloc hsz3 _).grown g4 (by simp; omega) (fun g hg => own_ge o3 g hg)
            have x5 : Blk w3 w.heap.size 55 (faC 0 0 0) := x3a.grown g4 (fun e => own_blk_ne o3a x3a (by decide) e.symm)
            have F5 := OwnF.app (x := ⟨no, gf, cf, fs⟩) F3 ho' o3a g4
            have o5 : w3.ownsRow w.heap.size 110 2 v1 (LS ++ [(⟨no, gf, cf, fs⟩ : Ln)]).length (flat Ln.C (LS ++ [(⟨no, gf, cf, fs⟩ : Ln)])) := by rw [flat_append, flat_one, List.length_append, List.length_singleton]; exact o4
            clear b3 x3 F3 o3 g4 o4 ho' o3a x3a
            go_wp2_with fail
            go_roundw
            case rel => exact ⟨r, LS ++ [(⟨no, gf, cf, fs⟩ : Ln)], no + 1, false, rfl, by go_num, rfl, by omega, (fun q => by cases q), by omega, by omega, by rw [List.length_append, List.length_singleton]; omega, (fun q => by cases q), fun _ => HR.out, o5, F5, b5, x5⟩
            case measure => show 0 < (B t).size + 1; exact Nat.succ_pos _
end Go.Proofs.Ytoiccljmdplfgaa.Scn
