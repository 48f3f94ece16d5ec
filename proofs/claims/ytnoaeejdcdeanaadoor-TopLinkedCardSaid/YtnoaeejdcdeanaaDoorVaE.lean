/-
  ZONES, LINKS, A SOURCE: CHECKED: walked.
-/
import Derived.Test.YtnoaeejdcdeanaaDoorVaD
import Derived.Test.YtnoaeejdcdeanaaDoorSm
namespace Go.Proofs.YtnoaeejdcdeanaaDoor.Va
open Go.ChangeShapes Go.WideShapes Go.ChangeAt Go.RowKit Go.Shelf
open Go.Proofs.YtnoaeejdcdeanaaDoor
open Go.Proofs.YtnoaeejdcdeanaaDoor.Wd
open Go.Proofs.YtnoaeejdcdeanaaDoor.Sr
open Go.Proofs.YtnoaeejdcdeanaaDoor.Sl
set_option linter.unusedVariables false
set_option linter.unusedSimpArgs false
open Go.Proofs.YtnoaeejdcdeanaaDoor.Civ (ret_int ret_bool)
open Go.Proofs.YtnoaeejdcdeanaaDoor.Nv (name_any nmB)
open Go.Proofs.YtnoaeejdcdeanaaDoor.Ab (Tb)
/-- a right zone -/
structure ZnRt (z : Zn) : Prop where
  nm : nmB z.nm = true
  ln : 1 ≤ z.n
  es : ∀ i, i < z.n → ErOk (er_ z.es i) ∧ (er_ z.es i).en = decide (i + 1 < z.n)
open Classical in
noncomputable def znB (z : Zn) : Bool := decide (ZnRt z)
open Classical in
theorem znB_f {z : Zn} (h : ¬ ZnRt z) : znB z = false := by unfold znB; exact decide_eq_false h
open Classical in
theorem znB_t {z : Zn} (h : ZnRt z) : znB z = true := by unfold znB; exact decide_eq_true h
theorem znB_no {z : Zn} (h : ¬ ZnRt z) : Ending.returned (.bool false) = Ending.returned (.bool (znB z)) := by rw [znB_f h]
theorem znB_yes {z : Zn} (h : ZnRt z) : Ending.returned (.bool true) = Ending.returned (.bool (znB z)) := by rw [znB_t h]
/-- the eras up to the k-th are right -/
def Es (z : Zn) (k : Nat) : Prop := ∀ i, i < k → ErOk (er_ z.es i) ∧ (er_ z.es i).en = decide (i + 1 < z.n)
theorem Es.succ {z : Zn} {k : Nat} (h : Es z k) (h2 : ErOk (er_ z.es k) ∧ (er_ z.es k).en = decide (k + 1 < z.n)) : Es z (k + 1) := fun i hi => by
  by_cases e : i = k
  · subst e; exact h2
  · exact h i (by omega)
theorem Es.no {z : Zn} {k : Nat} (hk : k < z.n) (h2 : ¬ (ErOk (er_ z.es k) ∧ (er_ z.es k).en = decide (k + 1 < z.n))) : ¬ ZnRt z := fun q => h2 (q.es k hk)
set_option maxRecDepth 100000 in
set_option maxHeartbeats 12800000 in
theorem zone_any (z : Zn) (B : Nat) (w : World) (hT : Tb w) (hZ : ZnOk w B z) (hB : B ≤ w.heap.size) (hS : ZnS z) : Calls Tryd.prog 24 #[.agg z.C] w fun e0 w' => e0 = .returned (.bool (znB z)) ∧ Below w.heap.size w w' := by
  have hn : z.n ≤ 12 := hS.1
  have b := bal (Below.refl _ w) (.cells z.C 59)
  have x := Blk.new w 59 z.C
  have t1 : Tb (w.alloc (.cells z.C 59)) := hT.bel ((Below.refl _ w).alloc (Nat.le_refl _) _)
  go_enter Tryd.func24, Tryd.ntmps24
  go_upto_region 1 with fail
  generalize w.alloc (.cells z.C 59) = W at *
  obtain ⟨g, hg⟩ : ∃ g, w.heap.size = g := ⟨_, rfl⟩
  simp only [hg] at x ⊢
  have hgl : g ≤ w.heap.size := Nat.le_of_eq hg.symm
  clear hg
  have c0 : W.cell? ⟨g, 0, none⟩ = some (.string z.nm) := x.cell 0
  go_wp2_with fail
  refine (name_any z.nm _ hZ.1).mono ?_; rintro e0 W1 ⟨rfl, hb⟩
  have x1 := x.below hb x.lt; have b1 := bcl b hb; have t2 := t1.bel hb; clear hb x b t1 c0
  have c1 : W1.cell? ⟨g, 1, none⟩ = some (.slice z.A z.n z.c) := x1.cell 1
  cases h1 : nmB z.nm with
  | false =>
    have HN := Lib.hid (show ¬ ZnRt z from fun q => by have := q.nm; rw [h1] at this; cases this); clear h1
    go_wp2_with fail
    go_ret
    exact ⟨znB_no HN.out, b1⟩
  | true =>
    have H1 := Lib.hid h1; clear h1
    by_cases h2 : 1 ≤ z.n
    · have hI : ¬ (z.n : Int) < 1 := by omega
      have hI2 : ¬ (64 : Int) < (z.n : Int) := by omega
      obtain ⟨ad, eA, _⟩ := hZ.2.1.row (fun _ => rfl) Er.nil h2
      rw [eA] at c1
      have HAd := Lib.hid eA; clear eA
      have hZ2 := Lib.hid hZ; clear hZ
      have Hn := Lib.hid h2; clear h2
      go_wp2_with fail
      go_loopw [3, 4, 24] (fun _ _ i wr => ∃ k : Nat, i = .int .i64 (k : Int) ∧ k ≤ z.n ∧ Es z k ∧ Blk wr g 59 z.C ∧ Tb wr ∧ Below w.heap.size w wr) (fun _ _ i _ => z.n - (intOf i).toNat)
      case atStart => exact ⟨0, rfl, Nat.zero_le _, fun _ h => absurd h (Nat.not_lt_zero _), x1, t2, b1⟩
      case round =>
        clear x1 t2 b1 c1
        obtain ⟨k, rfl, hk, hE, x, tt, b⟩ := hrel
        have HEs := Lib.hid hE; clear hE
        by_cases hlt : k < z.n
        · have hltI : (k : Int) < (z.n : Int) := by omega
          obtain ⟨ad', eA, hrow⟩ := (hZ2.out.2.1.below (b.mono hB)).row (fun _ => rfl) Er.nil hlt
          obtain rfl : ad = ad' := Option.some.inj (HAd.out.symm.trans eA)
          clear eA
          have hmem : er_ z.es k ∈ z.es := getD_mem _ (by rw [hZ2.out.2.1.len]; exact hlt)
          have hbd := hZ2.out.2.2.1 _ hmem
          have hsz := hS.2.2 _ hmem; clear hmem
          have HNo := Lib.hid (Es.no hlt)
          have HSu := Lib.hid (HEs.out.succ)
          have c1 : wr.cell? ⟨g, 1, none⟩ = some (.slice z.A z.n z.c) := x.cell 1
          rw [HAd.out] at c1
          dsimp only [er_] at hbd hsz HNo HSu
          generalize z.es.getD k Er.nil = e at *
          have xa := x.alloc (.cells e.C 56); have ya := Blk.new wr 56 e.C; have ba := bal b (.cells e.C 56); have ta := tt.bel ((Below.refl _ wr).alloc (Nat.le_refl _) (.cells e.C 56))
          go_upto_region 6 with (first | (refine wpList_at_g rfl 56 _ rfl B _ e.C rfl _ hrow Tryd.underlying56 rfl (by kernel_rfl) ?_) | (refine wpList_store_new rfl 56 _ _ rfl rfl wr.heap.size e.C rfl rfl _ #[.int .i64 0, .int .u8 0, .int .i64 0, .string ⟨#[]⟩, .string ⟨#[]⟩, .bool false, .int .i64 0, .int .i64 0, .int .u8 0, .int .i64 0, .int .i64 0, .int .i64 0, .int .u8 0] wr rfl rfl rfl (by kernel_rfl) (by kernel_rfl) ?_))
          generalize wr.alloc (.cells e.C 56) = V at *
          obtain ⟨q, hq⟩ : ∃ q, wr.heap.size = q := ⟨_, rfl⟩
          simp only [hq] at ya ⊢
          clear hq hrow c1 x tt b
          have hc := era_any e V hbd ta ⟨by have := hsz.1; omega, by have := hsz.2; omega⟩
          rcases erE_02 e with h3 | h3
          · rw [h3] at hc
            have H3 := Lib.hid (erE_0.1 h3); clear h3
            go_wp2_with (refine wpList_row_g rfl 56 _ rfl _ rfl _ _ _ _ ya Tryd.underlying56 rfl (by kernel_rfl) ?_)
            refine hc.mono ?_; rintro e0 V2 ⟨rfl, hb⟩
            have x2 := xa.below hb xa.lt; have y2 := ya.below hb ya.lt; have b2 := bcl ba hb; have t2 := ta.bel hb; clear hb xa ya ba ta hc
            have c1 : V2.cell? ⟨g, 1, none⟩ = some (.slice z.A z.n z.c) := x2.cell 1
            rw [HAd.out] at c1
            have hltI1 : (k : Int) < (z.n : Int) := hltI
            cases h4 : e.en with
            | false =>
              have c5 : V2.cell? ⟨q, 5, none⟩ = some (.bool false) := by have := y2.cell 5; rw [← h4]; exact this
              by_cases h5 : k + 1 < z.n
              · have h5I : (k : Int) < (z.n : Int) - 1 := by omega
                have h5B : decide ((k : Int) < (z.n : Int) - 1) = true := decide_eq_true h5I
                have HN := Lib.hid (HNo.out fun p => by have := p.2; rw [h4] at this; have g := this.symm; simp at g; omega); clear h4 h5 H3 HNo HSu
                go_wp2_with fail
                go_ret
                exact ⟨znB_no HN.out, b2⟩
              · have h5I : ¬ (k : Int) < (z.n : Int) - 1 := by omega
                have h5B : decide ((k : Int) < (z.n : Int) - 1) = false := decide_eq_false h5I
                have HS := Lib.hid (HSu.out ⟨H3.out, by rw [h4]; symm; exact decide_eq_false h5⟩); clear h4 h5 H3 HNo HSu
                go_wp2_with fail
                go_roundw
                case rel => exact ⟨k + 1, by go_num, by omega, HS.out, x2, t2, b2⟩
                case measure => simp [intOf]; omega
            | true =>
              have c5 : V2.cell? ⟨q, 5, none⟩ = some (.bool true) := by have := y2.cell 5; rw [← h4]; exact this
              by_cases h5 : k + 1 < z.n
              · have h5I : (k : Int) < (z.n : Int) - 1 := by omega
                have h5B : decide ((k : Int) < (z.n : Int) - 1) = true := decide_eq_true h5I
                have HS := Lib.hid (HSu.out ⟨H3.out, by rw [h4]; symm; exact decide_eq_true h5⟩); clear h4 h5 H3 HNo HSu
                go_wp2_with fail
                go_roundw
                case rel => exact ⟨k + 1, by go_num, by omega, HS.out, x2, t2, b2⟩
                case measure => simp [intOf]; omega
              · have h5I : ¬ (k : Int) < (z.n : Int) - 1 := by omega
                have h5B : decide ((k : Int) < (z.n : Int) - 1) = false := decide_eq_false h5I
                have HN := Lib.hid (HNo.out fun p => by have := p.2; rw [h4] at this; have g := this.symm; simp at g; omega); clear h4 h5 H3 HNo HSu
                go_wp2_with fail
                go_ret
                exact ⟨znB_no HN.out, b2⟩
          · rw [h3] at hc
            have HN := Lib.hid (HNo.out fun p => by have := erE_0.2 p.1; rw [h3] at this; cases this); clear h3 HNo HSu
            go_wp2_with (refine wpList_row_g rfl 56 _ rfl _ rfl _ _ _ _ ya Tryd.underlying56 rfl (by kernel_rfl) ?_)
            refine hc.mono ?_; rintro e0 V2 ⟨rfl, hb⟩
            have x2 := xa.below hb xa.lt; have y2 := ya.below hb ya.lt; have b2 := bcl ba hb; have t2 := ta.bel hb; clear hb xa ya ba ta hc
            go_wp2_with fail
            go_ret
            exact ⟨znB_no HN.out, b2⟩
        · have e0 : k = z.n := by omega
          have HN := Lib.hid (show ZnRt z from ⟨H1.out, Hn.out, fun i hi => HEs.out i (by omega)⟩)
          have hI3 : ¬ (k : Int) < (z.n : Int) := by omega
          clear e0
          go_wp2_with fail
          go_ret
          exact ⟨znB_yes HN.out, b⟩
    · have HN := Lib.hid (show ¬ ZnRt z from fun q => h2 q.ln)
      have hI : (z.n : Int) < 1 := by omega
      clear h2
      go_wp2_with fail
      go_ret
      exact ⟨znB_no HN.out, b1⟩
/-- a right link -/
def LiRt (l : Li) : Prop := nmB l.tg = true ∧ nmB l.nm = true
set_option maxRecDepth 100000 in
set_option maxHeartbeats 3200000 in
theorem wrongRule (r : Ru) (w : World) (hT : Tb w) (hB : r.Bd) (c : Bool) (hc : c = true ↔ ¬ RuOk r) : Calls Tryd.prog 21 #[.agg r.C] w fun e0 w' => e0 = .returned (.bool c) ∧ Below w.heap.size w w' := by
  have b := bal (Below.refl _ w) (.cells r.C 61)
  have x := Blk.new w 61 r.C
  go_enter Tryd.func21, Tryd.ntmps21
  have hr := rule_any r (w.alloc (.cells r.C 61)) hB
  rcases ruE_02 r with h | h
  · rw [h] at hr
    obtain rfl : c = false := by cases c; rfl; exact absurd (ruE_0.1 h) (hc.1 rfl)
    clear h hc
    go_wp2_with (refine wpList_row_g rfl 61 _ rfl _ rfl _ _ _ _ x Tryd.underlying61 rfl (by kernel_rfl) ?_)
    refine hr.mono ?_; rintro e0 W1 ⟨rfl, hb⟩
    have b1 := bcl b hb
    go_wp2_with fail
    go_ret
    exact ⟨rfl, b1⟩
  · rw [h] at hr
    obtain rfl : c = true := hc.2 (fun p => by have := ruE_0.2 p; rw [h] at this; cases this)
    clear h hc
    go_wp2_with (refine wpList_row_g rfl 61 _ rfl _ rfl _ _ _ _ x Tryd.underlying61 rfl (by kernel_rfl) ?_)
    refine hr.mono ?_; rintro e0 W1 ⟨rfl, hb⟩
    have b1 := bcl b hb
    go_wp2_with fail
    go_ret
    exact ⟨rfl, b1⟩
set_option maxRecDepth 100000 in
set_option maxHeartbeats 3200000 in
theorem wrongZone (z : Zn) (w : World) (hT : Tb w) (B : Nat) (hZ : ZnOk w B z) (hBw : B ≤ w.heap.size) (hS : ZnS z) (c : Bool) (hc : c = true ↔ ¬ ZnRt z) : Calls Tryd.prog 23 #[.agg z.C] w fun e0 w' => e0 = .returned (.bool c) ∧ Below w.heap.size w w' := by
  have b := bal (Below.refl _ w) (.cells z.C 59)
  have x := Blk.new w 59 z.C
  go_enter Tryd.func23, Tryd.ntmps23
  have hz := zone_any z B (w.alloc (.cells z.C 59)) (hT.bel ((Below.refl _ w).alloc (Nat.le_refl _) _)) (hZ.below ((Below.refl _ w).alloc hBw _)) (by rw [Wd.sz1 _ _ rfl]; omega) hS
  have hcz : c = !znB z := by cases c with
    | true => rw [znB_f (hc.1 rfl)]; rfl
    | false => rw [znB_t (Classical.byContradiction fun q => by have := hc.2 q; cases this)]; rfl
  clear hc
  cases h : znB z with
  | false =>
    rw [h] at hz hcz
    subst hcz
    clear h
    go_wp2_with (refine wpList_row_g rfl 59 _ rfl _ rfl _ _ _ _ x Tryd.underlying59 rfl (by kernel_rfl) ?_)
    refine hz.mono ?_; rintro e0 W1 ⟨rfl, hb⟩
    have b1 := bcl b hb
    go_wp2_with fail
    go_ret
    exact ⟨rfl, b1⟩
  | true =>
    rw [h] at hz hcz
    subst hcz
    clear h
    go_wp2_with (refine wpList_row_g rfl 59 _ rfl _ rfl _ _ _ _ x Tryd.underlying59 rfl (by kernel_rfl) ?_)
    refine hz.mono ?_; rintro e0 W1 ⟨rfl, hb⟩
    have b1 := bcl b hb
    go_wp2_with fail
    go_ret
    exact ⟨rfl, b1⟩
set_option maxRecDepth 100000 in
set_option maxHeartbeats 3200000 in
theorem wrongLink (l : Li) (w : World) (hT : Tb w) (hB : LiOk l) (c : Bool) (hc : c = true ↔ ¬ LiRt l) : Calls Tryd.prog 25 #[.agg l.C] w fun e0 w' => e0 = .returned (.bool c) ∧ Below w.heap.size w w' := by
  have b := bal (Below.refl _ w) (.cells l.C 32)
  have x := Blk.new w 32 l.C
  go_enter Tryd.func25, Tryd.ntmps25
  go_upto_region 1 with fail
  generalize w.alloc (.cells l.C 32) = W at *
  obtain ⟨g, hg⟩ : ∃ g, w.heap.size = g := ⟨_, rfl⟩
  simp only [hg] at x ⊢
  clear hg
  have c0 : W.cell? ⟨g, 0, none⟩ = some (.string l.tg) := x.cell 0
  go_wp2_with fail
  refine (name_any l.tg _ hB.1).mono ?_; rintro e0 W1 ⟨rfl, hb⟩
  have x1 := x.below hb x.lt; have b1 := bcl b hb; clear hb x b c0
  cases h1 : nmB l.tg with
  | false =>
    obtain rfl : c = true := hc.2 (fun p => by have := p.1; rw [h1] at this; cases this)
    clear hc h1
    go_wp2_with fail
    go_ret
    exact ⟨rfl, b1⟩
  | true =>
    have c1 : W1.cell? ⟨g, 1, none⟩ = some (.string l.nm) := x1.cell 1
    have H1 := Lib.hid h1; clear h1
    have HC := Lib.hid hc; clear hc
    go_wp2_with fail
    refine (name_any l.nm _ hB.2).mono ?_; rintro e0 W2 ⟨rfl, hb⟩
    have b2 := bcl b1 hb; clear hb
    cases h2 : nmB l.nm with
    | false =>
      obtain rfl : c = true := HC.out.2 (fun p => by have := p.2; rw [h2] at this; cases this)
      clear h2 H1 HC
      go_wp2_with fail
      go_ret
      exact ⟨rfl, b2⟩
    | true =>
      obtain rfl : c = false := by cases hq : c; rfl; exact absurd ⟨H1.out, h2⟩ (HC.out.1 hq)
      clear h2 H1 HC
      go_wp2_with fail
      go_ret
      exact ⟨rfl, b2⟩
theorem all_step {α : Type} {P : α → Prop} {l : List α} {k : Nat} (d : α) (hk : k < l.length) (h : ∀ a ∈ l.take k, P a) (h2 : P (l.getD k d)) : ∀ a ∈ l.take (k + 1), P a := fun a ha => by
  rw [getD_take d hk] at ha
  rcases List.mem_append.1 ha with g | g
  · exact h a g
  · have : a = l.getD k d := by simpa using g
    rw [this]; exact h2
set_option maxRecDepth 100000 in
set_option maxHeartbeats 3200000 in
theorem indexRule (A : Option Addr) (n c B : Nat) (l : List Ru) (w : World) (hT : Tb w) (hR : Sls Ru.C 11 w B A n l) (hB : B ≤ w.heap.size) (hm : n ≤ 1000) (hP : ∀ a ∈ l, a.Bd) :
    Calls Tryd.prog 40 #[.slice A n c, .func (.func 21) #[] #[]] w fun e0 w' => (∃ i : Int, e0 = .returned (.int .i64 i) ∧ ((i = -1 ∧ ∀ a ∈ l, RuOk a) ∨ (0 ≤ i ∧ ¬ ∀ a ∈ l, RuOk a))) ∧ Below w.heap.size w w' := by
  have hll := hR.len
  go_enter Tryd.func40, Tryd.ntmps40
  go_wp2_with fail
  go_loopw [5, 8] (fun _ i wr => ∃ k : Nat, i = .int .i64 (k : Int) ∧ k ≤ n ∧ (∀ a ∈ l.take k, RuOk a) ∧ Tb wr ∧ Below w.heap.size w wr) (fun _ i _ => n - (intOf i).toNat)
  case atStart => exact ⟨0, rfl, Nat.zero_le _, fun a ha => by simp at ha, hT, Below.refl _ _⟩
  case round =>
    obtain ⟨k, rfl, hk, hall, tt, b⟩ := hrel
    have HA := Lib.hid hall; clear hall
    by_cases hlt : k < n
    · have hltI : (k : Int) < (n : Int) := by omega
      have hkl : k < l.length := by omega
      obtain ⟨ad, eA, hrow⟩ := (hR.below (b.mono hB)).row (fun _ => rfl) Ru.nil hlt
      subst eA
      have hmem : l.getD k Ru.nil ∈ l := getD_mem _ hkl
      have hbd := hP _ hmem
      have HNo := Lib.hid (fun (h : ¬ RuOk (l.getD k Ru.nil)) (q : ∀ a ∈ l, RuOk a) => h (q _ hmem))
      have HSu := Lib.hid (all_step Ru.nil hkl HA.out)
      clear hmem
      generalize l.getD k Ru.nil = a at *
      by_cases hp : RuOk a
      · have hc := wrongRule a wr tt hbd false (⟨fun q => (by cases q), fun q => absurd hp q⟩)
        have HS := Lib.hid (HSu.out hp); clear HSu HNo hp
        go_wp2_with (refine wpList_at_g rfl 61 _ rfl B _ a.C rfl _ hrow Tryd.underlying61 rfl (by kernel_rfl) ?_)
        refine hc.mono ?_; rintro e0 W1 ⟨rfl, hb⟩
        have b1 := bcl b hb; have t1 := tt.bel hb; clear hb hc hrow
        go_wp2_with fail
        go_roundw
        case rel => exact ⟨k + 1, by go_num, by omega, HS.out, t1, b1⟩
        case measure => simp [intOf]; omega
      · have hc := wrongRule a wr tt hbd true (⟨fun _ => hp, fun _ => rfl⟩)
        have HN := Lib.hid (HNo.out hp); clear HSu HNo hp
        go_wp2_with (refine wpList_at_g rfl 61 _ rfl B _ a.C rfl _ hrow Tryd.underlying61 rfl (by kernel_rfl) ?_)
        refine hc.mono ?_; rintro e0 W1 ⟨rfl, hb⟩
        have b1 := bcl b hb; have t1 := tt.bel hb; clear hb hc hrow
        go_wp2_with fail
        go_ret
        exact ⟨⟨_, rfl, Or.inr ⟨by omega, HN.out⟩⟩, b1⟩
    · have e0 : k = n := by omega
      have HF := Lib.hid (show ∀ a ∈ l, RuOk a from fun a ha => HA.out a (by rw [List.take_of_length_le (by omega)]; exact ha))
      have hltI : ¬ (k : Int) < (n : Int) := by omega
      clear e0
      go_wp2_with fail
      go_ret
      exact ⟨⟨_, rfl, Or.inl ⟨rfl, HF.out⟩⟩, b⟩
set_option maxRecDepth 100000 in
set_option maxHeartbeats 3200000 in
theorem containsRule (A : Option Addr) (n c B : Nat) (l : List Ru) (w : World) (hT : Tb w) (hR : Sls Ru.C 11 w B A n l) (hB : B ≤ w.heap.size) (hm : n ≤ 1000) (hP : ∀ a ∈ l, a.Bd) (t : Bool) (ht : t = true ↔ ¬ ∀ a ∈ l, RuOk a) :
    Calls Tryd.prog 27 #[.slice A n c, .func (.func 21) #[] #[]] w fun e0 w' => e0 = .returned (.bool t) ∧ Below w.heap.size w w' := by
  have hi := indexRule A n c B l w hT hR hB hm hP
  have HT := Lib.hid ht; clear ht
  go_enter Tryd.func27, Tryd.ntmps27
  go_wp2_with fail
  refine hi.mono ?_; rintro e0 W1 ⟨⟨i, rfl, h⟩, b1⟩
  rcases h with ⟨rfl, h⟩ | ⟨h0, h⟩
  · have HD := Lib.hid (show t = false by cases q : t; rfl; exact absurd h (HT.out.1 q)); clear h
    go_wp2_with fail
    go_ret
    exact ⟨by rw [HD.out]; rfl, b1⟩
  · have HD := Lib.hid (HT.out.2 h); clear h
    go_wp2_with fail
    go_ret
    exact ⟨by rw [HD.out]; rfl, b1⟩
set_option maxRecDepth 100000 in
set_option maxHeartbeats 3200000 in
theorem indexZone (A : Option Addr) (n c B : Nat) (l : List Zn) (w : World) (hT : Tb w) (hR : Sls Zn.C 2 w B A n l) (hB : B ≤ w.heap.size) (hm : n ≤ 1000) (hP : ∀ a ∈ l, ZnOk w B a ∧ ZnS a) :
    Calls Tryd.prog 41 #[.slice A n c, .func (.func 23) #[] #[]] w fun e0 w' => (∃ i : Int, e0 = .returned (.int .i64 i) ∧ ((i = -1 ∧ ∀ a ∈ l, ZnRt a) ∨ (0 ≤ i ∧ ¬ ∀ a ∈ l, ZnRt a))) ∧ Below w.heap.size w w' := by
  have hll := hR.len
  go_enter Tryd.func41, Tryd.ntmps41
  go_wp2_with fail
  go_loopw [5, 8] (fun _ i wr => ∃ k : Nat, i = .int .i64 (k : Int) ∧ k ≤ n ∧ (∀ a ∈ l.take k, ZnRt a) ∧ Tb wr ∧ Below w.heap.size w wr) (fun _ i _ => n - (intOf i).toNat)
  case atStart => exact ⟨0, rfl, Nat.zero_le _, fun a ha => by simp at ha, hT, Below.refl _ _⟩
  case round =>
    obtain ⟨k, rfl, hk, hall, tt, b⟩ := hrel
    have HA := Lib.hid hall; clear hall
    by_cases hlt : k < n
    · have hltI : (k : Int) < (n : Int) := by omega
      have hkl : k < l.length := by omega
      obtain ⟨ad, eA, hrow⟩ := (hR.below (b.mono hB)).row (fun _ => rfl) Zn.nil hlt
      subst eA
      have hmem : l.getD k Zn.nil ∈ l := getD_mem _ hkl
      have hbd := hP _ hmem
      have HNo := Lib.hid (fun (h : ¬ ZnRt (l.getD k Zn.nil)) (q : ∀ a ∈ l, ZnRt a) => h (q _ hmem))
      have HSu := Lib.hid (all_step Zn.nil hkl HA.out)
      clear hmem
      generalize l.getD k Zn.nil = a at *
      by_cases hp : ZnRt a
      · have hc := wrongZone a wr tt B (hbd.1.below (b.mono hB)) (Nat.le_trans hB b.size) hbd.2 false (⟨fun q => (by cases q), fun q => absurd hp q⟩)
        have HS := Lib.hid (HSu.out hp); clear HSu HNo hp
        go_wp2_with (refine wpList_at_g rfl 59 _ rfl B _ a.C rfl _ hrow Tryd.underlying59 rfl (by kernel_rfl) ?_)
        refine hc.mono ?_; rintro e0 W1 ⟨rfl, hb⟩
        have b1 := bcl b hb; have t1 := tt.bel hb; clear hb hc hrow
        go_wp2_with fail
        go_roundw
        case rel => exact ⟨k + 1, by go_num, by omega, HS.out, t1, b1⟩
        case measure => simp [intOf]; omega
      · have hc := wrongZone a wr tt B (hbd.1.below (b.mono hB)) (Nat.le_trans hB b.size) hbd.2 true (⟨fun _ => hp, fun _ => rfl⟩)
        have HN := Lib.hid (HNo.out hp); clear HSu HNo hp
        go_wp2_with (refine wpList_at_g rfl 59 _ rfl B _ a.C rfl _ hrow Tryd.underlying59 rfl (by kernel_rfl) ?_)
        refine hc.mono ?_; rintro e0 W1 ⟨rfl, hb⟩
        have b1 := bcl b hb; have t1 := tt.bel hb; clear hb hc hrow
        go_wp2_with fail
        go_ret
        exact ⟨⟨_, rfl, Or.inr ⟨by omega, HN.out⟩⟩, b1⟩
    · have e0 : k = n := by omega
      have HF := Lib.hid (show ∀ a ∈ l, ZnRt a from fun a ha => HA.out a (by rw [List.take_of_length_le (by omega)]; exact ha))
      have hltI : ¬ (k : Int) < (n : Int) := by omega
      clear e0
      go_wp2_with fail
      go_ret
      exact ⟨⟨_, rfl, Or.inl ⟨rfl, HF.out⟩⟩, b⟩
set_option maxRecDepth 100000 in
set_option maxHeartbeats 3200000 in
theorem containsZone (A : Option Addr) (n c B : Nat) (l : List Zn) (w : World) (hT : Tb w) (hR : Sls Zn.C 2 w B A n l) (hB : B ≤ w.heap.size) (hm : n ≤ 1000) (hP : ∀ a ∈ l, ZnOk w B a ∧ ZnS a) (t : Bool) (ht : t = true ↔ ¬ ∀ a ∈ l, ZnRt a) :
    Calls Tryd.prog 28 #[.slice A n c, .func (.func 23) #[] #[]] w fun e0 w' => e0 = .returned (.bool t) ∧ Below w.heap.size w w' := by
  have hi := indexZone A n c B l w hT hR hB hm hP
  have HT := Lib.hid ht; clear ht
  go_enter Tryd.func28, Tryd.ntmps28
  go_wp2_with fail
  refine hi.mono ?_; rintro e0 W1 ⟨⟨i, rfl, h⟩, b1⟩
  rcases h with ⟨rfl, h⟩ | ⟨h0, h⟩
  · have HD := Lib.hid (show t = false by cases q : t; rfl; exact absurd h (HT.out.1 q)); clear h
    go_wp2_with fail
    go_ret
    exact ⟨by rw [HD.out]; rfl, b1⟩
  · have HD := Lib.hid (HT.out.2 h); clear h
    go_wp2_with fail
    go_ret
    exact ⟨by rw [HD.out]; rfl, b1⟩
set_option maxRecDepth 100000 in
set_option maxHeartbeats 3200000 in
theorem indexLink (A : Option Addr) (n c B : Nat) (l : List Li) (w : World) (hT : Tb w) (hR : Sls Li.C 2 w B A n l) (hB : B ≤ w.heap.size) (hm : n ≤ 1000) (hP : ∀ a ∈ l, LiOk a) :
    Calls Tryd.prog 42 #[.slice A n c, .func (.func 25) #[] #[]] w fun e0 w' => (∃ i : Int, e0 = .returned (.int .i64 i) ∧ ((i = -1 ∧ ∀ a ∈ l, LiRt a) ∨ (0 ≤ i ∧ ¬ ∀ a ∈ l, LiRt a))) ∧ Below w.heap.size w w' := by
  have hll := hR.len
  go_enter Tryd.func42, Tryd.ntmps42
  go_wp2_with fail
  go_loopw [5, 8] (fun _ i wr => ∃ k : Nat, i = .int .i64 (k : Int) ∧ k ≤ n ∧ (∀ a ∈ l.take k, LiRt a) ∧ Tb wr ∧ Below w.heap.size w wr) (fun _ i _ => n - (intOf i).toNat)
  case atStart => exact ⟨0, rfl, Nat.zero_le _, fun a ha => by simp at ha, hT, Below.refl _ _⟩
  case round =>
    obtain ⟨k, rfl, hk, hall, tt, b⟩ := hrel
    have HA := Lib.hid hall; clear hall
    by_cases hlt : k < n
    · have hltI : (k : Int) < (n : Int) := by omega
      have hkl : k < l.length := by omega
      obtain ⟨ad, eA, hrow⟩ := (hR.below (b.mono hB)).row (fun _ => rfl) Li.nil hlt
      subst eA
      have hmem : l.getD k Li.nil ∈ l := getD_mem _ hkl
      have hbd := hP _ hmem
      have HNo := Lib.hid (fun (h : ¬ LiRt (l.getD k Li.nil)) (q : ∀ a ∈ l, LiRt a) => h (q _ hmem))
      have HSu := Lib.hid (all_step Li.nil hkl HA.out)
      clear hmem
      generalize l.getD k Li.nil = a at *
      by_cases hp : LiRt a
      · have hc := wrongLink a wr tt hbd false (⟨fun q => (by cases q), fun q => absurd hp q⟩)
        have HS := Lib.hid (HSu.out hp); clear HSu HNo hp
        go_wp2_with (refine wpList_at_g rfl 32 _ rfl B _ a.C rfl _ hrow Tryd.underlying32 rfl (by kernel_rfl) ?_)
        refine hc.mono ?_; rintro e0 W1 ⟨rfl, hb⟩
        have b1 := bcl b hb; have t1 := tt.bel hb; clear hb hc hrow
        go_wp2_with fail
        go_roundw
        case rel => exact ⟨k + 1, by go_num, by omega, HS.out, t1, b1⟩
        case measure => simp [intOf]; omega
      · have hc := wrongLink a wr tt hbd true (⟨fun _ => hp, fun _ => rfl⟩)
        have HN := Lib.hid (HNo.out hp); clear HSu HNo hp
        go_wp2_with (refine wpList_at_g rfl 32 _ rfl B _ a.C rfl _ hrow Tryd.underlying32 rfl (by kernel_rfl) ?_)
        refine hc.mono ?_; rintro e0 W1 ⟨rfl, hb⟩
        have b1 := bcl b hb; have t1 := tt.bel hb; clear hb hc hrow
        go_wp2_with fail
        go_ret
        exact ⟨⟨_, rfl, Or.inr ⟨by omega, HN.out⟩⟩, b1⟩
    · have e0 : k = n := by omega
      have HF := Lib.hid (show ∀ a ∈ l, LiRt a from fun a ha => HA.out a (by rw [List.take_of_length_le (by omega)]; exact ha))
      have hltI : ¬ (k : Int) < (n : Int) := by omega
      clear e0
      go_wp2_with fail
      go_ret
      exact ⟨⟨_, rfl, Or.inl ⟨rfl, HF.out⟩⟩, b⟩
set_option maxRecDepth 100000 in
set_option maxHeartbeats 3200000 in
theorem containsLink (A : Option Addr) (n c B : Nat) (l : List Li) (w : World) (hT : Tb w) (hR : Sls Li.C 2 w B A n l) (hB : B ≤ w.heap.size) (hm : n ≤ 1000) (hP : ∀ a ∈ l, LiOk a) (t : Bool) (ht : t = true ↔ ¬ ∀ a ∈ l, LiRt a) :
    Calls Tryd.prog 29 #[.slice A n c, .func (.func 25) #[] #[]] w fun e0 w' => e0 = .returned (.bool t) ∧ Below w.heap.size w w' := by
  have hi := indexLink A n c B l w hT hR hB hm hP
  have HT := Lib.hid ht; clear ht
  go_enter Tryd.func29, Tryd.ntmps29
  go_wp2_with fail
  refine hi.mono ?_; rintro e0 W1 ⟨⟨i, rfl, h⟩, b1⟩
  rcases h with ⟨rfl, h⟩ | ⟨h0, h⟩
  · have HD := Lib.hid (show t = false by cases q : t; rfl; exact absurd h (HT.out.1 q)); clear h
    go_wp2_with fail
    go_ret
    exact ⟨by rw [HD.out]; rfl, b1⟩
  · have HD := Lib.hid (HT.out.2 h); clear h
    go_wp2_with fail
    go_ret
    exact ⟨by rw [HD.out]; rfl, b1⟩
end Go.Proofs.YtnoaeejdcdeanaaDoor.Va
