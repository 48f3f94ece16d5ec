/-
  LISTS OF TEXTS: compared; the names of a source; the aliases of a name: walked.
-/
import Derived.Test.YtnoaeejdcdeanaaDoorLk4
import Derived.Laws.MakeOwn
import Derived.Deep.DeepAppendRoom
namespace Go.Proofs.YtnoaeejdcdeanaaDoor.Lk
open Go.ChangeShapes Go.WideShapes Go.ChangeAt Go.RowKit Go.Shelf
open Go.Proofs.YtnoaeejdcdeanaaDoor
open Go.Proofs.YtnoaeejdcdeanaaDoor.Wd
open Go.Proofs.YtnoaeejdcdeanaaDoor.Sl
open Go.Proofs.YtnoaeejdcdeanaaDoor.Sr
open Go.Proofs.YtnoaeejdcdeanaaDoor.Mp (Smap mput wpList_look wpList_look_no wpList_look_yes wpList_mput wp_mput)
set_option linter.unusedVariables false
set_option linter.unusedSimpArgs false
/-- the names of a source -/
def nmB (S : So) : List ByteArray := S.zs.map (·.nm) ++ S.ls.map (·.nm)
theorem nmB_keys (S : So) : keys (nmB S) = znames S ++ lnames S := by unfold nmB keys znames lnames; rw [List.map_append, List.map_map, List.map_map]; rfl
theorem nmB_len (S : So) : (nmB S).length = S.zs.length + S.ls.length := by unfold nmB; simp
set_option maxRecDepth 100000 in
set_option maxHeartbeats 6400000 in
theorem names_any (h : Hd) (S : So) (w : World) (hS : SoR w w.heap.size h S) (hzn : h.zn ≤ 5864062014805) (hln : h.ln ≤ 4398046511104) :
    Calls Tryd.prog 13 #[h.V] w fun e w' => ∃ (A : Option Addr) (c : Nat), e = .returned (.slice A (nmB S).length c) ∧ w'.ownsRow w.heap.size 9 1 (.slice A (nmB S).length c) (nmB S).length (stV (nmB S)) ∧ Below w.heap.size w w' := by
  have i1 := bal (Below.refl _ w) (.cells h.C 26)
  have x1 := Blk.new w 26 h.C
  have c1 : (w.alloc (.cells h.C 26)).cell? ⟨w.heap.size, 1, none⟩ = some (.slice h.zA h.zn h.zc) := x1.cell 1
  have c2 : (w.alloc (.cells h.C 26)).cell? ⟨w.heap.size, 2, none⟩ = some (.slice h.lA h.ln h.lc) := x1.cell 2
  have HSR := Lib.hid hS
  obtain ⟨i0, hi0, hz1, hz2, hz3⟩ := info_parts info_str
  have HI := Lib.hid hi0; clear hi0
  clear hS
  go_enter Tryd.func13, Tryd.ntmps13
  go_upto_region 2 with (at_make; refine wpList_make_own _ rfl _ _ 40 rfl w.heap.size 9 i0 (.string ByteArray.empty) 1 Tryd.underlying40 HI.out hz1 hz2 .i64 .i64 _ (h.zn + h.ln) rfl rfl (by omega) (by rw [hz3]; omega) (by unfold maxLen; omega) i1.size ?_; intro w0 hown0 hgrow0)
  rw [show (w.alloc (.cells h.C 26)).heap.size = w.heap.size + 1 from sz1 _ _ rfl] at hown0
  have i2 := i1.grown hgrow0 i1.size (fun g e => by cases e)
  have x2 := x1.grown hgrow0 (fun e => by cases e)
  have d1 : w0.cell? ⟨w.heap.size, 1, none⟩ = some (.slice h.zA h.zn h.zc) := x2.cell 1
  have d2 : w0.cell? ⟨w.heap.size, 2, none⟩ = some (.slice h.lA h.ln h.lc) := x2.cell 2
  clear i1 x1 c1 c2 hgrow0
  go_wp2_with fail
  go_loopw [3, 19] (fun v i wr => ∃ k : Nat, i = .int .i64 k ∧ k ≤ h.zn ∧ v = .slice (some ⟨w.heap.size + 1, 0, none⟩) k (h.zn + h.ln) ∧ wr.ownsRow w.heap.size 9 1 v k (stV ((S.zs.take k).map (·.nm))) ∧ Below w.heap.size w wr ∧ Blk wr w.heap.size 26 h.C) (fun _ i _ => h.zn - (intOf i).toNat)
  case atStart => exact ⟨0, rfl, Nat.zero_le _, rfl, hown0, i2, x2⟩
  case round =>
    clear d1 d2 i2 x2 hown0
    obtain ⟨k, rfl, hk, rfl, how, hb, hx⟩ := hrel
    by_cases hlt : k < h.zn
    · have hlt' : (k : Int) < (h.zn : Int) := by omega
      have hS2 := HSR.out.below hb
      obtain ⟨ad, e0, hr⟩ : ∃ ad, h.zA = some ad ∧ Row wr w.heap.size (ad.add (k * 2)) (zn_ S.zs k).C := hS2.z.row (fun _ => rfl) Zn.nil hlt
      rw [e0]
      clear e0 hS2
      have htk := Lib.hid (show stV ((S.zs.take (k + 1)).map (·.nm)) = stV ((S.zs.take k).map (·.nm)) ++ [.string (zn_ S.zs k).nm] by
        rw [getD_take Zn.nil (by rw [HSR.out.z.len]; exact hlt)]; simp)
      have i2 := bal (bal hb (.cells (zn_ S.zs k).C 59)) (.cells #[.string (zn_ S.zs k).nm] 9)
      have x2 := (hx.alloc (.cells (zn_ S.zs k).C 59)).alloc (.cells #[.string (zn_ S.zs k).nm] 9)
      have z2 := Blk.new wr 59 (zn_ S.zs k).C
      generalize zn_ S.zs k = z at *
      have n2 : (wr.alloc (.cells z.C 59)).cell? ⟨wr.heap.size, 0, none⟩ = some (.string z.nm) := z2.cell 0
      have hoa := (how.alloc (.cells z.C 59)).alloc (.cells #[.string z.nm] 9)
      have hsz := sz1 wr (.cells z.C 59) rfl
      have hco := cell_one_new (wr.alloc (.cells z.C 59)) (.string z.nm) 9
      rw [hsz] at hco
      have HCO := Lib.hid hco; clear hco hsz
      have hbs := hb.size
      go_wp2_with (first | refine wpList_at_g rfl 59 _ rfl w.heap.size _ z.C rfl _ hr Tryd.underlying59 rfl (by kernel_rfl) ?_ | refine wpList_store_new rfl 59 _ _ rfl rfl wr.heap.size z.C rfl rfl _ #[.string ByteArray.empty, .slice none 0 0] wr rfl rfl rfl (by kernel_rfl) (by kernel_rfl) ?_ | (at_builtin; refine wpList_append_own_spare _ rfl _ _ 40 rfl w.heap.size 9 i0 1 Tryd.underlying40 HI.out hz2 (w.heap.size + 1) k (h.zn + h.ln) _ rfl hoa ⟨wr.heap.size + 1, 0, none⟩ 1 1 [.string z.nm] rfl rfl HCO.out (by simp [Value.oneCell']) (by omega) ?_; intro w1 hown1 hg1))
      have hb4 := i2.grown hg1 i2.size (fun g e => by cases e; omega)
      have x4 := x2.grown hg1 (fun e => by have := Option.some.inj e; omega)
      go_roundw
      case rel => exact ⟨k + 1, by go_num, by omega, rfl, by rw [htk.out]; exact hown1, hb4, x4⟩
      case measure => simp [intOf]; omega
    · obtain rfl : k = h.zn := by omega
      rw [show S.zs.take h.zn = S.zs by rw [← HSR.out.z.len, List.take_length]] at how
      have hlt' : ¬ (h.zn : Int) < (h.zn : Int) := by omega
      have d2 : wr.cell? ⟨w.heap.size, 2, none⟩ = some (.slice h.lA h.ln h.lc) := hx.cell 2
      have how0 : wr.ownsRow w.heap.size 9 1 (.slice (some ⟨w.heap.size + 1, 0, none⟩) (h.zn + 0) (h.zn + h.ln)) (h.zn + 0) (stV (S.zs.map (·.nm) ++ (S.ls.take 0).map (·.nm))) := by rw [List.take_zero, List.map_nil, List.append_nil]; exact how
      obtain ⟨W9, rfl⟩ : ∃ W9 : World, W9 = wr := ⟨_, rfl⟩
      go_wp2_with fail
      go_loopw [3, 32] (fun v i wr => ∃ k : Nat, i = .int .i64 k ∧ k ≤ h.ln ∧ v = .slice (some ⟨w.heap.size + 1, 0, none⟩) (h.zn + k) (h.zn + h.ln) ∧ wr.ownsRow w.heap.size 9 1 v (h.zn + k) (stV (S.zs.map (·.nm) ++ (S.ls.take k).map (·.nm))) ∧ Below w.heap.size w wr ∧ Blk wr w.heap.size 26 h.C) (fun _ i _ => h.ln - (intOf i).toNat)
      case atStart => exact ⟨0, rfl, Nat.zero_le _, rfl, how0, hb, hx⟩
      case round =>
        clear d2 how how0 hb hx hlt hlt' hk
        obtain ⟨k, rfl, hk, rfl, how, hb, hx⟩ := hrel
        by_cases hlt : k < h.ln
        · have hlt' : (k : Int) < (h.ln : Int) := by omega
          have hS2 := HSR.out.below hb
          obtain ⟨ad, e0, hr⟩ : ∃ ad, h.lA = some ad ∧ Row wr w.heap.size (ad.add (k * 2)) (li_ S.ls k).C := hS2.l.row (fun _ => rfl) Li.nil hlt
          rw [e0]
          clear e0 hS2
          have htk := Lib.hid (show stV (S.zs.map (·.nm) ++ (S.ls.take (k + 1)).map (·.nm)) = stV (S.zs.map (·.nm) ++ (S.ls.take k).map (·.nm)) ++ [.string (li_ S.ls k).nm] by
            rw [getD_take Li.nil (by rw [HSR.out.l.len]; exact hlt)]; simp)
          have i2 := bal (bal hb (.cells (li_ S.ls k).C 32)) (.cells #[.string (li_ S.ls k).nm] 9)
          have x2 := (hx.alloc (.cells (li_ S.ls k).C 32)).alloc (.cells #[.string (li_ S.ls k).nm] 9)
          have z2 := Blk.new wr 32 (li_ S.ls k).C
          generalize li_ S.ls k = z at *
          have n2 : (wr.alloc (.cells z.C 32)).cell? ⟨wr.heap.size, 1, none⟩ = some (.string z.nm) := z2.cell 1
          have hoa := (how.alloc (.cells z.C 32)).alloc (.cells #[.string z.nm] 9)
          have hsz := sz1 wr (.cells z.C 32) rfl
          have hco := cell_one_new (wr.alloc (.cells z.C 32)) (.string z.nm) 9
          rw [hsz] at hco
          have HCO := Lib.hid hco; clear hco hsz
          have hbs := hb.size
          go_wp2_with (first | refine wpList_at_g rfl 32 _ rfl w.heap.size _ z.C rfl _ hr Tryd.underlying32 rfl (by kernel_rfl) ?_ | refine wpList_store_new rfl 32 _ _ rfl rfl wr.heap.size z.C rfl rfl _ #[.string ByteArray.empty, .string ByteArray.empty] wr rfl rfl rfl (by kernel_rfl) (by kernel_rfl) ?_ | (at_builtin; refine wpList_append_own_spare _ rfl _ _ 40 rfl w.heap.size 9 i0 1 Tryd.underlying40 HI.out hz2 (w.heap.size + 1) (h.zn + k) (h.zn + h.ln) _ rfl hoa ⟨wr.heap.size + 1, 0, none⟩ 1 1 [.string z.nm] rfl rfl HCO.out (by simp [Value.oneCell']) (by omega) ?_; intro w1 hown1 hg1))
          have hb4 := i2.grown hg1 i2.size (fun g e => by cases e; omega)
          have x4 := x2.grown hg1 (fun e => by have := Option.some.inj e; omega)
          go_roundw
          case rel => exact ⟨k + 1, by go_num, by omega, rfl, by rw [htk.out]; exact hown1, hb4, x4⟩
          case measure => simp [intOf]; omega
        · obtain rfl : k = h.ln := by omega
          rw [show S.ls.take h.ln = S.ls by rw [← HSR.out.l.len, List.take_length]] at how
          have hnl : (nmB S).length = h.zn + h.ln := by rw [nmB_len, HSR.out.z.len, HSR.out.l.len]
          have how2 : wr.ownsRow w.heap.size 9 1 (.slice (some ⟨w.heap.size + 1, 0, none⟩) (nmB S).length (h.zn + h.ln)) (nmB S).length (stV (nmB S)) := by rw [hnl]; exact how
          have HNL := Lib.hid hnl; clear hnl
          have hlt' : ¬ (h.ln : Int) < (h.ln : Int) := by omega
          have HR := Lib.hid how2
          clear how how2
          go_wp2_with fail
          go_ret
          exact ⟨_, _, by rw [HNL.out]; rfl, HR.out, hb⟩
theorem nmB_size {w : World} {B : Nat} {h : Hd} {S : So} (hS : SoR w B h S) : ∀ s ∈ nmB S, s.size ≤ maxLen := fun s hs => by
  rcases List.mem_append.1 hs with q | q
  · obtain ⟨z, hz, rfl⟩ := List.mem_map.1 q; exact (hS.zb z hz).1
  · obtain ⟨z, hz, rfl⟩ := List.mem_map.1 q; exact (hS.lb z hz).2
theorem eqIn_fd (d : Nat) (a b a' b' : Int) (w : World) : (Op.equalIn (d + 2) 66 (.agg #[.int .i64 a, .int .i64 b]) (.agg #[.int .i64 a', .int .i64 b'])).run Tryd.prog w = .ok (a == a' && b == b') w := by
  rw [run_equalIn_agg w (d + 1) _ #[.int .i64 a, .int .i64 b] #[.int .i64 a', .int .i64 b'] (by kernel_rfl) (by kernel_rfl)]
  go_simp
  repeat' split
  all_goals simp [*]
theorem eq_fd (f g : Fd) (w : World) : (binOp .eql 66 (.agg #[.int .i64 f.p, .int .i64 f.e]) (.agg #[.int .i64 g.p, .int .i64 g.e])).run Tryd.prog w = .ok (.bool (decide (f = g))) w := by
  rw [run_eql_struct, eqIn_fd 9998]
  have : (f.p == g.p && f.e == g.e) = decide (f = g) := by
    rw [Bool.eq_iff_iff]; cases f; cases g; simp
  rw [this]; rfl
theorem once_in {p : Key → Bool} {l : List Key} {x : Key} (h : x ∈ l) : onceP p (l ++ [x]) = onceP p l := by
  rw [onceP_snoc]
  by_cases q : x ∈ onceP p l
  · rw [if_pos q]
  · rw [if_neg q, if_neg (fun e => q (mem_onceP.2 ⟨h, e⟩))]
theorem once_new {p : Key → Bool} {l : List Key} {x : Key} (h : x ∉ l) : onceP p (l ++ [x]) = if p x = true then onceP p l ++ [x] else onceP p l := by
  rw [onceP_snoc, if_neg (fun e => h (mem_onceP.1 e).1)]
noncomputable def alL (S : So) (nm : ByteArray) : List Key := if (lead (net S) (key nm)).e = 0 then onceP (fun x => decide (lead (net S) x = lead (net S) (key nm))) (znames S ++ lnames S) else []
/-- the aliases of a name -/
def AliP (S : So) (nm : ByteArray) (w : World) (e : Ending) (w' : World) : Prop :=
  ∃ (A : Option Addr) (c : Nat) (l : List ByteArray), e = .returned (.slice A l.length c) ∧ Txs w' w'.heap.size A l.length l ∧ keys l = alL S nm ∧ Below w.heap.size w w'
theorem own_apart {v : Value} {row : Option Nat} {BL : Nat} (hlt : ∀ g, v.ownBlock = some g → g < BL) (hr : ∀ g, row = some g → BL ≤ g) : v.ownBlock = none ∨ v.ownBlock ≠ row := by
  rcases hv : v.ownBlock with _ | g
  · exact .inl rfl
  · exact .inr (fun e => by have := hlt g hv; have := hr g e.symm; omega)
/-- at the head of the loop over the names -/
def AlH (w W4 W5 W6 wr : World) (B0 p b1 b2 b3 : Nat) (h : Hd) (S : So) (L : Fd) (NB : List ByteArray) (A6 : Option Addr) (c6 gE : Nat) (v i : Value) : Prop :=
  ∃ (k : Nat) (lb : List ByteArray) (m : Key → Option Value) (n' : Nat) (K' : Key → Option Fd), i = .int .i64 k ∧ k ≤ NB.length ∧
    wr.ownsRow W6.heap.size 9 1 v lb.length (stV lb) ∧ keys lb = onceP (fun x => decide (lead (net S) x = L)) ((keys NB).take k) ∧ (∀ s ∈ lb, s.size ≤ maxLen) ∧
    Smap wr Tryd.prog 9 W4.heap.size k m ∧ (∀ x, (m x).isSome = true ↔ x ∈ (keys NB).take k) ∧ Fin wr B0 p b1 b2 b3 h S n' K' ∧ n' ≤ 82 * (k + 1) ∧ Right (net S) K' ∧
    wr.ownsRow W5.heap.size 9 1 (.slice A6 NB.length c6) NB.length (stV NB) ∧ Blk wr gE 66 #[.int .i64 L.p, .int .i64 L.e] ∧ Below w.heap.size w wr ∧ W6.heap.size ≤ wr.heap.size
theorem keys_take (NB : List ByteArray) (k : Nat) (h : k < NB.length) : (keys NB).take (k + 1) = (keys NB).take k ++ [key (NB.getD k ByteArray.empty)] := by
  have hl : k < (keys NB).length := by unfold keys; rw [List.length_map]; exact h
  rw [List.take_succ_eq_append_getElem hl]; congr 2
  unfold keys
  rw [List.getElem_map, List.getD_eq_getElem?_getD, List.getElem?_eq_getElem h]; rfl
theorem Txs.own {w : World} {base n c k : Nat} {A : Option Addr} {l : List ByteArray} (h : w.ownsRow base 9 1 (.slice A n c) n (stV l)) (hl : l.length = n) (hk : k < n) : ∃ ad, A = some ad ∧ w.cell? (ad.add k) = some (.string (l.getD k ByteArray.empty)) := by
  obtain ⟨ad, u, e, hb, hu, hc⟩ := (Reads.of_own h).at_ hk
  rw [List.getElem?_map, getD_at ByteArray.empty (by rw [hl]; exact hk)] at hu
  exact ⟨ad, e, by rw [hc, ← hu]; rfl⟩
set_option maxRecDepth 100000 in
set_option maxHeartbeats 12800000 in
theorem aliases_any (h : Hd) (S : So) (nm : ByteArray) (w : World) (hS : SoR w w.heap.size h S) (hz : nm.size ≤ maxLen) (hzn : h.zn ≤ 40) (hln : h.ln ≤ 40) :
    Calls Tryd.prog 14 #[h.V, .string nm] w (AliP S nm w) := by
  have i1 := bal (Below.refl _ w) (.cells h.C 26)
  have hx := Blk.new w 26 h.C
  have hof := of_any h S (w.alloc (.cells h.C 26)) ((hS.below i1).more i1.size) (by omega) (by omega)
  have HSR := Lib.hid hS
  obtain ⟨i0, hi0, hz1, hz2, hz3⟩ := info_parts info_str
  have HI := Lib.hid hi0; clear hi0
  have hmm := @run_makeMap Tryd.prog
  clear hS
  go_enter Tryd.func14, Tryd.ntmps14
  go_wp2_with (refine wpList_row_g rfl 26 _ rfl _ rfl _ _ _ _ hx Tryd.underlying26 rfl (by kernel_rfl) ?_)
  obtain ⟨W0, hW0⟩ : ∃ W0 : World, W0 = w.alloc (.cells h.C 26) := ⟨_, rfl⟩
  rw [← hW0] at hof i1 hx ⊢
  clear hW0
  refine hof.mono ?_; rintro e w2 ⟨p, b1, b2, b3, rfl, hF, hb2⟩
  have hb3 := i1.trans (hb2.mono i1.size)
  have x2 := hx.below hb2 hx.lt
  have hi1s := i1.size
  have hxl := hx.lt
  clear i1 hx hof
  go_wp2_with fail
  refine (find_any nm W0.heap.size p b1 b2 b3 0 h S (fun _ => none) w2 hF ((HSR.out.below hb3).more hi1s) hb2.size (fun _ _ h => by cases h) hz (by omega) (by omega)).mono ?_; rintro e w3 ⟨cb, v, K1, n1, rfl, -, hF3, hn1, hR1, -, -, hg3⟩
  have hb4 := hb3.trans (below_g hg3 hb3.size (Nat.le_trans hi1s hF3.ge.2.2.2))
  have hne3 : w.heap.size ≠ b3 := by have := hF.ge; omega
  have x3 := x2.grown hg3 (fun e => hne3 (Option.some.inj e))
  obtain ⟨L, hL⟩ : ∃ L, L = lead (net S) (key nm) := ⟨_, rfl⟩
  rw [← hL]
  have HL := Lib.hid hL; clear hL
  have i4 := bal hb4 (.cells #[.int .i64 L.p, .int .i64 L.e] 66)
  have x4 := x3.alloc (.cells #[.int .i64 L.p, .int .i64 L.e] 66)
  have y4 := Blk.new w3 66 #[.int .i64 L.p, .int .i64 L.e]
  have f4 := hF3.alloc (.cells #[.int .i64 L.p, .int .i64 L.e] 66)
  have hsz4 := Lib.hid (sz1 w3 (.cells #[.int .i64 L.p, .int .i64 L.e] 66) rfl)
  have hF3l := hF3.lt
  clear hF hF3 hg3 hb2 hb3 hb4 x2 x3
  have c4 : (w3.alloc (.cells #[.int .i64 L.p, .int .i64 L.e] 66)).cell? ⟨w3.heap.size, 1, none⟩ = some (.int .i64 L.e) := y4.cell 1
  by_cases h0 : L.e = 0
  rotate_left
  · have h1 : ((L.e : Int) != 0) = true := by simp [h0]
    have HR := Lib.hid (show keys [] = alL S nm by unfold alL; rw [← HL.out, if_neg h0]; rfl)
    clear h0
    go_wp2_with (refine wpList_store_new rfl 66 _ _ rfl rfl w3.heap.size #[.int .i64 L.p, .int .i64 L.e] rfl rfl _ #[.int .i64 0, .int .i64 0] w3 rfl rfl rfl (by kernel_rfl) (by kernel_rfl) ?_)
    go_ret
    exact ⟨none, 0, [], rfl, Txs.nil, HR.out, i4⟩
  have h1 : ((L.e : Int) != 0) = false := by simp [h0]
  have H0 := Lib.hid h0; clear h0
  go_upto_region 6 with (refine wpList_store_new rfl 66 _ _ rfl rfl w3.heap.size #[.int .i64 L.p, .int .i64 L.e] rfl rfl _ #[.int .i64 0, .int .i64 0] w3 rfl rfl rfl (by kernel_rfl) (by kernel_rfl) ?_)
  generalize w3.alloc (.cells #[.int .i64 L.p, .int .i64 L.e] 66) = W4 at *
  obtain ⟨gE, hgE⟩ : ∃ gE, w3.heap.size = gE := ⟨_, rfl⟩
  rw [hgE] at y4 ⊢
  have hgE2 : gE < W4.heap.size := y4.lt
  clear hgE hsz4 c4 h1
  have f5 := f4.alloc (.map #[] 0)
  have x5 := x4.alloc (.map #[] 0)
  have y5 := y4.alloc (.map #[] 0)
  have i5 := bal i4 (.map #[] 0)
  have t5 := Smap.made W4 Tryd.prog 9
  have hi4s := i4.size
  have hfl : p < W4.heap.size ∧ b1 < W4.heap.size ∧ b2 < W4.heap.size ∧ b3 < W4.heap.size := f4.lt
  clear f4 x4 y4 i4
  have hna := names_any h S (W4.alloc (.map #[] 0)) ((HSR.out.below i5).more i5.size) (by omega) (by omega)
  go_wp2_with (refine wpList_row_g rfl 26 _ rfl _ rfl _ _ _ _ x5 Tryd.underlying26 rfl (by kernel_rfl) ?_)
  have hsz5 := Lib.hid (sz1 W4 (.map #[] 0) rfl)
  obtain ⟨W5, hW5⟩ : ∃ W5 : World, W5 = W4.alloc (.map #[] 0) := ⟨_, rfl⟩
  rw [← hW5] at hna f5 x5 y5 i5 t5 hsz5 ⊢
  clear hW5
  refine hna.mono ?_; rintro e W6 ⟨A6, c6, rfl, hnm6, hb6⟩
  have f6 := f5.below hb6; have y6 := y5.below hb6 y5.lt; have i6 := i5.trans (hb6.mono i5.size); have t6 := t5.below hb6 t5.lt
  have hW56 : W5.heap.size ≤ W6.heap.size := hb6.size
  have hT : W4.heap.size < W6.heap.size := by have := hsz5.out; omega
  clear f5 x5 y5 i5 t5 hna hb6
  have hS6 := HSR.out.below i6
  have hNl := nmB_len S
  have HNL := Lib.hid hNl; clear hNl
  have hN80 : (nmB S).length ≤ 80 := by have := HNL.out; have := HSR.out.z.len; have := HSR.out.l.len; omega
  have HNS := Lib.hid (nmB_size HSR.out)
  have HNK := Lib.hid (nmB_keys S)
  obtain ⟨NB, hNB⟩ : ∃ NB, NB = nmB S := ⟨_, rfl⟩
  rw [← hNB] at hnm6 hN80 HNS HNK ⊢
  clear HNL hNB
  have HNMLT := Lib.hid (fun g (e : Value.ownBlock (.slice A6 NB.length c6) = some g) => (own_ge hnm6 g e).2)
  have i6s := i6.size
  have ho6 : W6.ownsRow W6.heap.size 9 1 (.slice none 0 0) 0 [] := World.ownsRow_nil _ _ _ _
  go_wp2_with fail
  go_loopw [8, 31] (fun v i wr => AlH w W4 W5 W6 wr W0.heap.size p b1 b2 b3 h S L NB A6 c6 gE v i) (fun _ i _ => NB.length - (intOf i).toNat)
  case atStart => exact ⟨0, [], _, n1, K1, rfl, Nat.zero_le _, ho6, rfl, fun s hs => absurd hs List.not_mem_nil, t6, fun x => by simp, f6, by omega, hR1, hnm6, y6, i6, Nat.le_refl _⟩
  case round =>
    clear ho6 t6 f6 hR1 hnm6 y6 i6
    obtain ⟨k, lb, m, n', Kn, rfl, hk, how, hkl, hls, htm, hmi, hfi, hn', hRK, hnm, hy, hb, hw6⟩ := hrel
    have hS2 := HSR.out.below hb
    have hNBW : W5.heap.size ≤ W6.heap.size := hW56
    by_cases hlt : k < NB.length
    · have hlt' : (k : Int) < (NB.length : Int) := by omega
      obtain ⟨ad, rfl, r1⟩ := Txs.own hnm rfl hlt
      have HKT := Lib.hid (keys_take NB k hlt)
      have hbz := HNS.out _ (getD_mem ByteArray.empty hlt)
      have HKL := Lib.hid hkl; have HMI := Lib.hid hmi; have HLS := Lib.hid hls
      clear hkl hmi hls
      generalize NB.getD k ByteArray.empty = b at *
      have HOW := Lib.hid how; have HNM := Lib.hid hnm
      cases hmb : m (key b) with
      | some u =>
        have hin : key b ∈ (keys NB).take k := (HMI.out (key b)).1 (by rw [hmb]; rfl)
        have HR := Lib.hid (show AlH w W4 W5 W6 wr W0.heap.size p b1 b2 b3 h S L NB (some ad) c6 gE _ (.int .i64 ((k + 1 : Nat) : Int)) from ⟨k + 1, lb, m, n', Kn, rfl, hlt, HOW.out, by rw [HKT.out, once_in hin]; exact HKL.out, HLS.out, htm.mono (Nat.le_succ _), fun x => by
          rw [HKT.out, HMI.out x, List.mem_append]
          exact ⟨.inl, fun q => q.elim id (fun e => by rw [List.mem_singleton.1 e]; exact hin)⟩, hfi, by omega, hRK, HNM.out, hy, hb, hw6⟩)
        have HMB := hmb
        clear how hnm hfi hy hb hin hmb
        go_wp2_with (at_lookup; refine wpList_look_yes _ rfl _ _ 79 rfl 9 3 Tryd.underlying9 Tryd.underlying79 _ (zero_int _) W4.heap.size k m rfl htm b rfl hbz u HMB ?_)
        go_roundw
        case rel => first | exact HR.out | (rw [show ((k : Int) + 1) = ((k + 1 : Nat) : Int) by omega]; exact HR.out)
        case measure => simp [intOf]; omega
      | none =>
        have hnin : key b ∉ (keys NB).take k := fun q => by have := (HMI.out (key b)).2 q; rw [hmb] at this; cases this
        have HNI := Lib.hid hnin
        have HMB := hmb
        clear hnin hmb
        go_upto_region 13 with (first | (at_lookup; refine wpList_look_no _ rfl _ _ 79 rfl 9 3 Tryd.underlying9 Tryd.underlying79 _ (zero_int _) W4.heap.size k m rfl htm b rfl hbz HMB ?_) | (at_mapUpdate; refine wpList_mput _ rfl _ _ _ 79 rfl 9 3 Tryd.underlying9 Tryd.underlying79 W4.heap.size k _ rfl htm (by unfold maxLen; omega) b rfl hbz _ rfl ?_; intro w7 htm7 hg7))
        have f7 := hfi.grown hg7 (fun g e => by have := Option.some.inj e; omega)
        have ow7 := HOW.out.kept hg7 (.inr (fun e => own_map_ne HOW.out htm e.symm))
        have nm7 := HNM.out.kept hg7 (.inr (fun e => own_map_ne HNM.out htm e.symm))
        have y7 := hy.grown hg7 (fun e => htm.cells_ne hy (Option.some.inj e).symm)
        have b7 := hb.grown hg7 hb.size (fun g e => by have := Option.some.inj e; omega)
        have s7 : W6.heap.size ≤ w7.heap.size := Nat.le_trans hw6 hg7.size
        clear hfi how hnm hy hb htm hg7 r1 hS2 hw6
        go_wp2_with fail
        refine (find_any b W0.heap.size p b1 b2 b3 n' h S Kn w7 f7 ((HSR.out.below b7).more hi1s) (Nat.le_trans (by have := f7.ge; omega) s7) hRK hbz (by omega) (by omega)).mono ?_; rintro e w8 ⟨cb8, v8, K8, n8, rfl, -, f8, hn8, hR8, -, -, hg8⟩
        have hbw3 : w.heap.size ≤ b3 := by have := f7.ge; omega
        have ow8 := ow7.kept hg8 (.inr (fun e => own_map_ne ow7 f7.k e.symm))
        have nm8 := nm7.kept hg8 (.inr (fun e => own_map_ne nm7 f7.k e.symm))
        have y8 := y7.grown hg8 (fun e => f7.k.cells_ne y7 (Option.some.inj e).symm)
        have t8 := htm7.kept hg8 (fun e => by have := Option.some.inj e; omega)
        have b8 := b7.grown hg8 b7.size (fun g e => by have := Option.some.inj e; omega)
        have s8 : W6.heap.size ≤ w8.heap.size := Nat.le_trans s7 hg8.size
        clear ow7 nm7 y7 htm7 b7 s7 hg8 f7
        obtain ⟨M, hM⟩ : ∃ M, M = lead (net S) (key b) := ⟨_, rfl⟩
        rw [← hM]
        have HM := Lib.hid hM; clear hM
        have ow9 := ow8.alloc (.cells #[.int .i64 M.p, .int .i64 M.e] 66)
        have nm9 := nm8.alloc (.cells #[.int .i64 M.p, .int .i64 M.e] 66)
        have y9 := y8.alloc (.cells #[.int .i64 M.p, .int .i64 M.e] 66)
        have t9 := t8.alloc (.cells #[.int .i64 M.p, .int .i64 M.e] 66)
        have b9 := bal b8 (.cells #[.int .i64 M.p, .int .i64 M.e] 66)
        have f9 := f8.alloc (.cells #[.int .i64 M.p, .int .i64 M.e] 66)
        have z9 := Blk.new w8 66 #[.int .i64 M.p, .int .i64 M.e]
        have s9 : W6.heap.size ≤ (w8.alloc (.cells #[.int .i64 M.p, .int .i64 M.e] 66)).heap.size := by rw [sz1 _ _ rfl]; omega
        clear ow8 nm8 y8 t8 b8 f8 s8
        go_upto_region 14 with (refine wpList_store_new rfl 66 _ _ rfl rfl w8.heap.size #[.int .i64 M.p, .int .i64 M.e] rfl rfl _ #[.int .i64 0, .int .i64 0] w8 rfl rfl rfl (by kernel_rfl) (by kernel_rfl) ?_)
        generalize w8.alloc (.cells #[.int .i64 M.p, .int .i64 M.e] 66) = W9 at *
        have hput : ∀ x, ((mput m (key b) (.int .i64 (k : Nat))) x).isSome = true ↔ x ∈ (keys NB).take (k + 1) := fun x => by
          rw [HKT.out, List.mem_append, List.mem_singleton, ← HMI.out x]
          unfold mput
          by_cases q : x = key b
          · rw [if_pos q]; simp [q]
          · rw [if_neg q]; simp [q]
        have HPUT := Lib.hid hput; clear hput
        by_cases hq : M = L
        · have heq : ∀ w, (binOp .eql 66 (.agg #[.int .i64 M.p, .int .i64 M.e]) (.agg #[.int .i64 L.p, .int .i64 L.e])).run Tryd.prog w = .ok (.bool true) w := fun w => by rw [eq_fd, decide_eq_true hq]
          have HQ := Lib.hid hq; clear hq
          have ow10 := ow9.alloc (.cells #[.string b] 9)
          have nm10 := nm9.alloc (.cells #[.string b] 9)
          have y10 := y9.alloc (.cells #[.string b] 9)
          have t10 := t9.alloc (.cells #[.string b] 9)
          have b10 := bal b9 (.cells #[.string b] 9)
          have f10 := f9.alloc (.cells #[.string b] 9)
          have hll : lb.length ≤ 80 := by
            have e1 : (keys lb).length = lb.length := by unfold keys; rw [List.length_map]
            have e2 := onceP_len (fun x => decide (lead (net S) x = L)) ((keys NB).take k)
            rw [← HKL.out, e1] at e2
            have e3 : ((keys NB).take k).length ≤ k := List.length_take_le _ _
            omega
          go_wp2_with (first | refine wpList_row_g rfl 66 _ rfl _ rfl _ _ _ _ z9 Tryd.underlying66 rfl (by kernel_rfl) ?_ | refine wpList_row_g rfl 66 _ rfl _ rfl _ _ _ _ y9 Tryd.underlying66 rfl (by kernel_rfl) ?_ | (at_builtin; refine wpList_append_own _ rfl _ _ 40 rfl W6.heap.size 9 i0 (.string ByteArray.empty) 1 16 Tryd.underlying40 HI.out hz1 hz2 hz3 rfl (by decide) _ _ _ rfl ow10 ⟨W9.heap.size, 0, none⟩ 1 1 [.string b] rfl rfl (cell_one_new _ _ _) (by simp [Value.oneCell']) (by unfold maxLen; omega) (by omega) (by rw [sz1 _ _ rfl]; omega) ?_; intro v11 w11 hown11 hg11 _))
          have hrow := fun g (e : _ = some g) => own_ge ow10 g e
          have HR := Lib.hid (show AlH w W4 W5 W6 w11 W0.heap.size p b1 b2 b3 h S L NB (some ad) c6 gE v11 (.int .i64 ((k + 1 : Nat) : Int)) from ⟨k + 1, lb ++ [b], _, n8, K8, rfl, hlt, by rw [List.length_append, List.length_singleton, st_snoc]; exact hown11, by
            rw [HKT.out, once_new HNI.out, if_pos (by rw [← HM.out]; simpa using HQ.out), ← HKL.out, keys_snoc], fun s hs => (by
            rcases List.mem_append.1 hs with q | q
            · exact HLS.out s q
            · rw [List.mem_singleton.1 q]; exact hbz), t10.kept hg11 (fun e => by have := (hrow _ e.symm).1; omega), HPUT.out, f10.grown hg11 (fun g e => by have := (hrow g e).1; omega), by omega, hR8, nm10.kept hg11 (own_apart HNMLT.out (fun g e => (hrow g e).1)), y10.grown hg11 (fun e => by have := (hrow _ e.symm).1; omega), b10.grown hg11 b10.size (fun g e => Nat.le_trans i6s (hrow g e).1), Nat.le_trans (by rw [sz1 _ _ rfl]; omega) hg11.size⟩)
          go_roundw
          case rel => exact HR.out
          case measure => simp [intOf]; omega
        · have heq : ∀ w, (binOp .eql 66 (.agg #[.int .i64 M.p, .int .i64 M.e]) (.agg #[.int .i64 L.p, .int .i64 L.e])).run Tryd.prog w = .ok (.bool false) w := fun w => by rw [eq_fd, decide_eq_false hq]
          have HR := Lib.hid (show AlH w W4 W5 W6 W9 W0.heap.size p b1 b2 b3 h S L NB (some ad) c6 gE _ (.int .i64 ((k + 1 : Nat) : Int)) from ⟨k + 1, lb, _, n8, K8, rfl, hlt, ow9, by
            rw [HKT.out, once_new HNI.out, if_neg (by rw [← HM.out]; simpa using hq)]; exact HKL.out, HLS.out, t9, HPUT.out, f9, by omega, hR8, nm9, y9, b9, s9⟩)
          clear hq
          go_wp2_with (first | refine wpList_row_g rfl 66 _ rfl _ rfl _ _ _ _ z9 Tryd.underlying66 rfl (by kernel_rfl) ?_ | refine wpList_row_g rfl 66 _ rfl _ rfl _ _ _ _ y9 Tryd.underlying66 rfl (by kernel_rfl) ?_)
          go_roundw
          case rel => exact HR.out
          case measure => simp [intOf]; omega
    · obtain rfl : k = NB.length := by omega
      have hlt' : ¬ (NB.length : Int) < (NB.length : Int) := by omega
      obtain ⟨A9, c9, rfl⟩ := own_slice how
      have hkl2 : keys lb = alL S nm := by
        unfold alL
        rw [← HL.out, if_pos H0.out, hkl, ← HNK.out]
        congr 1
        rw [List.take_of_length_le (by unfold keys; rw [List.length_map]; exact Nat.le_refl _)]
      have HR := Lib.hid (show AliP S nm w (.returned (.slice A9 lb.length c9)) wr from ⟨A9, c9, lb, rfl, ⟨rfl, Reads.of_own how, hls⟩, hkl2, hb⟩)
      clear how hnm hkl hkl2 hls htm hmi hfi hRK hy hb
      go_wp2_with fail
      go_ret
      exact HR.out
end Go.Proofs.YtnoaeejdcdeanaaDoor.Lk
