/-
  LinkOne, WALKED.
-/
import Derived.Test.YtidblajnlddalaaLk6
import Derived.BigQuiet
namespace Go.Proofs.Ytidblajnlddalaa.Lk
open Go.ChangeShapes Go.WideShapes Go.ChangeAt Go.RowKit Go.Shelf
open Go.Proofs.Ytidblajnlddalaa
open Go.Proofs.Ytidblajnlddalaa.Wd
open Go.Proofs.Ytidblajnlddalaa.Sl
open Go.Proofs.Ytidblajnlddalaa.Sr
set_option linter.unusedVariables false
set_option linter.unusedSimpArgs false
def OneP (w : World) (e : Ending) (w' : World) : Prop := e = .returned (.bool true) ∧ Below w.heap.size w w'
theorem info_lk : (Try.prog.info? 39).map (fun i => (i.zero, i.size, i.bytes)) = some (some (.agg #[.string ByteArray.empty, .string ByteArray.empty]), 2, 32) := by kernel_rfl
theorem key_head {name : ByteArray} {cb : List ByteArray} {t : List Key} (h : keys cb = key name :: t) : ∃ r, cb = name :: r := by
  cases cb with
  | nil => cases h
  | cons x r => unfold keys at h; rw [List.map_cons, List.cons.injEq] at h; exact ⟨r, by rw [key_inj h.1]⟩
theorem key_last {cb : List ByteArray} {t : List Key} {b : Key} (h : keys cb = t ++ [b]) : 0 < cb.length ∧ key (cb.getD (cb.length - 1) ByteArray.empty) = b := by
  have hl : cb.length = t.length + 1 := by
    have := congrArg List.length h
    unfold keys at this
    rw [List.length_map, List.length_append, List.length_singleton] at this; exact this
  refine ⟨by omega, ?_⟩
  have h2 : (keys cb)[t.length]? = some b := by rw [h, List.getElem?_append_right (Nat.le_refl _)]; simp
  unfold keys at h2
  rw [List.getElem?_map] at h2
  rw [hl, Nat.add_sub_cancel, List.getD_eq_getElem?_getD]
  cases hq : cb[t.length]? with
  | none => rw [hq] at h2; cases h2
  | some x => rw [hq] at h2; exact Option.some.inj h2
theorem key_mem {cb : List ByteArray} {x : ByteArray} : key x ∈ keys cb ↔ x ∈ cb := by
  unfold keys
  rw [List.mem_map]
  exact ⟨fun ⟨y, hy, e⟩ => key_inj e ▸ hy, fun h => ⟨x, h, rfl⟩⟩
theorem alL_eq {S : So} {a b : ByteArray} (h : lead (net S) (key a) = lead (net S) (key b)) : alL S a = alL S b := by unfold alL; rw [h]
theorem mem_alL {S : So} {a b : ByteArray} (h : key b ∈ alL S a) : lead (net S) (key b) = lead (net S) (key a) := by
  unfold alL at h
  split at h
  · exact of_decide_eq_true (mem_onceP.1 h).2
  · cases h
theorem self_alL {S : So} {a : ByteArray} (h : (lead (net S) (key a)).e = 0) : key a ∈ alL S a := by
  unfold alL
  rw [if_pos h]
  have := lead_named (N := net S) h
  rw [net_names] at this
  exact mem_onceP.2 ⟨this, by simp⟩
theorem li_one (l : Li) : l.C.all (·.oneCell') = true := by simp [Value.oneCell']
theorem own_lit0 (w : World) {base : Nat} (hb : base ≤ w.heap.size) : (w.alloc (.cells (#[] : Array Value) 39)).ownsRow base 39 2 (.slice (some ⟨w.heap.size, 0, none⟩) 0 0) 0 [] :=
  World.ownsRow_lit (base := base) (e := 39) (size := 2) w (#[] : Array Value) 0 hb (by unfold maxLen; omega) rfl
theorem g_cell (w : World) (p : Addr) (v : Value) : w.grownBy (w.setCell p v) (some p.block) :=
  ⟨rfl, rfl, rfl, by simp [World.setCell], fun i _ hne => Below.heap_setCell w p v i (fun e => hne (by rw [e]))⟩
/-- a source with a link more -/
abbrev moreH (h : Hd) (A : Option Addr) (n c : Nat) : Hd := ⟨h.rA, h.rn, h.rc, h.zA, h.zn, h.zc, A, n, c⟩
abbrev moreS (S : So) (l : List Li) : So := ⟨S.rs, S.zs, S.ls ++ l⟩
theorem more_net (S : So) (t n : ByteArray) : net (moreS S [⟨t, n⟩]) = (net S).more [(key t, key n)] := by
  show Net.mk _ _ = Net.mk _ _
  congr 1
  show (S.ls ++ [Li.mk t n]).map _ = _
  rw [List.map_append]; rfl
theorem more_ok {w W : World} {B : Nat} {h : Hd} {S : So} {A : Option Addr} {n c : Nat} {l : List Li} (hS : SoR w B h S) (hl : Sls Li.C 2 W B A n (S.ls ++ l)) (hb : Below B w W) (hp : ∀ a ∈ l, LiOk a) (hm : n ≤ maxLen) (hc : n ≤ c) : SoR W B (moreH h A n c) (moreS S l) :=
  have k := hS.below hb
  ⟨k.r, k.z, hl, k.rb, k.zb, fun a ha => (List.mem_append.1 ha).elim (k.lb a) (hp a), k.rm, k.zm, ⟨hm, hc⟩⟩
theorem own_cap {w : World} {base e size n c : Nat} {A : Option Addr} {xs : List Value} (h : w.ownsRow base e size (.slice A n c) n xs) : n ≤ c := by
  rcases h.2 with ⟨e, rfl⟩ | ⟨g', cap, cur, e, _, _, hc, _⟩
  · exact Nat.zero_le _
  · injection e with _ _ e; omega
def hasT (name : ByteArray) (l : List ByteArray) : Bool := l.any fun x => x.toList == name.toList
theorem hasT_of {name : ByteArray} {l : List ByteArray} (h : name ∈ l) : hasT name l = true := List.any_eq_true.2 ⟨name, h, by simp⟩
set_option maxRecDepth 100000 in
set_option maxHeartbeats 25600000 in
theorem one_any (h : Hd) (S : So) (name fresh : ByteArray) (w : World) (hS : SoR w w.heap.size h S) (hz : name.size ≤ maxLen) (hf : fresh.size ≤ maxLen) :
    Calls Try.prog 3 #[h.V, .string name, .string fresh] w (OneP w) := by
  unfold maxLen at hz hf
  have hb := bal (Below.refl _ w) (.cells h.C 26)
  have hx := Blk.new w 26 h.C
  have HSR := Lib.hid hS
  clear hS
  go_enter Try.func3, Try.ntmps3
  go_wp2_with fail
  generalize w.alloc (.cells h.C 26) = W0 at *
  refine (lives13_any _).mono ?_; rintro e w1 ⟨rfl, hq⟩
  replace hx := hx.below hq hx.lt; replace hb := hb.trans (hq.mono hb.size)
  clear hq W0
  go_wp2_with (refine wpList_row_g rfl 26 _ rfl _ rfl _ _ _ _ hx Try.underlying26 rfl (by kernel_rfl) ?_)
  refine (small_any h S w1 ((HSR.out.below hb).more hb.size)).mono ?_; rintro e w2 ⟨hsm, hq⟩
  replace hx := hx.below hq hx.lt; replace hb := hb.trans (hq.mono hb.size)
  clear hq w1
  rcases hsm with rfl | ⟨rfl, hss⟩
  · go_wp2_with fail
    go_ret
    exact ⟨rfl, hb⟩
  by_cases g1 : name.size ≤ 1000
  rotate_left
  · have g1' : (1000 : Int) < (name.size : Int) := by omega
    go_wp2_with fail
    go_ret
    exact ⟨rfl, hb⟩
  have g1' : ¬ (1000 : Int) < (name.size : Int) := by omega
  by_cases g2 : fresh.size ≤ 1000
  rotate_left
  · have g2' : (1000 : Int) < (fresh.size : Int) := by omega
    go_wp2_with fail
    go_ret
    exact ⟨rfl, hb⟩
  have g2' : ¬ (1000 : Int) < (fresh.size : Int) := by omega
  have hzn := hss.zn; have hln := hss.ln
  have hz' : name.size ≤ maxLen := by unfold maxLen; omega
  have hf' : fresh.size ≤ maxLen := by unfold maxLen; omega
  have hZO := fun (W : World) (s : ByteArray) (b : Below w.heap.size w W) (hs : s.size ≤ maxLen) => zone_any h S s W ((HSR.out.below b).more b.size) hs (by omega) (by omega)
  have hCH := fun (W : World) (s : ByteArray) (b : Below w.heap.size w W) (hs : s.size ≤ maxLen) => chain_any h S s W ((HSR.out.below b).more b.size) hs (by omega) (by omega)
  have hAL := fun (W : World) (s : ByteArray) (b : Below w.heap.size w W) (hs : s.size ≤ maxLen) => aliases_any h S s W ((HSR.out.below b).more b.size) hs (by omega) (by omega)
  have HZO := Lib.hid hZO; have HCH := Lib.hid hCH; have HAL := Lib.hid hAL
  clear hZO hCH hAL
  go_wp2_with (refine wpList_row_g rfl 26 _ rfl _ rfl _ _ _ _ hx Try.underlying26 rfl (by kernel_rfl) ?_)
  refine (HZO.out _ name hb hz').mono ?_; rintro e w3 ⟨rfl, hq⟩
  replace hx := hx.below hq hx.lt; replace hb := hb.trans (hq.mono hb.size)
  clear hq w2
  obtain ⟨⟨Lp, Le⟩, hL⟩ : ∃ L, L = lead (net S) (key name) := ⟨_, rfl⟩
  rw [← hL]
  have HL := Lib.hid hL; clear hL
  go_wp2_with (refine wpList_row_g rfl 26 _ rfl _ rfl _ _ _ _ hx Try.underlying26 rfl (by kernel_rfl) ?_)
  refine (HCH.out _ name hb hz').mono ?_; rintro e w4 ⟨A1, c1, cb, rfl, ⟨ht, hch⟩, hq⟩
  replace hx := hx.below hq hx.lt; replace hb := hb.trans (hq.mono hb.size)
  clear hq w3
  obtain ⟨t1, ht1⟩ := hch.hd id
  obtain ⟨r1, hr1⟩ := key_head ht1
  have hlen0 : 0 < cb.length := by rw [hr1]; exact Nat.succ_pos _
  have hlenm : cb.length ≤ 21 := by
    have := hch.len
    have e : (net S).ls.length = S.ls.length := by unfold net; rw [List.length_map]
    have e2 := HSR.out.l.len
    have e3 : (keys cb).length = cb.length := by unfold keys; rw [List.length_map]
    omega
  obtain ⟨ad, rfl, hadb, hc0⟩ := ht.at_ hlen0
  have hc0n : cb.getD 0 ByteArray.empty = name := by rw [hr1]; rfl
  rw [hc0n] at hc0
  have hc0' : w4.cell? ad = some (.string name) := by rwa [Sl.add_0] at hc0
  have HCHN := Lib.hid hch; have HHD := Lib.hid hr1
  clear hch ht1 hr1 hc0n
  have l1 : ((cb.length : Int) == 0) = false := beq_eq_false_iff_ne.2 (by omega)
  have l2 : (0 : Int) < (cb.length : Int) := by omega
  have l3 : (name.toList != name.toList) = false := by simp
  go_wp2_with fail
  obtain ⟨NB, hNB⟩ : ∃ NB, NB = w4.heap.size := ⟨_, rfl⟩
  rw [← hNB] at ht
  have hNBl : NB ≤ w4.heap.size := by omega
  clear hNB hc0 hc0'
  go_loopw [61] (fun i wr => ∃ k : Nat, i = .int .i64 k ∧ k ≤ cb.length ∧ Below w.heap.size w wr ∧ Blk wr w.heap.size 26 h.C ∧ Txs wr NB (some ad) cb.length cb ∧ NB ≤ wr.heap.size) (fun i _ => cb.length - (intOf i).toNat)
  case atStart => exact ⟨0, rfl, Nat.zero_le _, hb, hx, ht, hNBl⟩
  case round =>
    clear hb hx ht hNBl
    obtain ⟨k, rfl, hk, hb, hx, ht, hNBl⟩ := hrel
    by_cases hlt : k < cb.length
    · have hlt' : (k : Int) < (cb.length : Int) := by omega
      obtain ⟨ad2, e0, -, r1⟩ := ht.at_ hlt
      obtain rfl := Option.some.inj e0
      have hmem : cb.getD k ByteArray.empty ∈ cb := getD_mem ByteArray.empty hlt
      have hnz := ht.p _ hmem
      have hzc := HZO.out wr (cb.getD k ByteArray.empty) hb hnz
      rw [HCHN.out.all _ (key_mem.2 hmem), ← HL.out] at hzc
      clear e0 hmem
      generalize cb.getD k ByteArray.empty = b at *
      have m1 : (Le != Le) = false := by simp
      have m2 : (Lp != Lp) = false := by simp
      go_wp2_with (refine wpList_row_g rfl 26 _ rfl _ rfl _ _ _ _ hx Try.underlying26 rfl (by kernel_rfl) ?_)
      refine hzc.mono ?_; rintro e w5 ⟨rfl, hq⟩
      replace hx := hx.below hq hx.lt; replace hb := hb.trans (hq.mono hb.size)
      replace ht := ht.below (hq.mono hNBl)
      replace hNBl := Nat.le_trans hNBl hq.size
      clear hq
      go_wp2_with fail
      go_roundw
      case rel => exact ⟨k + 1, by go_num, by omega, hb, hx, ht, hNBl⟩
      case measure => simp [intOf]; omega
    · obtain rfl : k = cb.length := by omega
      have hlt' : ¬ (cb.length : Int) < (cb.length : Int) := by omega
      obtain ⟨W5, rfl⟩ : ∃ W5 : World, W5 = wr := ⟨_, rfl⟩
      go_wp2_with (refine wpList_row_g rfl 26 _ rfl _ rfl _ _ _ _ hx Try.underlying26 rfl (by kernel_rfl) ?_)
      refine (HAL.out _ name hb hz').mono ?_; rintro e w6 ⟨A2, c2, al, rfl, ha, hal, hq⟩
      replace hx := hx.below hq hx.lt; replace hb := hb.trans (hq.mono hb.size)
      replace ht := ht.below (hq.mono hNBl)
      replace hNBl := Nat.le_trans hNBl hq.size
      clear hq hlt hlt' hk
      have HALE := Lib.hid hal
      by_cases h0 : Le = 0
      rotate_left
      · have n1 : (Le != 0) = true := by simp [h0]
        have hnil : al = [] := by
          have : keys al = [] := by rw [hal]; unfold alL; rw [← HL.out, if_neg h0]
          cases al with
          | nil => rfl
          | cons x r => cases this
        have hp0 : Lp = 0 := by
          rcases lead_why (N := net S) (key name) with q | q | q
          · rw [← HL.out] at q; exact absurd q h0
          · rw [← HL.out] at q; injection q
          · rw [← HL.out] at q; injection q
        subst hnil hp0
        clear hal h0
        go_wp2_with fail
        go_ret
        exact ⟨rfl, hb⟩
      have n1 : (Le != 0) = false := by simp [h0]
      subst h0
      clear hal
      obtain ⟨z, hzp, hzl⟩ := lead_place (N := net S) HL.out.symm
      subst hzp
      obtain ⟨t2, b2, z2, hk2, hzat, hl2⟩ := HCHN.out.last (by rw [← HL.out]) id
      obtain rfl : z2 = z := by rw [← HL.out] at hl2; injection hl2 with q; omega
      have hzlt : z2 < h.zn := by have := fst_lt hzat; unfold net znames at this; rw [List.length_map, HSR.out.z.len] at this; exact this
      obtain ⟨hcp, hcb⟩ := key_last hk2
      have hnz2 : (zn_ S.zs z2).nm = cb.getD (cb.length - 1) ByteArray.empty := by
        have := (fst_some hzat).1
        unfold net znames at this
        rw [List.getElem?_map, getD_at Zn.nil (by rw [HSR.out.z.len]; exact hzlt)] at this
        exact key_inj ((Option.some.inj this).trans hcb.symm)
      obtain ⟨ad2, e0, -, r1⟩ := ht.at_ (show cb.length - 1 < cb.length by omega)
      obtain rfl := Option.some.inj e0
      have hS6 := HSR.out.below hb
      obtain ⟨az, ez, hrz⟩ : ∃ ad, h.zA = some ad ∧ Row w6 w.heap.size (ad.add (z2 * 2)) (zn_ S.zs z2).C := hS6.z.row (fun _ => rfl) Zn.nil hzlt
      have r2 := row_c0 hrz (v := .string (zn_ S.zs z2).nm) rfl
      rw [hnz2] at r2
      have c1' : w6.cell? ⟨w.heap.size, 1, none⟩ = some (.slice (some az) h.zn h.zc) := by rw [← ez]; exact hx.cell 1
      clear hk2 hzat hl2 hcb hnz2 e0 hS6 ez hrz hzl
      generalize cb.getD (cb.length - 1) ByteArray.empty = bl at *
      obtain ⟨m, hm⟩ : ∃ m, cb.length = m + 1 := ⟨cb.length - 1, by omega⟩
      rw [show cb.length - 1 = m by omega] at r1
      have p1 : decide ((z2 : Int) < 0) = false := decide_eq_false (by omega)
      have p2 : decide (h.zn ≤ z2) = false := decide_eq_false (by omega)
      have p3 : (bl.toList != bl.toList) = false := by simp
      have p4 : (z2 : Int) < (h.zn : Int) := by omega
      have p5 : ((m : Int) + 1 - 1) = (m : Int) := by omega
      have HX := Lib.hid hx; have HT := Lib.hid ht
      clear hx ht
      rw [hm]
      have HM := Lib.hid hm
      go_upto_region 19 with fail
      go_cut [115] (fun (v : Value) (wx : World) => v = .bool false ∧ ∃ q, wx = w6.drewN q)
      case first =>
        go_quiet (fail)
        go_wp2_with fail
        go_meet
        exact ⟨rfl, _, rfl⟩
      case rest =>
        obtain ⟨rfl, q0, rfl⟩ := hcut
        have hx : Blk (w6.drewN q0) w.heap.size 26 h.C := HX.out.drewN q0
        have hb2 : Below w.heap.size w (w6.drewN q0) := bdrewN hb q0
        have ha2 : Txs (w6.drewN q0) w6.heap.size A2 al.length al := ⟨ha.len, ha.r.drewN q0, ha.p⟩
        have hNB2 : w6.heap.size ≤ (w6.drewN q0).heap.size := Nat.le_refl _
        clear HX HT hb ha p1 p2 p3 p4 p5 r1 r2 c1' hm HM hcp
        obtain ⟨NC, hNC⟩ : ∃ NC, NC = w6.heap.size := ⟨_, rfl⟩
        rw [← hNC] at ha2 hNB2
        clear hNC
        generalize w6.drewN q0 = W7 at *
        have hself : key name ∈ keys al := by rw [HALE.out]; exact self_alL (by rw [← HL.out])
        have HSELF := Lib.hid (key_mem.1 hself); clear hself
        have halm : al.length ≤ 40 := by
          have e1 : (keys al).length = al.length := by unfold keys; rw [List.length_map]
          rw [← e1, HALE.out]
          unfold alL
          split
          · refine Nat.le_trans (onceP_len _ _) ?_
            have l1 := HSR.out.z.len; have l2 := HSR.out.l.len
            unfold znames lnames
            rw [List.length_append, List.length_map, List.length_map]; omega
          · exact Nat.zero_le _
        go_wp2_with fail
        go_loopw [15, 118] (fun mi i wr => ∃ k : Nat, i = .int .i64 k ∧ k ≤ al.length ∧ mi = .bool (hasT name (al.take k)) ∧ Below w.heap.size w wr ∧ Blk wr w.heap.size 26 h.C ∧ Txs wr NC A2 al.length al ∧ NC ≤ wr.heap.size) (fun _ i _ => al.length - (intOf i).toNat)
        case atStart => exact ⟨0, rfl, Nat.zero_le _, rfl, hb2, hx, ha2, hNB2⟩
        case round =>
          clear hb2 hx ha2 hNB2
          obtain ⟨k, rfl, hk, hmi, hb, hx, ha, hNB2⟩ := hrel
          by_cases hlt : k < al.length
          · have hlt' : (k : Int) < (al.length : Int) := by omega
            obtain ⟨aa, rfl, -, r1⟩ := ha.at_ hlt
            have hmem : al.getD k ByteArray.empty ∈ al := getD_mem ByteArray.empty hlt
            have hnz := ha.p _ hmem
            have hle : lead (net S) (key (al.getD k ByteArray.empty)) = lead (net S) (key name) := mem_alL (S := S) (by rw [← HALE.out]; exact key_mem.2 hmem)
            have hzc := fun W b => HZO.out W (al.getD k ByteArray.empty) b hnz
            rw [hle, ← HL.out] at hzc
            have hac := fun W b => HAL.out W (al.getD k ByteArray.empty) b hnz
            have haE := Lib.hid (alL_eq (S := S) hle)
            have HTK := Lib.hid (show hasT name (al.take (k + 1)) = (hasT name (al.take k) || (al.getD k ByteArray.empty).toList == name.toList) by
              rw [getD_take ByteArray.empty hlt]; unfold hasT; rw [List.any_append, List.any_cons, List.any_nil, Bool.or_false])
            subst hmi
            clear hle hmem
            have HZC := Lib.hid hzc; have HAC := Lib.hid hac; clear hzc hac
            generalize al.getD k ByteArray.empty = b at *
            obtain ⟨mb, hmb⟩ : ∃ mb, mb = hasT name (al.take k) := ⟨_, rfl⟩
            rw [← hmb] at HTK ⊢
            clear hmb
            obtain ⟨eb, heb⟩ : ∃ eb, eb = (b.toList == name.toList) := ⟨_, rfl⟩
            have heb' : (b.toList == name.toList) = eb := heb.symm
            have m1 : ((0 : Int) != 0) = false := rfl
            have m2 : ((z2 : Int) != (z2 : Int)) = false := by simp
            have HEB := Lib.hid heb; clear heb
            cases mb
            all_goals
              cases eb
              all_goals
                go_wp2_with (refine wpList_row_g rfl 26 _ rfl _ rfl _ _ _ _ hx Try.underlying26 rfl (by kernel_rfl) ?_)
                refine (HZC.out _ hb).mono ?_; rintro e w8 ⟨rfl, hq⟩
                replace hx := hx.below hq hx.lt; replace hb := hb.trans (hq.mono hb.size)
                replace ha := ha.below (hq.mono hNB2)
                replace hNB2 := Nat.le_trans hNB2 hq.size
                clear hq
                go_wp2_with (refine wpList_row_g rfl 26 _ rfl _ rfl _ _ _ _ hx Try.underlying26 rfl (by kernel_rfl) ?_)
                refine (HAC.out _ hb).mono ?_; rintro e w9 ⟨A3, c3, al3, rfl, ha3, hal3, hq⟩
                replace hx := hx.below hq hx.lt; replace hb := hb.trans (hq.mono hb.size)
                replace ha := ha.below (hq.mono hNB2)
                replace hNB2 := Nat.le_trans hNB2 hq.size
                have e3 : al3 = al := keys_inj (by rw [hal3, HALE.out]; exact haE.out)
                subst e3
                have htx := texts_any A3 al3.length c3 al3 (some aa) al3.length c2 al3 w9 ha3 (ha.more hNB2) (by unfold maxLen; omega) (by unfold maxLen; omega)
                rw [decide_eq_true rfl] at htx
                clear hq hal3 ha3
                go_wp2_with fail
                refine htx.mono ?_; rintro e w10 ⟨rfl, hq⟩
                replace hx := hx.below hq hx.lt; replace hb := hb.trans (hq.mono hb.size)
                replace ha := ha.below (hq.mono hNB2)
                replace hNB2 := Nat.le_trans hNB2 hq.size
                clear hq htx
                go_wp2_with fail
                go_roundw
                case rel => exact ⟨k + 1, by go_num, by omega, by rw [HTK.out, heb']; rfl, hb, hx, ha, hNB2⟩
                case measure => simp [intOf]; omega
          · obtain rfl : k = al.length := by omega
            have hlt' : ¬ (al.length : Int) < (al.length : Int) := by omega
            rw [List.take_length, hasT_of HSELF.out] at hmi
            subst hmi
            clear ha hNB2 HSELF
            obtain ⟨W9, rfl⟩ : ∃ W9 : World, W9 = wr := ⟨_, rfl⟩
            go_wp2_with (refine wpList_row_g rfl 26 _ rfl _ rfl _ _ _ _ hx Try.underlying26 rfl (by kernel_rfl) ?_)
            refine (HZO.out _ fresh hb hf').mono ?_; rintro e w11 ⟨rfl, hq⟩
            replace hx := hx.below hq hx.lt; replace hb := hb.trans (hq.mono hb.size)
            clear hq
            obtain ⟨⟨Fp, Fe⟩, hF⟩ : ∃ L, L = lead (net S) (key fresh) := ⟨_, rfl⟩
            rw [← hF]
            have HF := Lib.hid hF; clear hF
            by_cases h3 : Fe = 3
            rotate_left
            · have n3 : (Fe != 3) = true := by simp [h3]
              clear h3
              go_wp2_with fail
              go_ret
              exact ⟨rfl, hb⟩
            subst h3
            go_wp2_with (refine wpList_row_g rfl 26 _ rfl _ rfl _ _ _ _ hx Try.underlying26 rfl (by kernel_rfl) ?_)
            refine (HCH.out _ fresh hb hf').mono ?_; rintro e w12 ⟨A4, c4, cf, rfl, ⟨-, hcf⟩, hq⟩
            replace hx := hx.below hq hx.lt; replace hb := hb.trans (hq.mono hb.size)
            clear hq
            by_cases h4 : cf.length = 1
            rotate_left
            · have n4 : ((cf.length : Int) != 1) = true := bne_iff_ne.2 (by omega)
              clear h4
              go_wp2_with fail
              go_ret
              exact ⟨rfl, hb⟩
            have n4 : ((cf.length : Int) != 1) = false := by rw [h4]; rfl
            have hone := hcf.one (by unfold keys; rw [List.length_map]; exact h4) (by rw [← HF.out]) id
            have HONE := Lib.hid hone
            clear hone h4 hcf
            have hx13 := hx.alloc (.cells h.C 26)
            have y13 := Blk.new w12 26 h.C
            have b13 := bal hb (.cells h.C 26)
            obtain ⟨i0, hi0, hz1, hz2, hz3⟩ := info_parts info_lk
            have HI := Lib.hid hi0; clear hi0
            go_upto_region 36 with (first | refine wpList_row_g rfl 26 _ rfl _ rfl _ _ _ _ hx Try.underlying26 rfl (by kernel_rfl) ?_ | refine wpList_store_new rfl 26 _ _ rfl rfl w12.heap.size h.C rfl rfl _ #[.slice none 0 0, .slice none 0 0, .slice none 0 0] w12 rfl rfl rfl (by kernel_rfl) (by kernel_rfl) ?_)
            obtain ⟨gt, hgt⟩ : ∃ gt, w12.heap.size = gt := ⟨_, rfl⟩
            rw [hgt] at y13 ⊢
            have hgl : w.heap.size ≤ gt := by rw [← hgt]; exact hb.size
            generalize w12.alloc (.cells h.C 26) = W13 at *
            have hgt13 : gt < W13.heap.size := y13.lt
            clear hgt hx hb
            have o0 := own_lit0 (base := W13.heap.size) W13 (Nat.le_refl _)
            have b14 := bal b13 (.cells (#[] : Array Value) 39)
            have y14 := y13.alloc (.cells (#[] : Array Value) 39)
            have hx14 := hx13.alloc (.cells (#[] : Array Value) 39)
            have d2 : (W13.alloc (.cells (#[] : Array Value) 39)).cell? ⟨w.heap.size, 2, none⟩ = some (.slice h.lA h.ln h.lc) := hx14.cell 2
            have hrd := (HSR.out.below b14).l.r
            have s14 : W13.heap.size ≤ (W13.alloc (.cells (#[] : Array Value) 39)).heap.size := by rw [sz1 _ _ rfl]; omega
            go_wp2_with (first
              | (at_builtin; refine wpList_append_any _ rfl (.tmp 168) (.tmp 170) 24 rfl W13.heap.size 39 i0 _ 2 32 Try.underlying24 HI.out hz1 hz2 hz3 rfl (by decide) _ 0 _ rfl o0 _ _ h.ln h.lc (flat Li.C S.ls) rfl hrd (flat_cells li_one _) (by unfold maxLen; omega) (by omega) s14 ?_; intro v15 w15 o15 g15 at15
                 have r0 := fun g (e : _ = some g) => own_ge o0 g e
                 have b15 := b14.grown g15 b14.size (fun g e => by have := (r0 g e).1; have := b13.size; omega)
                 have y15 := y14.grown g15 (fun e => by have := (r0 _ e.symm).1; omega)
                 have s15 := Nat.le_trans s14 g15.size
                 rw [List.nil_append] at o15
                 clear b14 y14 hx14 d2 hrd s14 o0 r0 g15 at15
                 have b16 := bal b15 (.cells #[.string name, .string fresh] 39)
                 have y16 := y15.alloc (.cells #[.string name, .string fresh] 39)
                 have o16 := o15.alloc (.cells #[.string name, .string fresh] 39)
                 have q16 := (Sls.of_blk (f := Li.C) (sz := 2) (L := [⟨name, fresh⟩]) (fun _ => rfl) (Blk.new w15 39 #[.string name, .string fresh]) rfl).r
                 have s16 : W13.heap.size ≤ (w15.alloc (.cells #[.string name, .string fresh] 39)).heap.size := by rw [sz1 _ _ rfl]; omega
                 clear b15 y15 o15 s15)
              | (at_builtin; refine wpList_append_any _ rfl (.tmp 171) (.tmp 175) 24 rfl W13.heap.size 39 i0 _ 2 32 Try.underlying24 HI.out hz1 hz2 hz3 rfl (by decide) _ (0 + h.ln) _ rfl o16 _ _ 1 1 _ rfl q16 (flat_cells li_one _) (by unfold maxLen; omega) (by omega) s16 ?_; intro v17 w17 o17 g17 at17
                 obtain ⟨A5, c5, rfl⟩ := own_slice o17
                 have r16 := fun g (e : _ = some g) => own_ge o16 g e
                 have b17 := b16.grown g17 b16.size (fun g e => by have := (r16 g e).1; have := b13.size; omega)
                 have y17 := y16.grown g17 (fun e => by have := (r16 _ e.symm).1; omega)
                 have s17 := Nat.le_trans s16 g17.size
                 rw [← flat_append] at o17
                 simp only [Nat.zero_add] at o17
                 clear b16 y16 o16 q16 s16 r16 g17 at17
                 have y17c : w17.cell? ⟨gt, 2, none⟩ = some (.slice h.lA h.ln h.lc) := y17.cell 2
                 have y17f := y17.frozen 2
                 have b18 := b17.setCell (p := ⟨gt, 2, none⟩) hgl (.slice A5 (h.ln + 1) c5)
                 have y18 : Blk (w17.setCell ⟨gt, 2, none⟩ (.slice A5 (h.ln + 1) c5)) gt 26 (moreH h A5 (h.ln + 1) c5).C := y17.set_ 2 (.slice A5 (h.ln + 1) c5)
                 have hgr := g_cell w17 ⟨gt, 2, none⟩ (.slice A5 (h.ln + 1) c5)
                 have o18 := o17.kept hgr (.inr (fun e => by have := (own_ge o17 gt e).1; omega)))
              | refine wpList_row_g rfl 26 _ rfl _ rfl _ _ _ _ y18 Try.underlying26 rfl (by kernel_rfl) ?_)
            have hS18 : SoR (w17.setCell ⟨gt, 2, none⟩ (.slice A5 (h.ln + 1) c5)) (w17.setCell ⟨gt, 2, none⟩ (.slice A5 (h.ln + 1) c5)).heap.size (moreH h A5 (h.ln + 1) c5) (moreS S [⟨name, fresh⟩]) :=
              more_ok ((HSR.out.below b18).more b18.size) (Sls.of_own (by rw [List.length_append, HSR.out.l.len]; rfl) o18) (Below.refl _ _) (fun a ha => by rw [List.mem_singleton.1 ha]; exact ⟨hz', hf'⟩) (by unfold maxLen; omega) (own_cap o18)
            have hlast := zone_any (moreH h A5 (h.ln + 1) c5) (moreS S [⟨name, fresh⟩]) fresh _ hS18 hf' (show h.zn ≤ 100000 by omega) (show h.ln + 1 ≤ 100000 by omega)
            rw [more_net, lead_new (N := net S) (n := key name) (f := key fresh) HL.out.symm HONE.out.1 HONE.out.2] at hlast
            refine hlast.mono ?_; rintro e w19 ⟨rfl, hq⟩
            have b19 := b18.trans (hq.mono b18.size)
            clear hq hlast hS18
            have m1 : ((0 : Int) == 0) = true := rfl
            have m2 : ((z2 : Int) == (z2 : Int)) = true := by simp
            go_wp2_with fail
            go_ret
            exact ⟨rfl, b19⟩
theorem one_all (h : Hd) (S : So) (name fresh : ByteArray) (w : World) (hS : SoR w w.heap.size h S) (hz : name.size ≤ maxLen) (hf : fresh.size ≤ maxLen) :
    Calls Try.prog 3 #[h.V, .string name, .string fresh] w fun e w' => e = .returned (.bool true) ∧ Below w.heap.size w w' := (one_any h S name fresh w hS hz hf).mono fun _ _ h => h
end Go.Proofs.Ytidblajnlddalaa.Lk
