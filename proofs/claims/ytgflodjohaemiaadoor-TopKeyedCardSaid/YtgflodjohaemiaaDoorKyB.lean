/-
  CHARTS: entries in memory; chart.Key, territory, right: walked.
-/
import Derived.Test.YtgflodjohaemiaaDoorKyA
import Derived.Test.YtgflodjohaemiaaDoorNmV
import Derived.Test.YtgflodjohaemiaaDoorSls
import Derived.Test.YtgflodjohaemiaaDoorMps
namespace Go.Proofs.YtgflodjohaemiaaDoor.Ky
open Go.ChangeShapes Go.WideShapes Go.ChangeAt Go.RowKit
open Go.Proofs.YtgflodjohaemiaaDoor
open Go.Proofs.YtgflodjohaemiaaDoor.Wd
open Go.Proofs.YtgflodjohaemiaaDoor.Sl
open Go.Proofs.YtgflodjohaemiaaDoor.Utf (L L_len plain plain_any)
open Go.Proofs.YtgflodjohaemiaaDoor.Nv (chr chr_at chr_bd nmB name_any)
set_option linter.unusedVariables false
set_option linter.unusedSimpArgs false
theorem bal {w W : World} (h : Below w.heap.size w W) (o : Obj) : Below w.heap.size w (W.alloc o) := h.alloc h.size o
theorem bcl {w W W' : World} (h : Below w.heap.size w W) (k : Below W.heap.size W W') : Below w.heap.size w W' := h.trans (k.mono h.size)
abbrev stC (s : ByteArray) : Array Value := #[.string s]
/-- an entry -/
structure En where
  ky : ByteArray
  te : ByteArray
  A : Option Addr
  n : Nat
  c : Nat
  zs : List ByteArray
abbrev En.C (e : En) : Array Value := #[.string e.ky, .string e.te, .slice e.A e.n e.c]
abbrev En.nil : En := ⟨ByteArray.empty, ByteArray.empty, none, 0, 0, []⟩
def EnOk (w : World) (B : Nat) (e : En) : Prop := e.ky.size ≤ maxLen ∧ e.te.size ≤ maxLen ∧ Sls stC 1 w B e.A e.n e.zs ∧ (∀ z ∈ e.zs, z.size ≤ maxLen) ∧ e.n ≤ maxLen
theorem EnOk.below {w w' : World} {B : Nat} {e : En} (h : EnOk w B e) (hb : Below B w w') : EnOk w' B e := ⟨h.1, h.2.1, h.2.2.1.below hb, h.2.2.2⟩
theorem EnOk.more {w : World} {B B' : Nat} {e : En} (h : EnOk w B e) (hb : B ≤ B') : EnOk w B' e := ⟨h.1, h.2.1, h.2.2.1.more hb, h.2.2.2⟩
/-- a chart -/
structure ChR (w : World) (B : Nat) (A : Option Addr) (n c : Nat) (l : List En) : Prop where
  s : Sls En.C 3 w B A n l
  b : ∀ e ∈ l, EnOk w B e
  m : n ≤ maxLen
theorem ChR.below {w w' : World} {B n c : Nat} {A : Option Addr} {l : List En} (h : ChR w B A n c l) (hb : Below B w w') : ChR w' B A n c l := ⟨h.s.below hb, fun e he => (h.b e he).below hb, h.m⟩
theorem ChR.more {w : World} {B B' n c : Nat} {A : Option Addr} {l : List En} (h : ChR w B A n c l) (hb : B ≤ B') : ChR w B' A n c l := ⟨h.s.more hb, fun e he => (h.b e he).more hb, h.m⟩
/-- a key -/
def edgeB (s : ByteArray) : Bool := decide (chr s 0 ≠ 32 ∧ chr s (s.size - 1) ≠ 32)
def keyB (s : ByteArray) : Bool := decide (1 ≤ s.size ∧ s.size ≤ 64) && (plain (L s) && (!hasB (L s) (L sgn4) && edgeB s))
theorem key_len {s : ByteArray} (h : ¬ (1 ≤ s.size ∧ s.size ≤ 64)) : keyB s = false := by unfold keyB; rw [decide_eq_false h]; rfl
theorem key_pl {s : ByteArray} (h : 1 ≤ s.size ∧ s.size ≤ 64) : keyB s = (plain (L s) && (!hasB (L s) (L sgn4) && edgeB s)) := by unfold keyB; rw [decide_eq_true h]; rfl
set_option maxRecDepth 20000 in
set_option maxHeartbeats 6400000 in
theorem key_any (s : ByteArray) (w : World) (hs : s.size ≤ maxLen) : Calls Tryd.prog 32 #[.string s] w fun e w' => e = .returned (.bool (keyB s)) ∧ Below w.heap.size w w' := by
  unfold maxLen at hs
  by_cases h1 : s.size < 1
  · have hI : (s.size : Int) < 1 := by omega
    rw [key_len (by omega)]
    go_enter Tryd.func32, Tryd.ntmps32
    go_wp2_with fail
    go_ret
    exact ⟨rfl, Below.refl _ _⟩
  have hI1 : ¬ (s.size : Int) < 1 := by omega
  by_cases h2 : 64 < s.size
  · have hI : (64 : Int) < (s.size : Int) := by omega
    rw [key_len (by omega)]
    go_enter Tryd.func32, Tryd.ntmps32
    go_wp2_with fail
    go_ret
    exact ⟨rfl, Below.refl _ _⟩
  have hI2 : ¬ (64 : Int) < (s.size : Int) := by omega
  rw [key_pl (by omega)]
  have hp := plain_any s w (by omega)
  have hc := fun W => cany_any s sgn4 W asc4 (by decide) (by decide) (by omega)
  have he : edgeB s = (decide (chr s 0 ≠ 32) && decide (chr s (s.size - 1) ≠ 32)) := by unfold edgeB; rw [Bool.decide_and]
  rw [he]
  clear he
  have z0 := chr_at (s := s) (i := 0) (by omega)
  have z1 := chr_at (s := s) (i := s.size - 1) (by omega)
  generalize chr s 0 = a at *
  generalize hb : chr s (s.size - 1) = b at *
  obtain ⟨pa, hpa⟩ : ∃ q_, decide (a ≠ 32) = q_ := ⟨_, rfl⟩
  obtain ⟨pb, hpb⟩ : ∃ q_, decide (b ≠ 32) = q_ := ⟨_, rfl⟩
  rw [hpa, hpb]
  generalize plain (L s) = p at *
  generalize hasB (L s) (L sgn4) = q at *
  have hl1 : IntKind.i64.wrap ((s.size : Int) - 1) = ((s.size - 1 : Nat) : Int) := by
    rw [show ((s.size - 1 : Nat) : Int) = (s.size : Int) - 1 by omega]
    simp [IntKind.wrap, IntKind.bits, IntKind.signed]; omega
  have hlt1 : ((s.size - 1 : Nat) : Int) < (s.size : Int) := by omega
  have hlt0 : (0 : Int) < (s.size : Int) := by omega
  go_enter Tryd.func32, Tryd.ntmps32
  go_wp2_with fail
  refine hp.mono ?_; rintro e w1 ⟨rfl, b1⟩
  cases p with
  | false =>
    go_wp2_with fail
    go_ret
    exact ⟨rfl, b1⟩
  | true =>
    go_wp2_with fail
    refine (hc _).mono ?_; rintro e w2 ⟨rfl, b2⟩
    have B2 := bcl b1 b2
    clear hp hc b1 b2
    cases q with
    | true =>
      go_wp2_with fail
      go_ret
      exact ⟨rfl, B2⟩
    | false =>
      cases pa with
      | false =>
        have ga : a = 32 := by simpa using hpa
        have e0 : (((s[0]'(by omega)).toNat : Int) != 32) = false := by rw [z0, ga]; rfl
        clear z0 z1 hpa hpb ga hb
        go_wp2_with fail
        go_ret
        exact ⟨rfl, B2⟩
      | true =>
        have ga : ¬ a = 32 := by simpa using hpa
        have e0 : (((s[0]'(by omega)).toNat : Int) != 32) = true := by rw [z0, bne_iff_ne]; exact ga
        cases pb with
        | false =>
          have gb : b = 32 := by simpa using hpb
          have e1 : (((s[s.size - 1]'(by omega)).toNat : Int) != 32) = false := by rw [z1, gb]; rfl
          clear z0 z1 hpa hpb ga gb hb
          go_wp2_with fail
          go_ret
          exact ⟨rfl, B2⟩
        | true =>
          have gb : ¬ b = 32 := by simpa using hpb
          have e1 : (((s[s.size - 1]'(by omega)).toNat : Int) != 32) = true := by rw [z1, bne_iff_ne]; exact gb
          clear z0 z1 hpa hpb ga gb hb
          go_wp2_with fail
          go_ret
          exact ⟨rfl, B2⟩
/-- a territory -/
def terC (z : Int) : Bool := decide ((65 ≤ z ∧ z ≤ 90) ∨ (48 ≤ z ∧ z ≤ 57))
def terB (s : ByteArray) : Bool := decide (1 ≤ s.size ∧ s.size ≤ 8) && (List.range s.size).all fun i => terC (chr s i)
theorem ter_len {s : ByteArray} (h : ¬ (1 ≤ s.size ∧ s.size ≤ 8)) : terB s = false := by unfold terB; rw [decide_eq_false h]; rfl
theorem ter_no {s : ByteArray} {k : Nat} (hk : k < s.size) (h : terC (chr s k) = false) : terB s = false := by
  unfold terB
  rw [show ((List.range s.size).all fun i => terC (chr s i)) = false from List.all_eq_false.2 ⟨k, List.mem_range.2 hk, by rw [h]; decide⟩, Bool.and_false]
theorem ter_yes {s : ByteArray} (h : 1 ≤ s.size ∧ s.size ≤ 8) (h2 : ∀ k, k < s.size → terC (chr s k) = true) : terB s = true := by
  unfold terB
  rw [decide_eq_true h, Bool.true_and, List.all_eq_true]
  exact fun k hk => h2 k (List.mem_range.1 hk)
set_option maxRecDepth 20000 in
set_option maxHeartbeats 6400000 in
theorem ter_any (s : ByteArray) (w : World) (hs : s.size ≤ maxLen) : Calls Tryd.prog 33 #[.string s] w fun e w' => e = .returned (.bool (terB s)) ∧ w' = w := by
  unfold maxLen at hs
  by_cases h1 : s.size < 1
  · have hI : (s.size : Int) < 1 := by omega
    rw [ter_len (by omega)]
    go_enter Tryd.func33, Tryd.ntmps33
    go_wp2_with fail
    go_ret
    exact ⟨rfl, rfl⟩
  have hI1 : ¬ (s.size : Int) < 1 := by omega
  by_cases h2 : 8 < s.size
  · have hI : (8 : Int) < (s.size : Int) := by omega
    rw [ter_len (by omega)]
    go_enter Tryd.func33, Tryd.ntmps33
    go_wp2_with fail
    go_ret
    exact ⟨rfl, rfl⟩
  have hI2 : ¬ (8 : Int) < (s.size : Int) := by omega
  have HY := Lib.hid (fun h => ter_yes (s := s) (by omega) h)
  go_enter Tryd.func33, Tryd.ntmps33
  go_wp2_with fail
  go_loop [3] (fun i => ∃ k : Nat, i = .int .i64 k ∧ k ≤ s.size ∧ (∀ j, j < k → terC (chr s j) = true)) (fun i => s.size - (intOf i).toNat)
  case atStart => exact ⟨0, rfl, Nat.zero_le _, fun _ h => absurd h (Nat.not_lt_zero _)⟩
  case round =>
    obtain ⟨k, rfl, hk, hall⟩ := hrel
    have HA := Lib.hid hall; clear hall
    by_cases hlt : k < s.size
    · have hlt' : (k : Int) < (s.size : Int) := by omega
      have HN := Lib.hid (fun h => ter_no (s := s) hlt h)
      have HS := Lib.hid (fun (h : terC (chr s k) = true) j (hj : j < k + 1) => (show terC (chr s j) = true by
        by_cases e : j = k
        · rw [e]; exact h
        · exact HA.out j (by omega)))
      have hz := chr_at hlt
      rw [← hz] at HN HS
      clear hz
      rcases (show ((s[k].toNat : Int) ≤ 47) ∨ ((48 ≤ (s[k].toNat : Int) ∧ (s[k].toNat : Int) ≤ 57)) ∨ ((58 ≤ (s[k].toNat : Int) ∧ (s[k].toNat : Int) ≤ 64)) ∨ ((65 ≤ (s[k].toNat : Int) ∧ (s[k].toNat : Int) ≤ 90)) ∨ (91 ≤ (s[k].toNat : Int)) by omega) with g | g | g | g | g
      · have : ¬ 65 ≤ (s[k].toNat : Int) := by omega
        have : ¬ 48 ≤ (s[k].toNat : Int) := by omega
        have : (s[k].toNat : Int) ≤ 90 := by omega
        have : (s[k].toNat : Int) ≤ 57 := by omega
        have hE := Lib.hid (HN.out (decide_eq_false (by omega)))
        clear HS HN g
        go_wp2_with fail
        go_ret
        exact ⟨by rw [hE.out]; rfl, rfl⟩
      · have : ¬ 65 ≤ (s[k].toNat : Int) := by omega
        have : 48 ≤ (s[k].toNat : Int) := by omega
        have : (s[k].toNat : Int) ≤ 90 := by omega
        have : (s[k].toNat : Int) ≤ 57 := by omega
        have hY := Lib.hid (HS.out (decide_eq_true (by omega)))
        clear HS HN g
        go_wp2_with fail
        go_round
        case rel => exact ⟨k + 1, by go_num, by omega, hY.out⟩
        case measure => simp [intOf]; omega
      · have : ¬ 65 ≤ (s[k].toNat : Int) := by omega
        have : 48 ≤ (s[k].toNat : Int) := by omega
        have : (s[k].toNat : Int) ≤ 90 := by omega
        have : ¬ (s[k].toNat : Int) ≤ 57 := by omega
        have hE := Lib.hid (HN.out (decide_eq_false (by omega)))
        clear HS HN g
        go_wp2_with fail
        go_ret
        exact ⟨by rw [hE.out]; rfl, rfl⟩
      · have : 65 ≤ (s[k].toNat : Int) := by omega
        have : 48 ≤ (s[k].toNat : Int) := by omega
        have : (s[k].toNat : Int) ≤ 90 := by omega
        have : ¬ (s[k].toNat : Int) ≤ 57 := by omega
        have hY := Lib.hid (HS.out (decide_eq_true (by omega)))
        clear HS HN g
        go_wp2_with fail
        go_round
        case rel => exact ⟨k + 1, by go_num, by omega, hY.out⟩
        case measure => simp [intOf]; omega
      · have : 65 ≤ (s[k].toNat : Int) := by omega
        have : 48 ≤ (s[k].toNat : Int) := by omega
        have : ¬ (s[k].toNat : Int) ≤ 90 := by omega
        have : ¬ (s[k].toNat : Int) ≤ 57 := by omega
        have hE := Lib.hid (HN.out (decide_eq_false (by omega)))
        clear HS HN g
        go_wp2_with fail
        go_ret
        exact ⟨by rw [hE.out]; rfl, rfl⟩
    · have hlt' : ¬ (k : Int) < (s.size : Int) := by omega
      have hE := Lib.hid (HY.out (fun j hj => HA.out j (by omega)))
      go_wp2_with fail
      go_ret
      exact ⟨by rw [hE.out]; rfl, rfl⟩
/-- an entry is right -/
def zsB (l : List ByteArray) : Bool := l.all nmB
def rgB (e : En) : Bool := keyB e.ky && (terB e.te && (decide (1 ≤ e.n ∧ e.n ≤ 32) && zsB e.zs))
set_option maxRecDepth 100000 in
set_option maxHeartbeats 6400000 in
theorem right_any (e : En) (w : World) (B : Nat) (hB : B ≤ w.heap.size) (he : EnOk w B e) : Calls Tryd.prog 18 #[.agg e.C] w fun x w' => x = .returned (.bool (rgB e)) ∧ Below w.heap.size w w' := by
  obtain ⟨k1, k2, hz, hzs, hn⟩ := he
  have hk := fun W => key_any e.ky W k1
  have ht := fun W => ter_any e.te W k2
  have b0 := bal (Below.refl _ w) (.cells e.C 58); have x0 := Blk.new w 58 e.C
  have HZS := Lib.hid hzs; clear hzs
  have hzl := hz.len
  have hR : rgB e = (keyB e.ky && (terB e.te && (decide (1 ≤ e.n ∧ e.n ≤ 32) && zsB e.zs))) := rfl
  rw [hR]
  clear hR
  unfold maxLen at hn
  obtain ⟨kb, hkb⟩ : ∃ b, keyB e.ky = b := ⟨_, rfl⟩
  obtain ⟨tb, htb⟩ : ∃ b, terB e.te = b := ⟨_, rfl⟩
  obtain ⟨db, hdb⟩ : ∃ b, decide (1 ≤ e.n ∧ e.n ≤ 32) = b := ⟨_, rfl⟩
  obtain ⟨zb, hzb⟩ : ∃ b, zsB e.zs = b := ⟨_, rfl⟩
  rw [hkb, htb, hdb, hzb]
  rw [hkb] at hk
  rw [htb] at ht
  have HZB := Lib.hid hzb
  clear hkb htb hzb
  go_enter Tryd.func18, Tryd.ntmps18
  go_upto_region 1 with fail
  have hz0 := hz.below (b0.mono hB)
  generalize w.alloc (.cells e.C 58) = V at *
  obtain ⟨g, hg⟩ : ∃ g, w.heap.size = g := ⟨_, rfl⟩
  have x1 : Blk V g 58 e.C := by rw [← hg]; exact x0
  rw [hg]
  have HG := Lib.hid hg; clear hg x0
  have c0 : V.cell? ⟨g, 0, none⟩ = some (.string e.ky) := x1.cell 0
  go_wp2_with fail
  refine (hk _).mono ?_; rintro x V1 ⟨rfl, hb⟩
  have x2 := x1.below hb x1.lt; have b1 := bcl b0 hb; have hz1 := hz0.below (hb.mono (Nat.le_trans hB b0.size)); clear hb x1 b0 hz0 c0 hk
  cases kb with
  | false =>
    go_wp2_with fail
    go_ret
    exact ⟨rfl, b1⟩
  | true =>
  have c1 : V1.cell? ⟨g, 1, none⟩ = some (.string e.te) := x2.cell 1
  go_wp2_with fail
  refine (ht _).mono ?_; rintro x V2 ⟨rfl, rfl⟩
  cases tb with
  | false =>
    go_wp2_with fail
    go_ret
    exact ⟨rfl, b1⟩
  | true =>
  have c2 : V2.cell? ⟨g, 2, none⟩ = some (.slice e.A e.n e.c) := x2.cell 2
  by_cases h1 : e.n < 1
  · have hI : (e.n : Int) < 1 := by omega
    obtain rfl : db = false := by rw [← hdb]; exact decide_eq_false (by omega)
    clear hdb
    go_wp2_with fail
    go_ret
    exact ⟨rfl, b1⟩
  have hI1 : ¬ (e.n : Int) < 1 := by omega
  by_cases h2 : 32 < e.n
  · have hI : (32 : Int) < (e.n : Int) := by omega
    obtain rfl : db = false := by rw [← hdb]; exact decide_eq_false (by omega)
    clear hdb
    go_wp2_with fail
    go_ret
    exact ⟨rfl, b1⟩
  have hI2 : ¬ (32 : Int) < (e.n : Int) := by omega
  obtain rfl : db = true := by rw [← hdb]; exact decide_eq_true (by omega)
  clear hdb
  go_upto_region 6 with fail
  clear c1 c2 x2
  go_loopw [4, 28] (fun _ i wr => ∃ k : Nat, i = .int .i64 (k : Int) ∧ k ≤ e.n ∧ (∀ j, j < k → nmB (e.zs.getD j ByteArray.empty) = true) ∧ Below w.heap.size w wr) (fun _ i _ => e.n - (intOf i).toNat)
  case atStart => exact ⟨0, rfl, Nat.zero_le _, fun j hj => absurd hj (Nat.not_lt_zero _), b1⟩
  case round =>
    obtain ⟨k, rfl, hk, hall, b⟩ := hrel
    have HA := Lib.hid hall; clear hall
    by_cases hlt : k < e.n
    · have hltI : (k : Int) < (e.n : Int) := by omega
      have hkl : k < e.zs.length := by omega
      obtain ⟨ad, eA, hrow⟩ := (hz.below (b.mono hB)).row (fun _ => rfl) ByteArray.empty hlt
      rw [eA]
      have hsz := HZS.out _ (getD_mem (L := e.zs) ByteArray.empty hkl)
      have HM := Lib.hid (getD_mem (L := e.zs) ByteArray.empty hkl)
      obtain ⟨z, hzz⟩ : ∃ z, e.zs.getD k ByteArray.empty = z := ⟨_, rfl⟩
      rw [hzz] at hrow hsz HM
      have HZ := Lib.hid hzz; clear hzz
      have cp : wr.cell? (ad.add k) = some (.string z) := by
        have := row_c0 hrow (v := .string z) rfl
        rwa [Nat.mul_one] at this
      have hna := fun W => name_any z W hsz
      clear hrow eA
      go_wp2_with fail
      refine (hna _).mono ?_; rintro x W2 ⟨rfl, hb⟩
      have b2 := bcl b hb
      obtain ⟨nb, hnb⟩ : ∃ b, nmB z = b := ⟨_, rfl⟩
      rw [hnb]
      cases nb with
      | true =>
        have HA2 := Lib.hid (show ∀ j, j < k + 1 → nmB (e.zs.getD j ByteArray.empty) = true from fun j hj => by
          by_cases q : j = k
          · rw [q, HZ.out]; exact hnb
          · exact HA.out j (by omega))
        clear cp hna hb b
        go_wp2_with fail
        go_roundw
        case rel => exact ⟨k + 1, by go_num, by omega, HA2.out, b2⟩
        case measure => simp [intOf]; omega
      | false =>
        have HN := Lib.hid (show zsB e.zs = false from List.all_eq_false.2 ⟨z, HM.out, by rw [hnb]; decide⟩)
        clear cp hna hb b
        go_wp2_with fail
        go_ret
        exact ⟨by rw [← HZB.out, HN.out]; rfl, b2⟩
    · obtain rfl : k = e.n := by omega
      have hltI : ¬ (e.n : Int) < (e.n : Int) := by omega
      have HY := Lib.hid (show zsB e.zs = true from List.all_eq_true.2 fun z hz => by
        obtain ⟨j, hj, rfl⟩ := List.getElem_of_mem hz
        have := HA.out j (by omega)
        rwa [List.getD_eq_getElem?_getD, List.getElem?_eq_getElem hj] at this)
      go_wp2_with fail
      go_ret
      exact ⟨by rw [← HZB.out, HY.out]; rfl, b⟩
end Go.Proofs.YtgflodjohaemiaaDoor.Ky
