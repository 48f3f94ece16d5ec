/-
  A NAME THAT A SOURCE HAS NOT; THE FIRST QUESTION: walked.
-/
import Derived.Test.YtnoaeejdcdeanaaDoorVaI
import Derived.WalkLawsBesides
import Derived.Lib.SlBytesConst
namespace Go.Proofs.YtnoaeejdcdeanaaDoor.Va
open Go.ChangeShapes Go.WideShapes Go.ChangeAt Go.RowKit Go.Shelf
open Go.Proofs.YtnoaeejdcdeanaaDoor
open Go.Proofs.YtnoaeejdcdeanaaDoor.Wd
open Go.Proofs.YtnoaeejdcdeanaaDoor.Sr
open Go.Proofs.YtnoaeejdcdeanaaDoor.Sl
set_option linter.unusedVariables false
set_option linter.unusedSimpArgs false
open Go.Proofs.YtnoaeejdcdeanaaDoor.Civ (Tab)
open Go.Proofs.YtnoaeejdcdeanaaDoor.Ab (Tb)
open Go.Proofs.YtnoaeejdcdeanaaDoor.Lk (own_slice nmB names_any str_eq str_ne stV lead lead_of)
/-- the k-th name that is tried -/
def frs (c : UInt8) (k : Nat) : ByteArray := ⟨(113 :: c :: List.replicate k 113).toArray⟩
theorem frs_size (c : UInt8) (k : Nat) : (frs c k).size = k + 2 := by show (List.toArray _).size = _; simp
theorem frs_succ (c : UInt8) (k : Nat) : frs c k ++ ⟨#[113]⟩ = frs c (k + 1) := by
  have : ∀ a b : ByteArray, a.data = b.data → a = b := fun a b h => by cases a; cases b; cases h; rfl
  apply this
  show (frs c k ++ ⟨#[113]⟩ : ByteArray).data = _
  rw [ByteArray.data_append]
  apply Array.toList_inj.1
  rw [Array.toList_append]
  show (113 :: c :: List.replicate k 113) ++ [113] = 113 :: c :: List.replicate (k + 1) 113
  rw [List.replicate_succ']; rfl
theorem frs_name {c : UInt8} (h : 97 ≤ c.toNat ∧ c.toNat ≤ 122) {k : Nat} (hk : k ≤ 62) : Nv.nmB (frs c k) = true := by
  refine Nv.nm_yes (by rw [frs_size]; omega) fun i hi => ?_
  have hm : ∀ x ∈ (frs c k).data.toList, 97 ≤ x.toNat ∧ x.toNat ≤ 122 := by
    intro x hx
    have : x ∈ 113 :: c :: List.replicate k 113 := hx
    rcases List.mem_cons.1 this with rfl | h2
    · decide
    · rcases List.mem_cons.1 h2 with rfl | h3
      · exact h
      · rw [List.eq_of_mem_replicate h3]; decide
  have hlt : i < (frs c k).data.toList.length := by rw [Array.length_toList]; exact hi
  have := hm _ (List.getElem_mem hlt)
  unfold Nv.okC Nv.chr
  rw [List.getD_eq_getElem?_getD, List.getElem?_eq_getElem hlt, Option.getD_some, Bool.or_eq_true]
  exact .inl (decide_eq_true (.inl ⟨by omega, by omega⟩))
/-- a name that a source has not is answered -/
def FrP (S : So) (w : World) (e0 : Ending) (w' : World) : Prop := ∃ f : ByteArray, e0 = .returned (.string f) ∧ f.size ≤ 202 ∧ (f.size ≤ 60 → f ∉ nmB S ∧ Nv.nmB f = true) ∧ Below w.heap.size w w'
theorem not_take {l : List ByteArray} {k : Nat} {f x : ByteArray} (hk : k < l.length) (hx : l.getD k ByteArray.empty = x) (h : f ∉ l.take k) (hn : x ≠ f) : f ∉ l.take (k + 1) := by
  subst hx
  rw [getD_take ByteArray.empty hk, List.mem_append]
  rintro (e | e)
  · exact h e
  · exact hn (List.mem_singleton.1 e).symm
theorem ba_ext {a b : ByteArray} (h : a.data = b.data) : a = b := by cases a; cases b; cases h; rfl
theorem frs_0 (c : UInt8) : (⟨#[113]⟩ : ByteArray) ++ ⟨#[c]⟩ = frs c 0 := by
  apply ba_ext
  rw [ByteArray.data_append]; rfl
theorem conv1 (w : World) (c : UInt8) (z : Int) (hz : (c.toNat : Int) = z) : (convert 62 9 (.slice (some ⟨w.heap.size, 0, none⟩) 1 1)).run Tryd.prog (w.alloc (.cells #[.int .u8 z] 5)) = .ok (.string ⟨#[c]⟩) (w.alloc (.cells #[.int .u8 z] 5)) := by
  subst hz
  exact run_convert_bytes_back _ _ _ _ ⟨w.heap.size, 0, none⟩ 1 [c] Tryd.underlying62 Tryd.underlying5 Tryd.underlying9 (fun j hj => by
    have : j = 0 := by simp at hj; omega
    subst this
    exact (Blk.new w 5 #[.int .u8 (c.toNat : Int)]).cell 0)
set_option maxRecDepth 100000 in
set_option maxHeartbeats 6400000 in
theorem fresh_any (h : Hd) (S : So) (n : Int) (w : World) (hS : SoR w w.heap.size h S) (hZ : SoZ h S) (hn : 0 ≤ n ∧ n ≤ 1000) : Calls Tryd.prog 8 #[h.V, .int .i64 n] w (FrP S w) := by
  have q2 := hZ.zn; have q3 := hZ.ln
  have hnm := fun W (b : Below w.heap.size w W) => names_any h S W ((hS.below b).more b.size) (by omega) (by omega)
  have hlen : (nmB S).length ≤ 100 := by rw [Lk.nmB_len, hS.z.len, hS.l.len]; omega
  obtain ⟨rA, rn, rc, zA, zn, zc, lA, ln, lc⟩ := h
  dsimp only at q2 q3
  have x0 := Blk.new w 26 #[.slice rA rn rc, .slice zA zn zc, .slice lA ln lc]
  have b0 := bal (Below.refl _ w) (.cells #[.slice rA rn rc, .slice zA zn zc, .slice lA ln lc] 26)
  obtain ⟨c, hc⟩ : ∃ c : UInt8, (c.toNat : Int) = 97 + n % 26 := ⟨UInt8.ofNat (97 + n % 26).toNat, by rw [UInt8.toNat_ofNat']; omega⟩
  have hc1 : 97 ≤ c.toNat ∧ c.toNat ≤ 122 := by omega
  have hcv := fun W : World => conv1 W c _ hc
  obtain ⟨l, hl⟩ : ∃ l, nmB S = l := ⟨_, rfl⟩
  have HL := Lib.hid hl
  rw [hl] at hnm hlen
  clear hl hc
  go_enter Tryd.func8, Tryd.ntmps8
  go_upto_region 1 with fail
  generalize w.alloc (.cells #[.slice rA rn rc, .slice zA zn zc, .slice lA ln lc] 26) = W at *
  obtain ⟨g, hg⟩ : ∃ g, w.heap.size = g := ⟨_, rfl⟩
  have xg : Blk W g 26 #[.slice rA rn rc, .slice zA zn zc, .slice lA ln lc] := by rw [← hg]; exact x0
  rw [hg]
  have Hg := Lib.hid hg; clear hg x0
  have b1 := bal b0 (.cells #[.int .u8 (97 + n % 26)] 5); have x1 := xg.alloc (.cells #[.int .u8 (97 + n % 26)] 5)
  go_upto_region 2 with fail
  generalize W.alloc (.cells #[.int .u8 (97 + n % 26)] 5) = W1 at *
  clear hcv xg b0
  go_wp2_with fail
  go_loopw [5, 6, 8, 10, 18, 20, 21, 22, 23, 35, 36, 37] (fun c5 _ _ _ i _ _ _ _ _ _ _ wr => ∃ k : Nat, i = .int .i64 (k : Int) ∧ k ≤ 200 ∧ c5 = .string (frs c k) ∧ Blk wr g 26 #[.slice rA rn rc, .slice zA zn zc, .slice lA ln lc] ∧ Below w.heap.size w wr) (fun _ _ _ _ i _ _ _ _ _ _ _ _ => 200 - (intOf i).toNat)
  case atStart => exact ⟨0, rfl, Nat.zero_le _, by rw [← frs_0], x1, b1⟩
  case round =>
    clear x1 b1
    obtain ⟨k, rfl, hk, rfl, x, b⟩ := hrel
    have HF := Lib.hid (frs_succ c k)
    have hfs := frs_size c k
    have HFs := Lib.hid hfs
    have HFN := Lib.hid (fun h => frs_name hc1 (k := k) h)
    obtain ⟨f, hf⟩ : ∃ f, frs c k = f := ⟨_, rfl⟩
    rw [hf] at HF hfs HFs HFN ⊢
    clear hf
    have hf1 : f.size ≤ 202 := by omega
    clear hfs
    by_cases hlt : k < 200
    · have hltI : (k : Int) < 200 := by omega
      go_wp2_with (refine wpList_row_g rfl 26 _ rfl _ rfl _ _ _ _ x Tryd.underlying26 rfl (by kernel_rfl) ?_)
      refine (hnm wr b).mono ?_; rintro e0 V ⟨A1, c1, rfl, hown, hb⟩
      have x2 := x.below hb x.lt; have b2 := b.trans (hb.mono b.size)
      have HB := Lib.hid hb.size
      clear hb x b
      have hlI : (l.length : Int) ≤ 100 := by omega
      go_wp2_with fail
      go_loop [6, 8, 23] (fun c6 _ i => ∃ (j : Nat) (t : Bool), i = .int .i64 (j : Int) ∧ c6 = .bool t ∧ j ≤ l.length ∧ (t = false → f ∉ l.take j)) (fun _ _ i => l.length - (intOf i).toNat)
      case atStart => exact ⟨0, false, rfl, rfl, Nat.zero_le _, fun _ h => by simp at h⟩
      case round =>
        obtain ⟨j, t, rfl, rfl, hj, hin⟩ := hrel
        have HI := Lib.hid hin; clear hin
        by_cases hlt2 : j < l.length
        · have hltI2 : (j : Int) < (l.length : Int) := by omega
          obtain ⟨ad, rfl, hc2⟩ := Lk.Txs.own hown rfl hlt2
          obtain ⟨a, ha⟩ : ∃ a, l.getD j ByteArray.empty = a := ⟨_, rfl⟩
          rw [ha] at hc2
          have HNt := Lib.hid (fun h => not_take (f := f) hlt2 ha h); clear ha
          cases t with
          | true =>
            go_wp2_with fail
            go_round
            case rel => exact ⟨j + 1, true, by go_num, rfl, by omega, fun h => (by cases h)⟩
            case measure => simp [intOf]; omega
          | false =>
            by_cases he : a = f
            · have e1 := str_eq he
              clear he
              go_wp2_with fail
              go_round
              case rel => exact ⟨j + 1, true, by go_num, rfl, by omega, fun h => (by cases h)⟩
              case measure => simp [intOf]; omega
            · have e1 := str_ne he
              have HN2 := Lib.hid (HNt.out (HI.out rfl) he)
              clear he
              go_wp2_with fail
              go_round
              case rel => exact ⟨j + 1, false, by go_num, rfl, by omega, fun _ => HN2.out⟩
              case measure => simp [intOf]; omega
        · obtain rfl : j = l.length := by omega
          have hltI2 : ¬ (l.length : Int) < (l.length : Int) := by omega
          have HI2 := Lib.hid (show t = false → f ∉ l from fun h => by have := HI.out h; rwa [List.take_of_length_le (Nat.le_refl _)] at this)
          clear HI hown
          have c2 : V.cell? ⟨g, 2, none⟩ = some (.slice lA ln lc) := x2.cell 2
          go_upto_region 11 with fail
          clear c2
          go_loopw [6, 10, 37] (fun c6 _ i wr => ∃ (j : Nat) (t : Bool), i = .int .i64 (j : Int) ∧ c6 = .bool t ∧ j ≤ ln ∧ (t = false → f ∉ l) ∧ Blk wr g 26 #[.slice rA rn rc, .slice zA zn zc, .slice lA ln lc] ∧ Below w.heap.size w wr) (fun _ _ i _ => ln - (intOf i).toNat)
          case atStart => exact ⟨0, t, rfl, rfl, Nat.zero_le _, HI2.out, x2, b2⟩
          case round =>
            clear x2 b2 HI2
            obtain ⟨j, t, rfl, rfl, hj, hin, x, b⟩ := hrel
            have HI := Lib.hid hin; clear hin
            by_cases hlt3 : j < ln
            · have hltI3 : (j : Int) < (ln : Int) := by omega
              obtain ⟨ad, eA, hrow⟩ := (hS.l.below b).row (fun _ => rfl) Li.nil hlt3
              dsimp only at eA
              subst eA
              obtain ⟨l1, hr1⟩ : ∃ r, S.ls.getD j Li.nil = r := ⟨_, rfl⟩
              rw [hr1] at hrow; clear hr1
              have ya := Blk.new wr 32 #[.string l1.tg, .string l1.nm]; have xa := x.alloc (.cells #[.string l1.tg, .string l1.nm] 32); have ba := b.alloc (by have := b.size; exact this) (.cells #[.string l1.tg, .string l1.nm] 32)
              go_upto_region 13 with (first | (refine wpList_at_g rfl 32 _ rfl w.heap.size _ #[.string l1.tg, .string l1.nm] rfl _ hrow Tryd.underlying32 rfl (by kernel_rfl) ?_) | (refine wpList_store_new rfl 32 _ _ rfl rfl wr.heap.size #[.string l1.tg, .string l1.nm] rfl rfl _ #[.string ⟨#[]⟩, .string ⟨#[]⟩] wr rfl rfl rfl (by kernel_rfl) (by kernel_rfl) ?_))
              generalize wr.alloc (.cells #[.string l1.tg, .string l1.nm] 32) = U at *
              obtain ⟨q, hq⟩ : ∃ q, wr.heap.size = q := ⟨_, rfl⟩
              simp only [hq] at ya ⊢
              clear hq hrow x b
              have c0 : U.cell? ⟨q, 0, none⟩ = some (.string l1.tg) := ya.cell 0
              cases t with
              | true =>
                go_wp2_with fail
                go_roundw
                case rel => exact ⟨j + 1, true, by go_num, rfl, by omega, fun h => (by cases h), xa, ba⟩
                case measure => simp [intOf]; omega
              | false =>
                by_cases he : l1.tg = f
                · have e1 := str_eq he
                  clear he
                  go_wp2_with fail
                  go_roundw
                  case rel => exact ⟨j + 1, true, by go_num, rfl, by omega, fun h => (by cases h), xa, ba⟩
                  case measure => simp [intOf]; omega
                · have e1 := str_ne he
                  clear he
                  go_wp2_with fail
                  go_roundw
                  case rel => exact ⟨j + 1, false, by go_num, rfl, by omega, HI.out, xa, ba⟩
                  case measure => simp [intOf]; omega
            · obtain rfl : j = ln := by omega
              have hltI3 : ¬ (j : Int) < (j : Int) := by omega
              cases t with
              | false =>
                go_wp2_with fail
                go_ret
                exact ⟨f, rfl, hf1, fun h => ⟨by rw [HL.out]; exact HI.out (by first | rfl | trivial), HFN.out (by have := HFs.out; omega)⟩, b⟩
              | true =>
                have hf2 : ¬ 9223372036854775807 < f.size + 1 := by omega
                go_wp2_with fail
                go_roundw
                case rel => exact ⟨k + 1, by go_num, by omega, by rw [← HF.out], x, b⟩
                case measure => simp [intOf]; omega
    · obtain rfl : k = 200 := by omega
      have hltI : ¬ ((200 : Nat) : Int) < 200 := by omega
      go_wp2_with fail
      go_ret
      exact ⟨f, rfl, hf1, fun h => absurd h (by have := HFs.out; omega), b⟩
end Go.Proofs.YtnoaeejdcdeanaaDoor.Va
