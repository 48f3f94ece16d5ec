/-
  LINKS: where a name leads, by the finder: walked.
-/
import Derived.Test.YtnoaeejdcdeanaaDoorLk2
import Derived.Maps.AppendAt
import Derived.Deep.CutBlock
import Derived.Deep.DeepCutAuto
import Derived.RangeFuncBox
namespace Go.Proofs.YtnoaeejdcdeanaaDoor.Lk
open Go.ChangeShapes Go.WideShapes Go.ChangeAt Go.RowKit Go.Shelf
open Go.Proofs.YtnoaeejdcdeanaaDoor
open Go.Proofs.YtnoaeejdcdeanaaDoor.Wd
open Go.Proofs.YtnoaeejdcdeanaaDoor.Sl
open Go.Proofs.YtnoaeejdcdeanaaDoor.Sr
open Go.Proofs.YtnoaeejdcdeanaaDoor.Mp (Smap mput wpList_look wpList_look_no wpList_look_yes wpList_mput wp_mput)
set_option linter.unusedVariables false
set_option linter.unusedSimpArgs false
theorem info_str : (Tryd.prog.info? 9).map (fun i => (i.zero, i.size, i.bytes)) = some (some (.string ByteArray.empty), 1, 16) := by kernel_rfl
theorem zero_int (w : World) : (zeroValue 3).run Tryd.prog w = .ok (.int .i64 0) w := by kernel_rfl
theorem zero_fnd (w : World) : (zeroValue 66).run Tryd.prog w = .ok (.agg #[.int .i64 0, .int .i64 0]) w := by kernel_rfl
theorem g_alloc {a w : World} {row : Option Nat} (h : a.grownBy w row) (o : Obj) : a.grownBy (w.alloc o) row :=
  ⟨h.os, h.tape, h.output, Nat.le_trans h.size (by simp), fun i hi hne => (Below.heap_alloc w o i (Nat.lt_of_lt_of_le hi h.size)).trans (h.block i hi hne)⟩
theorem g_drew {a w : World} {row : Option Nat} (h : a.grownBy w row) : a.grownBy w.drew row := ⟨h.os, h.tape, h.output, h.size, h.block⟩
theorem g_own {a w w1 : World} {b : Nat} {row : Option Nat} (h : a.grownBy w (some b)) (k : w.grownBy w1 row) (hr : ∀ g, row = some g → a.heap.size ≤ g ∨ g = b) : a.grownBy w1 (some b) :=
  ⟨k.os.trans h.os, k.tape.trans h.tape, k.output.trans h.output, Nat.le_trans h.size k.size, fun i hi hne => (k.block i (Nat.lt_of_lt_of_le hi h.size) (fun e => by
    rcases hr i e.symm with q | q
    · omega
    · exact hne (by rw [q]))).trans (h.block i hi hne)⟩
theorem g_row (w : World) (g : Nat) (cs : Array Value) : w.grownBy (w.setRow g cs) (some g) :=
  ⟨rfl, rfl, rfl, by simp [World.setRow], fun i _ hne => setRow_other w g i cs (fun e => hne (by rw [e]))⟩
theorem below_g {a w : World} {b B : Nat} (h : a.grownBy w (some b)) (hB : B ≤ a.heap.size) (hb : B ≤ b) : Below B a w := (Below.refl B a).grown h hB (fun g e => by cases e; exact hb)
section
variable {W W' : World} {B p b1 b2 b3 n : Nat} {h : Hd} {S : So} {K : Key → Option Fd}
theorem Fin.c0 (x : Fin W B p b1 b2 b3 h S n K) : W.cell? ⟨p, 0, none⟩ = some (.slice h.lA h.ln h.lc) := x.f.cell 0
theorem Fin.c1 (x : Fin W B p b1 b2 b3 h S n K) : W.cell? ⟨p, 1, none⟩ = some (.map (some b1)) := x.f.cell 1
theorem Fin.c2 (x : Fin W B p b1 b2 b3 h S n K) : W.cell? ⟨p, 2, none⟩ = some (.map (some b2)) := x.f.cell 2
theorem Fin.c3 (x : Fin W B p b1 b2 b3 h S n K) : W.cell? ⟨p, 3, none⟩ = some (.map (some b3)) := x.f.cell 3
theorem Fin.grown (x : Fin W B p b1 b2 b3 h S n K) {row : Option Nat} (hg : W.grownBy W' row) (hr : ∀ g, row = some g → g ≠ p ∧ g ≠ b1 ∧ g ≠ b2 ∧ g ≠ b3) : Fin W' B p b1 b2 b3 h S n K :=
  ⟨x.f.grown hg (fun e => (hr _ e.symm).1 rfl), x.z.kept hg (fun e => (hr _ e.symm).2.1 rfl), x.l.kept hg (fun e => (hr _ e.symm).2.2.1 rfl), x.k.kept hg (fun e => (hr _ e.symm).2.2.2 rfl), x.ge, x.ne⟩
theorem Fin.alloc (x : Fin W B p b1 b2 b3 h S n K) (o : Obj) : Fin (W.alloc o) B p b1 b2 b3 h S n K := x.grown (World.grownBy_alloc W o none) (fun g e => by cases e)
theorem Fin.below (x : Fin W B p b1 b2 b3 h S n K) (hb : Below W.heap.size W W') : Fin W' B p b1 b2 b3 h S n K :=
  ⟨x.f.below hb x.f.lt, x.z.below hb x.z.lt, x.l.below hb x.l.lt, x.k.below hb x.k.lt, x.ge, x.ne⟩
theorem Fin.drew (x : Fin W B p b1 b2 b3 h S n K) : Fin W.drew B p b1 b2 b3 h S n K := ⟨x.f, x.z, x.l, x.k, x.ge, x.ne⟩
theorem Fin.lt (x : Fin W B p b1 b2 b3 h S n K) : p < W.heap.size ∧ b1 < W.heap.size ∧ b2 < W.heap.size ∧ b3 < W.heap.size := ⟨x.f.lt, x.z.lt, x.l.lt, x.k.lt⟩
theorem Fin.new (x : Fin W B p b1 b2 b3 h S n K) {w0 : World} {row : Option Nat} (hg : W.grownBy W' row) (hl : p < w0.heap.size ∧ b1 < w0.heap.size ∧ b2 < w0.heap.size ∧ b3 < w0.heap.size) (hr : ∀ g, row = some g → w0.heap.size ≤ g) : Fin W' B p b1 b2 b3 h S n K :=
  x.grown hg (fun g e => by have := hr g e; omega)
theorem fdM_over_put (K : Key → Option Fd) (c : List Key) (b : Key) (e : Fd) : mput (fdM (over K c e)) b (fdV e) = fdM (over K (c ++ [b]) e) := by
  rw [over_snoc]
  funext s
  unfold mput fdM
  by_cases q : s = b
  · simp [q]
  · simp [q]
/-- a store to what is known -/
theorem Fin.put (x : Fin W B p b1 b2 b3 h S n K) {K' : Key → Option Fd} {n' : Nat} (hk : Smap W' Tryd.prog 9 b3 n' (fdM K')) (hg : W.grownBy W' (some b3)) : Fin W' B p b1 b2 b3 h S n' K' :=
  ⟨x.f.grown hg (fun e => x.k.cells_ne x.f (Option.some.inj e).symm), x.z.kept hg (fun e => x.ne.1 (Option.some.inj e).symm), x.l.kept hg (fun e => x.ne.2 (Option.some.inj e).symm), hk, x.ge, x.ne⟩
end
theorem own_ge {w : World} {base e size n : Nat} {v : Value} {xs : List Value} (h : w.ownsRow base e size v n xs) (g : Nat) (hg : v.ownBlock = some g) : base ≤ g ∧ g < w.heap.size := by
  rcases h.2 with ⟨rfl, _⟩ | ⟨g', cap, cur, rfl, hb, hh, _⟩
  · simp [Value.ownBlock] at hg
  · have : g' = g := by simpa [Value.ownBlock] using hg
    subst this
    exact ⟨hb, (Array.getElem?_eq_some_iff.1 hh).1⟩
theorem own_map_ne {w : World} {P : Program} {base e size n k b m : Nat} {v : Value} {xs : List Value} {f : Key → Option Value} (h : w.ownsRow base e size v n xs) (x : Smap w P k b m f) : some b ≠ v.ownBlock := by
  rcases h.2 with ⟨rfl, _⟩ | ⟨g', cap, cur, rfl, hb, hh, _⟩
  · simp [Value.ownBlock]
  · intro he
    have : b = g' := by simpa [Value.ownBlock] using he
    subst this
    obtain ⟨D, ⟨es, clock, q, _⟩, _⟩ := x
    rw [q] at hh; cases hh
theorem own_slice {w : World} {base e size n : Nat} {v : Value} {xs : List Value} (h : w.ownsRow base e size v n xs) : ∃ A c, v = .slice A n c := by
  rcases h.2 with ⟨rfl, rfl⟩ | ⟨g', cap, cur, rfl, _⟩
  · exact ⟨_, _, rfl⟩
  · exact ⟨_, _, rfl⟩
abbrev stV (l : List ByteArray) : List Value := l.map Value.string
abbrev keys (l : List ByteArray) : List Key := l.map key
/-- what stands at the head of find's first loop, and behind it: the map knows of cm, the slice holds cb -/
structure Fnd (w W : World) (B p b1 b2 b3 : Nat) (h : Hd) (S : So) (n : Nat) (K : Key → Option Fd) (cm cb : List ByteArray) (v : Value) (e : Fd) : Prop where
  fin : Fin W B p b1 b2 b3 h S (n + cm.length) (over K (keys cm) ⟨0, 9⟩)
  own : W.ownsRow w.heap.size 9 1 v cb.length (stV cb)
  x5 : Blk W w.heap.size 66 #[.int .i64 0, .int .i64 0]
  x7 : Blk W (w.heap.size + 1) 66 #[.int .i64 e.p, .int .i64 e.e]
  g : w.grownBy W (some b3)
theorem keys_snoc (l : List ByteArray) (b : ByteArray) : keys (l ++ [b]) = keys l ++ [key b] := List.map_append
theorem st_snoc (l : List ByteArray) (b : ByteArray) : stV (l ++ [b]) = stV l ++ [.string b] := List.map_append
section
variable {w W W1 : World} {B p b1 b2 b3 n : Nat} {h : Hd} {S : So} {K : Key → Option Fd} {cm cb : List ByteArray} {v v1 : Value} {e : Fd}
theorem Fnd.app (f : Fnd w W B p b1 b2 b3 h S n K cm cb v e) (hl : p < w.heap.size ∧ b1 < w.heap.size ∧ b2 < w.heap.size ∧ b3 < w.heap.size) (b : ByteArray) (o : Obj) (hown : W1.ownsRow w.heap.size 9 1 v1 (cb.length + 1) (stV cb ++ [.string b])) (hg : (W.alloc o).grownBy W1 v.ownBlock) :
    Fnd w W1 B p b1 b2 b3 h S n K cm (cb ++ [b]) v1 e :=
  ⟨(f.fin.alloc o).new hg hl (fun g e => (own_ge f.own g e).1), by rw [List.length_append, List.length_singleton, st_snoc]; exact hown,
   (f.x5.alloc o).grown hg (fun e => own_blk_ne f.own f.x5 (by decide) e.symm), (f.x7.alloc o).grown hg (fun e => own_blk_ne f.own f.x7 (by decide) e.symm),
   g_own (g_alloc f.g o) hg (fun g e => .inl (own_ge f.own g e).1)⟩
theorem Fnd.put (f : Fnd w W B p b1 b2 b3 h S n K cm cb v e) (b : ByteArray) (hk : Smap W1 Tryd.prog 9 b3 (n + cm.length + 1) (mput (fdM (over K (keys cm) ⟨0, 9⟩)) (key b) (fdV ⟨0, 9⟩))) (hg : W.grownBy W1 (some b3)) :
    Fnd w W1 B p b1 b2 b3 h S n K (cm ++ [b]) cb v e :=
  ⟨f.fin.put (by rw [fdM_over_put] at hk; rw [keys_snoc, List.length_append, List.length_singleton, ← Nat.add_assoc]; exact hk) hg, f.own.kept hg (.inr (fun e => own_map_ne f.own f.fin.k e.symm)),
   f.x5.grown hg (fun e => f.fin.k.cells_ne f.x5 (Option.some.inj e).symm), f.x7.grown hg (fun e => f.fin.k.cells_ne f.x7 (Option.some.inj e).symm), g_own f.g hg (fun g e => .inr (Option.some.inj e).symm)⟩
theorem Fnd.set (f : Fnd w W B p b1 b2 b3 h S n K cm cb v e) (hl : p < w.heap.size ∧ b1 < w.heap.size ∧ b2 < w.heap.size ∧ b3 < w.heap.size) (e' : Fd) : Fnd w (W.setRow (w.heap.size + 1) #[.int .i64 e'.p, .int .i64 e'.e]) B p b1 b2 b3 h S n K cm cb v e' := by
  have hg := g_row W (w.heap.size + 1) #[.int .i64 e'.p, .int .i64 e'.e]
  exact ⟨f.fin.new hg hl (fun g e => by have := Option.some.inj e; omega), f.own.kept hg (.inr (own_blk_ne f.own f.x7 (by decide))), f.x5.rowFar (by omega) _, f.x7.row _, g_own f.g hg (fun g e => .inl (by have := Option.some.inj e; omega))⟩
theorem Fnd.re (f : Fnd w W B p b1 b2 b3 h S n K cm cb v e) {e' : Fd} (he : e = e') : Fnd w W B p b1 b2 b3 h S n K cm cb v e' := by subst he; exact f
end
/-- at the head of the first loop -/
def Head (w W : World) (B p b1 b2 b3 : Nat) (h : Hd) (S : So) (n : Nat) (K : Key → Option Fd) (nm0 : ByteArray) (v1 v6 v8 : Value) : Prop :=
  ∃ (cb : List ByteArray) (b : ByteArray), v1 = .string b ∧ v8 = .bool (over K (keys cb) ⟨0, 9⟩ (key b)).isSome ∧ b.size ≤ maxLen ∧ (∀ s ∈ cb, s.size ≤ maxLen) ∧ Goes (net S) (key nm0) (keys cb) (key b) ∧ (keys cb).Nodup ∧
    Fnd w W B p b1 b2 b3 h S n K cb cb v6 ((over K (keys cb) ⟨0, 9⟩ (key b)).getD ⟨0, 0⟩)
/-- behind the first loop -/
def Mid (w W : World) (B p b1 b2 b3 : Nat) (h : Hd) (S : So) (n : Nat) (K : Key → Option Fd) (nm0 : ByteArray) (v6 : Value) : Prop :=
  ∃ (cb : List ByteArray), (∀ s ∈ cb, s.size ≤ maxLen) ∧ (∀ x ∈ keys cb, lead (net S) x = lead (net S) (key nm0)) ∧ cb.length ≤ h.ln + 1 ∧ ((∀ x, K x = none) → Chain_ (net S) (key nm0) (keys cb) False) ∧
    Fnd w W B p b1 b2 b3 h S n K cb cb v6 (lead (net S) (key nm0))
theorem s17_mk {w W : World} {p b1 b2 b3 : Nat} {h : Hd} {L : Fd} (x : Blk W p 91 #[.slice h.lA h.ln h.lc, .map (some b1), .map (some b2), .map (some b3)]) (y : Blk W (w.heap.size + 1) 66 #[.int .i64 L.p, .int .i64 L.e]) : Blk W p 91 #[.slice h.lA h.ln h.lc, .map (some b1), .map (some b2), .map (some b3)] ∧ W.cell? ⟨p, 3, none⟩ = some (.map (some b3)) ∧ Blk W (w.heap.size + 1) 66 #[.int .i64 L.p, .int .i64 L.e] ∧ W.cell? ⟨w.heap.size + 1, 0, none⟩ = some (.int .i64 L.p) ∧ W.cell? ⟨w.heap.size + 1, 1, none⟩ = some (.int .i64 L.e) := ⟨x, x.cell 3, y, y.cell 0, y.cell 1⟩
theorem s19_mk {w W : World} {L : Fd} (y : Blk W (w.heap.size + 1) 66 #[.int .i64 L.p, .int .i64 L.e]) : Blk W (w.heap.size + 1) 66 #[.int .i64 L.p, .int .i64 L.e] ∧ W.cell? ⟨w.heap.size + 1, 0, none⟩ = some (.int .i64 L.p) ∧ W.cell? ⟨w.heap.size + 1, 1, none⟩ = some (.int .i64 L.e) := ⟨y, y.cell 0, y.cell 1⟩
def lenOf : Value → Nat
  | .slice _ n _ => n
  | _ => 0
theorem known_v (K : Key → Option Fd) (s : Key) : (fdM K s).getD (.agg #[.int .i64 0, .int .i64 0]) = fdV ((K s).getD ⟨0, 0⟩) := by unfold fdM; cases K s <;> rfl
theorem known_c (K : Key → Option Fd) (s : Key) : (fdM K s).isSome = (K s).isSome := by unfold fdM; cases K s <;> rfl
set_option maxRecDepth 100000 in
set_option maxHeartbeats 12800000 in
theorem find_any (nm0 : ByteArray) (B p b1 b2 b3 n : Nat) (h : Hd) (S : So) (Kn : Key → Option Fd) (w : World) (hF : Fin w B p b1 b2 b3 h S n Kn) (hS : SoR w B h S) (hB : B ≤ w.heap.size) (hK : Right (net S) Kn) (hz0 : nm0.size ≤ maxLen) (hn : n ≤ 100000) (hln : h.ln ≤ 100000) :
    Calls Tryd.prog 20 #[.pointer (some ⟨p, 0, none⟩), .string nm0] w fun e W' => ∃ (cb : List ByteArray) (v : Value) (Kn' : Key → Option Fd) (n' : Nat), e = .returned (.tuple #[v, fdV (lead (net S) (key nm0))]) ∧ W'.ownsRow w.heap.size 9 1 v cb.length (stV cb) ∧ Fin W' B p b1 b2 b3 h S n' Kn' ∧
      n' ≤ n + (2 * h.ln + 2) ∧ Right (net S) Kn' ∧ ((∀ x, Kn x = none) → Chain_ (net S) (key nm0) (keys cb) False) ∧ (∀ s ∈ cb, s.size ≤ maxLen) ∧ w.grownBy W' (some b3) := by
  have hl0 := hF.lt
  have f1 := hF.alloc (.cells #[.int .i64 0, .int .i64 0] 66)
  have x1 := Blk.new w 66 #[.int .i64 0, .int .i64 0]
  have f2 := fun (e : Fd) => f1.alloc (.cells #[.int .i64 e.p, .int .i64 e.e] 66)
  have x2 := fun (e : Fd) => x1.alloc (.cells #[.int .i64 e.p, .int .i64 e.e] 66)
  have y2 := fun (e : Fd) => blk_at (w.alloc (.cells #[.int .i64 0, .int .i64 0] 66)) 66 #[.int .i64 e.p, .int .i64 e.e] (sz1 _ _ rfl)
  have g2 := fun (e : Fd) => g_alloc (g_alloc (World.grownBy.refl w (some b3)) (.cells #[.int .i64 0, .int .i64 0] 66)) (.cells #[.int .i64 e.p, .int .i64 e.e] 66)
  have c3 := f1.c3
  obtain ⟨i0, hi0, hz1, hz2, hz3⟩ := info_parts info_str
  have HI := Lib.hid hi0; clear hi0
  go_enter Tryd.func20, Tryd.ntmps20
  go_upto_block 0 with (first | (at_lookup; refine wpList_look _ rfl _ _ 89 rfl 9 66 Tryd.underlying9 Tryd.underlying89 _ (zero_fnd _) b3 n (fdM Kn) rfl f1.k nm0 rfl hz0 (fdV ((Kn (key nm0)).getD ⟨0, 0⟩)) (Kn (key nm0)).isSome (known_v Kn _) (known_c Kn _) ?_) | refine wpList_store_new rfl 66 _ _ rfl rfl (w.heap.size + 1) #[.int .i64 ((Kn (key nm0)).getD ⟨0, 0⟩).p, .int .i64 ((Kn (key nm0)).getD ⟨0, 0⟩).e] rfl rfl _ #[.int .i64 0, .int .i64 0] (w.alloc (.cells #[.int .i64 0, .int .i64 0] 66)) rfl (sz1 _ _ rfl).symm rfl (by kernel_rfl) (by kernel_rfl) ?_)
  have F0 : Fnd w ((w.alloc (.cells #[.int .i64 0, .int .i64 0] 66)).alloc (.cells #[.int .i64 ((Kn (key nm0)).getD ⟨0, 0⟩).p, .int .i64 ((Kn (key nm0)).getD ⟨0, 0⟩).e] 66)) B p b1 b2 b3 h S n Kn [] [] (.slice none 0 0) ((Kn (key nm0)).getD ⟨0, 0⟩) :=
    ⟨by rw [show keys [] = [] from rfl, over_nil]; exact f2 _, World.ownsRow_nil _ _ _ _, x2 _, y2 _, g2 _⟩
  clear f1 x1 f2 x2 y2 g2 c3
  generalize (w.alloc (.cells #[.int .i64 0, .int .i64 0] 66)).alloc (.cells #[.int .i64 ((Kn (key nm0)).getD ⟨0, 0⟩).p, .int .i64 ((Kn (key nm0)).getD ⟨0, 0⟩).e] 66) = W0 at *
  go_cut [1, 6, 8, 9, 10, 11, 12] (fun (v1 v6 v8 v9 v10 v11 v12 : Value) (wx : World) => Mid w wx B p b1 b2 b3 h S n Kn nm0 v6)
  case first =>
    go_wp2_with fail
    go_loopw [1, 6, 8] (fun v1 v6 v8 wr => Head w wr B p b1 b2 b3 h S n Kn nm0 v1 v6 v8) (fun _ v6 _ _ => h.ln + 1 - lenOf v6)
    case atStart => exact ⟨[], nm0, rfl, by rw [show keys [] = [] from rfl, over_nil], hz0, fun s hs => absurd hs List.not_mem_nil, Goes.nil _, List.nodup_nil, by rw [show keys [] = [] from rfl, over_nil]; exact F0⟩
    case round =>
      clear F0
      obtain ⟨cb, b, rfl, h8, hbz, hcz, hgo, hnd, hf⟩ := hrel
      have hlen : cb.length ≤ h.ln := by
        have := hgo.len hnd
        unfold keys net at this
        simp only [List.length_map] at this
        rw [hS.l.len] at this; exact this
      have HGO := Lib.hid hgo; have HND := Lib.hid hnd; have HCZ := Lib.hid hcz
      clear hgo hnd hcz
      cases hov : over Kn (keys cb) ⟨0, 9⟩ (key b) with
      | some e =>
        rw [hov] at h8 hf
        simp only [Option.isSome_some] at h8
        subst h8
        have he := known_end hK HGO.out hov
        have hend := he.trans HGO.out.lead.symm
        have HR := Lib.hid (show Mid w wr B p b1 b2 b3 h S n Kn nm0 _ from ⟨cb, HCZ.out, fun x hx => (HGO.out.all hx).trans HGO.out.lead.symm, by omega, fun hn => chain_known hK HGO.out HND.out hov hn, hf.re hend⟩)
        clear he hend hov hf HGO HND HCZ
        go_wp2_with fail
        go_meet
        exact HR.out
      | none =>
        rw [hov] at h8 hf
        simp only [Option.isSome_none, Option.getD_none] at h8 hf
        subst h8
        obtain ⟨A6, c6, rfl⟩ := own_slice hf.own
        have hbn : key b ∉ keys cb := fun hm => by unfold over at hov; rw [if_pos hm] at hov; cases hov
        have HBN := Lib.hid hbn; have HOV := Lib.hid hov
        clear hbn hov
        go_upto_region 5 with (at_builtin; refine wpList_append_own _ rfl _ _ 40 rfl w.heap.size 9 i0 (.string ByteArray.empty) 1 16 Tryd.underlying40 HI.out hz1 hz2 hz3 rfl (by decide) _ _ _ rfl (hf.own.alloc _) ⟨wr.heap.size, 0, none⟩ 1 1 [.string b] rfl rfl (cell_one_new _ _ _) (by simp [Value.oneCell']) (by unfold maxLen; omega) (by omega) (by have := hf.g.size; simp; omega) ?_; intro v1 w1 hown1 hg1 _)
        have f1 := hf.app hl0 b _ hown1 hg1
        have c3 := f1.fin.c3
        clear hown1 hg1 hf
        go_upto_region 6 with (at_mapUpdate; refine wpList_mput _ rfl _ _ _ 89 rfl 9 66 Tryd.underlying9 Tryd.underlying89 b3 (n + cb.length) _ rfl f1.fin.k (by unfold maxLen; omega) b rfl hbz _ rfl ?_; intro w2 hk2 hg2)
        have f2 := f1.put b hk2 hg2
        have c1 := f2.fin.c1
        have d2 := f2.fin.c2
        have d3 := f2.fin.c3
        have d0 := f2.fin.c0
        clear hk2 hg2 f1 c3
        have hmz := hS.zm; have hml := hS.lm
        have e7 := f2.x7
        cases hz : zAt (net S) (key b) with
        | some z =>
          have hgo2 := HGO.out
          have hend : (⟨(z : Nat), 0⟩ : Fd) = lead (net S) (key nm0) := (lead_z _ hz).symm.trans hgo2.lead.symm
          have HR := fun W (f : Fnd w W B p b1 b2 b3 h S n Kn (cb ++ [b]) (cb ++ [b]) v1 ⟨(z : Nat), 0⟩) => (show Mid w W B p b1 b2 b3 h S n Kn nm0 v1 from ⟨cb ++ [b], fun s hs => (by
            rcases List.mem_append.1 hs with q | q
            · exact HCZ.out s q
            · rw [List.mem_singleton.1 q]; exact hbz), fun x hx => by rw [keys_snoc] at hx; exact (chain_zone hgo2 HND.out hz).all x hx, by rw [List.length_append, List.length_singleton]; omega, fun hn => by rw [keys_snoc]; exact chain_zone hgo2 HND.out hz, f.re hend⟩)
          have HR2 := Lib.hid (HR _ (f2.set hl0 ⟨(z : Nat), 0⟩)); clear HR
          have hv : plM (znames S) (key b) = some (.int .i64 (z : Nat)) := by unfold plM; rw [show fst_ (znames S) (key b) = some z from hz]; rfl
          clear hz hend hgo2
          go_wp2_with (first | (at_lookup; refine wpList_look_yes _ rfl _ _ 79 rfl 9 3 Tryd.underlying9 Tryd.underlying79 _ (zero_int _) b1 h.zn _ rfl f2.fin.z b rfl hbz _ hv ?_) | refine wpList_store_g rfl 66 _ _ rfl rfl (w.heap.size + 1) 0 #[.int .i64 (z : Nat), .int .i64 0] #[.int .i64 (z : Nat), .int .i64 0] rfl rfl _ _ e7 (by show 0 + 2 ≤ 2; decide) (by kernel_rfl) (by kernel_rfl) (by kernel_rfl) ?_)
          go_meet
          exact HR2.out
        | none =>
          have hvz : plM (znames S) (key b) = none := by unfold plM; rw [show fst_ (znames S) (key b) = none from hz]; rfl
          cases hl : lAt (net S) (key b) with
          | none =>
            have hvl : plM (lnames S) (key b) = none := by unfold plM; rw [← net_names, show fst_ ((net S).ls.map (·.2)) (key b) = none from hl]; rfl
            have hgo2 := HGO.out
            have hnx := nxt_none (net S) hl
            have hend : (⟨0, 3⟩ : Fd) = lead (net S) (key nm0) := (lead_none _ hz hnx).symm.trans hgo2.lead.symm
            have HR := fun W (f : Fnd w W B p b1 b2 b3 h S n Kn (cb ++ [b]) (cb ++ [b]) v1 ⟨0, 3⟩) => (show Mid w W B p b1 b2 b3 h S n Kn nm0 v1 from ⟨cb ++ [b], fun s hs => (by
              rcases List.mem_append.1 hs with q | q
              · exact HCZ.out s q
              · rw [List.mem_singleton.1 q]; exact hbz), fun x hx => by rw [keys_snoc] at hx; exact (chain_none hgo2 HND.out hz hnx).all x hx, by rw [List.length_append, List.length_singleton]; omega, fun hn => by rw [keys_snoc]; exact chain_none hgo2 HND.out hz hnx, f.re hend⟩)
            have HR2 := Lib.hid (HR _ (f2.set hl0 ⟨0, 3⟩)); clear HR
            clear hz hl hend hgo2 hnx
            go_wp2_with (first | (at_lookup; refine wpList_look_no _ rfl _ _ 79 rfl 9 3 Tryd.underlying9 Tryd.underlying79 _ (zero_int _) b1 h.zn _ rfl f2.fin.z b rfl hbz hvz ?_) | (at_lookup; refine wpList_look_no _ rfl _ _ 79 rfl 9 3 Tryd.underlying9 Tryd.underlying79 _ (zero_int _) b2 h.ln _ rfl f2.fin.l b rfl hbz hvl ?_) | refine wpList_store_g rfl 66 _ _ rfl rfl (w.heap.size + 1) 0 #[.int .i64 0, .int .i64 3] #[.int .i64 0, .int .i64 3] rfl rfl _ _ e7 (by show 0 + 2 ≤ 2; decide) (by kernel_rfl) (by kernel_rfl) (by kernel_rfl) ?_)
            go_meet
            exact HR2.out
          | some i =>
            have hvl : plM (lnames S) (key b) = some (.int .i64 (i : Nat)) := by unfold plM; rw [← net_names, show fst_ ((net S).ls.map (·.2)) (key b) = some i from hl]; rfl
            have hi : i < h.ln := by
              have := fst_lt hl
              rw [net_names] at this
              unfold lnames at this
              rw [List.length_map, hS.l.len] at this; exact this
            have hiS : i < S.ls.length := by rw [hS.l.len]; exact hi
            have hnx : nxt (net S) (key b) = some (key (li_ S.ls i).tg) := nxt_of _ hl (key (li_ S.ls i).tg, key (li_ S.ls i).nm) (by show (S.ls.map _)[i]? = _; rw [List.getElem?_map, getD_at Li.nil hiS]; rfl)
            have hgo3 := HGO.out.snoc hz hnx
            have hnd3 : (keys cb ++ [key b]).Nodup := List.nodup_append.2 ⟨HND.out, by simp, fun x hx y hy => by rw [List.mem_singleton.1 hy]; exact fun e => HBN.out (e ▸ hx)⟩
            have htz : (li_ S.ls i).tg.size ≤ maxLen := (hS.lb _ (getD_mem Li.nil hiS)).1
            have hcz3 : ∀ s ∈ cb ++ [b], s.size ≤ maxLen := fun s hs => by
              rcases List.mem_append.1 hs with q | q
              · exact HCZ.out s q
              · rw [List.mem_singleton.1 q]; exact hbz
            rw [← keys_snoc] at hgo3 hnd3
            have hS2 := hS.below (below_g f2.g hB (by have := hF.ge; omega))
            obtain ⟨ad, e0, hr⟩ := hS2.l.row (fun _ => rfl) Li.nil hi
            rw [e0] at d0
            clear e0
            have r1 := row_c0 hr (v := .string (li_ S.ls i).tg) rfl
            clear hr
            have hi' : (i : Int) < (h.ln : Int) := by omega
            unfold maxLen at hml
            generalize li_ S.ls i = lk at *
            obtain ⟨tg, lnm⟩ := lk
            dsimp only at r1 htz hgo3 hnx
            obtain ⟨en, hen⟩ : ∃ en, en = (over Kn (keys (cb ++ [b])) ⟨0, 9⟩ (key tg)).getD ⟨0, 0⟩ := ⟨_, rfl⟩
            obtain ⟨ok, hok⟩ : ∃ ok, ok = (over Kn (keys (cb ++ [b])) ⟨0, 9⟩ (key tg)).isSome := ⟨_, rfl⟩
            have HKV := Lib.hid (show (fdM (over Kn (keys (cb ++ [b])) ⟨0, 9⟩) (key tg)).getD (.agg #[.int .i64 0, .int .i64 0]) = fdV en by rw [hen]; exact known_v _ _)
            have HKC := Lib.hid (show (fdM (over Kn (keys (cb ++ [b])) ⟨0, 9⟩) (key tg)).isSome = ok by rw [hok]; exact known_c _ _)
            have HR := Lib.hid (show ∀ W, Fnd w W B p b1 b2 b3 h S n Kn (cb ++ [b]) (cb ++ [b]) v1 en → Head w W B p b1 b2 b3 h S n Kn nm0 (.string tg) v1 (.bool ok) from fun W f => ⟨cb ++ [b], tg, rfl, by rw [hok], htz, hcz3, hgo3, hnd3, f.re hen⟩)
            have HF3 := Lib.hid (f2.set hl0 en)
            clear hen hok
            clear hz hl hnx hgo3 hnd3 hcz3 hS2
            go_wp2_with (first | (at_lookup; refine wpList_look_no _ rfl _ _ 79 rfl 9 3 Tryd.underlying9 Tryd.underlying79 _ (zero_int _) b1 h.zn _ rfl f2.fin.z b rfl hbz hvz ?_) | (at_lookup; refine wpList_look_yes _ rfl _ _ 79 rfl 9 3 Tryd.underlying9 Tryd.underlying79 _ (zero_int _) b2 h.ln _ rfl f2.fin.l b rfl hbz _ hvl ?_) | (at_lookup; refine wpList_look _ rfl _ _ 89 rfl 9 66 Tryd.underlying9 Tryd.underlying89 _ (zero_fnd _) b3 _ _ rfl f2.fin.k tg rfl htz _ _ HKV.out HKC.out ?_) | refine wpList_store_g rfl 66 _ _ rfl rfl (w.heap.size + 1) 0 #[.int .i64 en.p, .int .i64 en.e] #[.int .i64 en.p, .int .i64 en.e] rfl rfl _ _ e7 (by show 0 + 2 ≤ 2; decide) (by kernel_rfl) (by kernel_rfl) (by kernel_rfl) ?_)
            obtain ⟨A7, c7, rfl⟩ := own_slice HF3.out.own
            go_roundw
            case rel => exact HR.out _ HF3.out
            case measure => simp [lenOf]; omega
  case rest =>
    clear F0
    obtain ⟨cb, hcz, hall, hcl, hch, hf⟩ := hcut
    obtain ⟨W1, rfl⟩ : ∃ W1 : World, W1 = wc := ⟨_, rfl⟩
    obtain ⟨A6, c6, rfl⟩ := own_slice hf.own
    have HCZ := Lib.hid hcz; have HALL := Lib.hid hall; have HCH := Lib.hid hch
    obtain ⟨L, hL⟩ : ∃ L, L = lead (net S) (key nm0) := ⟨_, rfl⟩
    rw [← hL] at hf
    have HFL := Lib.hid hL
    clear hcz hall hch hL
    have e5 := hf.x5; have e7 := hf.x7; have efi := hf.fin; have eow := hf.own; have eg := hf.g
    have hlb : (cb.length : Int) ≤ 100001 := by omega
    clear hf
    go_wp2_with fail
    go_loopw [79] (fun i wr => ∃ k : Nat, i = .int .i64 k ∧ k ≤ cb.length ∧ Fin wr B p b1 b2 b3 h S (n + cb.length + k) (over (over Kn (keys cb) ⟨0, 9⟩) (keys (cb.take k)) L) ∧ wr.ownsRow w.heap.size 9 1 (.slice A6 cb.length c6) cb.length (stV cb) ∧
      Blk wr w.heap.size 66 #[.int .i64 0, .int .i64 0] ∧ Blk wr (w.heap.size + 1) 66 #[.int .i64 L.p, .int .i64 L.e] ∧ w.grownBy wr (some b3)) (fun i _ => cb.length - (intOf i).toNat)
    case atStart => exact ⟨0, rfl, Nat.zero_le _, by rw [show keys (cb.take 0) = [] from rfl, over_nil]; exact efi, eow, e5, e7, eg⟩
    case round =>
      clear e5 e7 efi eow eg
      obtain ⟨k, rfl, hk, hfi, how, h5, h7, hg⟩ := hrel
      by_cases hlt : k < cb.length
      · have hlt' : (k : Int) < (cb.length : Int) := by omega
        have hr := Reads.of_own how
        obtain ⟨ad, u, rfl, _, hu, hc⟩ := hr.at_ hlt
        rw [List.getElem?_map, getD_at ByteArray.empty hlt] at hu
        obtain rfl := Option.some.inj hu
        have htk := Lib.hid (getD_take ByteArray.empty hlt)
        have hbz := HCZ.out _ (getD_mem ByteArray.empty hlt)
        clear hu hr
        generalize cb.getD k ByteArray.empty = b at *
        go_upto_region 17 with fail
        obtain ⟨V0, rfl⟩ : ∃ V0 : World, V0 = wr := ⟨_, rfl⟩
        have fi0 : Fin V0.drew B p b1 b2 b3 h S (n + cb.length + k) (over (over Kn (keys cb) ⟨0, 9⟩) (keys (cb.take k)) L) := hfi.drew
        have ow0 : V0.drew.ownsRow w.heap.size 9 1 (.slice (some ad) cb.length c6) cb.length (stV cb) := how
        have x50 : Blk V0.drew w.heap.size 66 #[.int .i64 0, .int .i64 0] := h5
        have x70 : Blk V0.drew (w.heap.size + 1) 66 #[.int .i64 L.p, .int .i64 L.e] := h7
        have g0 : w.grownBy V0.drew (some b3) := g_drew hg
        clear hfi how h5 h7 hg hc
        refine wp_region_held_drew (S := fun w' => Blk w' p 91 #[.slice h.lA h.ln h.lc, .map (some b1), .map (some b2), .map (some b3)] ∧ w'.cell? ⟨p, 3, none⟩ = some (.map (some b3)) ∧ Blk w' (w.heap.size + 1) 66 #[.int .i64 L.p, .int .i64 L.e] ∧ w'.cell? ⟨w.heap.size + 1, 0, none⟩ = some (.int .i64 L.p) ∧ w'.cell? ⟨w.heap.size + 1, 1, none⟩ = some (.int .i64 L.e)) (by kernel_rfl) (s17_mk fi0.f x70) (fun hHeld => ?_)
        refine wpAnyH_take (i := 0) (oi := { dst := some 83, op := Op.move (Operand.tmp 0), type := 68, pos := "link.go:75", after := #[], guard := none }) (v := ?_) rfl (by kernel_rfl) (by kernel_rfl) (by kernel_rfl) (fun _ _ _ h => h) (Or.inl ⟨by rfl, ?_⟩) hHeld ?_
        rotate_left
        · intro w hSw
          try dsimp only at hSw
          go_simp
          try with_reducible rfl
        try simp only [Act.put, List.setIfInBounds_toArray, List.set_cons_zero, List.set_cons_succ]
        refine wpAnyH_take (i := 1) (oi := { dst := some 84, op := Op.nilCheck (Operand.tmp 83), type := 0, pos := "link.go:75", after := #[{ on := 0, ground := Ground.data }], guard := none }) (v := ?_) rfl (by kernel_rfl) (by kernel_rfl) (by kernel_rfl) (fun _ _ _ h => h) (Or.inl ⟨by rfl, ?_⟩) hHeld ?_
        rotate_left
        · intro w hSw
          try dsimp only at hSw
          go_simp
          try with_reducible rfl
        try simp only [Act.put, List.setIfInBounds_toArray, List.set_cons_zero, List.set_cons_succ]
        refine wpAnyH_take (i := 2) (oi := { dst := some 85, op := Op.fieldAddr 91 (Operand.tmp 84) 3, type := 0, pos := "link.go:75", after := #[{ on := 1, ground := Ground.data }], guard := none }) (v := ?_) rfl (by kernel_rfl) (by kernel_rfl) (by kernel_rfl) (fun _ _ _ h => h) (Or.inl ⟨by rfl, ?_⟩) hHeld ?_
        rotate_left
        · intro w hSw
          try dsimp only at hSw
          go_simp
          try with_reducible rfl
        try simp only [Act.put, List.setIfInBounds_toArray, List.set_cons_zero, List.set_cons_succ]
        refine wpAnyH_take (i := 3) (oi := { dst := some 86, op := Op.load 89 (Operand.tmp 85), type := 89, pos := "link.go:75", after := #[{ on := 2, ground := Ground.data }], guard := none }) (v := ?_) rfl (by kernel_rfl) (by kernel_rfl) (by kernel_rfl) (fun _ _ _ h => h) (Or.inl ⟨by rfl, ?_⟩) hHeld ?_
        rotate_left
        · intro w hSw
          try dsimp only at hSw
          go_simp
          try with_reducible rfl
        try simp only [Act.put, List.setIfInBounds_toArray, List.set_cons_zero, List.set_cons_succ]
        refine wpAnyH_take (i := 4) (oi := { dst := some 87, op := Op.move (Operand.tmp 14), type := 9, pos := "link.go:75", after := #[], guard := none }) (v := ?_) rfl (by kernel_rfl) (by kernel_rfl) (by kernel_rfl) (fun _ _ _ h => h) (Or.inl ⟨by rfl, ?_⟩) hHeld ?_
        rotate_left
        · intro w hSw
          try dsimp only at hSw
          go_simp
          try with_reducible rfl
        try simp only [Act.put, List.setIfInBounds_toArray, List.set_cons_zero, List.set_cons_succ]
        refine wpAnyH_take (i := 5) (oi := { dst := some 88, op := Op.load 66 (Operand.tmp 7), type := 66, pos := "link.go:75", after := #[], guard := none }) (v := ?_) rfl (by kernel_rfl) (by kernel_rfl) (by kernel_rfl) (fun _ _ _ h => h) (Or.inl ⟨by rfl, ?_⟩) hHeld ?_
        rotate_left
        · intro w hSw
          try dsimp only at hSw
          go_simp
          try with_reducible rfl
        try simp only [Act.put, List.setIfInBounds_toArray, List.set_cons_zero, List.set_cons_succ]
        refine wpAnyH_ready (rs := [6]) (by kernel_rfl) (by simp) ?_
        refine AllReadyH.cons (o := { dst := none, op := Op.mapUpdate 89 (Operand.tmp 86) (Operand.tmp 87) (Operand.tmp 88), type := 0, pos := "link.go:75", after := #[{ on := 3, ground := Ground.data }, { on := 4, ground := Ground.data }, { on := 5, ground := Ground.data }, { on := 0, ground := Ground.phase }, { on := 1, ground := Ground.phase }, { on := 2, ground := Ground.phase }, { on := 3, ground := Ground.phase }, { on := 4, ground := Ground.phase }, { on := 5, ground := Ground.phase }], guard := none }) rfl (fun K hK => ?_) (AllReadyH.nil)
        refine wp_mput _ _ _ _ 89 rfl 9 66 Tryd.underlying9 Tryd.underlying89 b3 (n + cb.length + k) _ rfl fi0.k (by unfold maxLen; omega) b rfl hbz (fdV L) rfl ?_
        intro w_1 hk_1 hg_1
        have fi_1 : Fin w_1 B p b1 b2 b3 h S (n + cb.length + (k + 1)) (over (over Kn (keys cb) ⟨0, 9⟩) (keys (cb.take (k + 1))) L) := fi0.put (by rw [fdM_over_put, ← keys_snoc, ← htk.out] at hk_1; exact hk_1) hg_1
        have ow_1 := ow0.kept hg_1 (.inr (fun e => own_map_ne ow0 fi0.k e.symm))
        have x5_1 := x50.grown hg_1 (fun e => fi0.k.cells_ne x50 (Option.some.inj e).symm); have x7_1 := x70.grown hg_1 (fun e => fi0.k.cells_ne x70 (Option.some.inj e).symm)
        have gg_1 := g_own g0 hg_1 (fun g e => .inr (Option.some.inj e).symm)
        refine hK.out _ _ (s17_mk fi_1.f x7_1) (fun hHeld2 => ?_)
        clear hK K hHeld; have hHeld := hHeld2; clear hHeld2
        try simp only [Act.put, List.setIfInBounds_toArray, List.set_cons_zero, List.set_cons_succ]
        refine wpAnyH_done (by kernel_rfl) ?_ _
        clear hHeld
        go_wp2_with fail
        go_roundw
        case rel => exact ⟨k + 1, by go_num, by omega, fi_1, ow_1, x5_1, x7_1, gg_1⟩
        case measure => simp [intOf]; omega
      · obtain rfl : k = cb.length := by omega
        rw [List.take_length] at hfi
        have hRK : Right (net S) (over (over Kn (keys cb) ⟨0, 9⟩) (keys cb) L) := by
          intro x f hx
          unfold over at hx
          by_cases q : x ∈ keys cb
          · rw [if_pos q] at hx; cases hx; rw [HFL.out]; exact (HALL.out x q).symm
          · rw [if_neg q, if_neg q] at hx; exact hK x f hx
        have HRK := Lib.hid hRK
        clear hRK
        have hlt' : ¬ (cb.length : Int) < (cb.length : Int) := by omega
        go_upto_region 19 with fail
        obtain ⟨V0, rfl⟩ : ∃ V0 : World, V0 = wr := ⟨_, rfl⟩
        have fi0 : Fin V0.drew B p b1 b2 b3 h S (n + cb.length + cb.length) (over (over Kn (keys cb) ⟨0, 9⟩) (keys cb) L) := hfi.drew
        have ow0 : V0.drew.ownsRow w.heap.size 9 1 (.slice A6 cb.length c6) cb.length (stV cb) := how
        have x50 : Blk V0.drew w.heap.size 66 #[.int .i64 0, .int .i64 0] := h5
        have x70 : Blk V0.drew (w.heap.size + 1) 66 #[.int .i64 L.p, .int .i64 L.e] := h7
        have g0 : w.grownBy V0.drew (some b3) := g_drew hg
        clear hfi how h5 h7 hg
        refine wp_region_held_drew (S := fun w' => Blk w' (w.heap.size + 1) 66 #[.int .i64 L.p, .int .i64 L.e] ∧ w'.cell? ⟨w.heap.size + 1, 0, none⟩ = some (.int .i64 L.p) ∧ w'.cell? ⟨w.heap.size + 1, 1, none⟩ = some (.int .i64 L.e)) (by kernel_rfl) (s19_mk x70) (fun hHeld => ?_)
        refine wpAnyH_take (i := 0) (oi := { dst := some 90, op := Op.move (Operand.tmp 6), type := 40, pos := "link.go:77", after := #[], guard := none }) (v := ?_) rfl (by kernel_rfl) (by kernel_rfl) (by kernel_rfl) (fun _ _ _ h => h) (Or.inl ⟨by rfl, ?_⟩) hHeld ?_
        rotate_left
        · intro w hSw
          try dsimp only at hSw
          go_simp
          try with_reducible rfl
        try simp only [Act.put, List.setIfInBounds_toArray, List.set_cons_zero, List.set_cons_succ]
        refine wpAnyH_take (i := 1) (oi := { dst := some 91, op := Op.load 66 (Operand.tmp 7), type := 66, pos := "link.go:77", after := #[{ on := 2, ground := Ground.gcOnly Departure.lateStores }], guard := none }) (v := ?_) rfl (by kernel_rfl) (by kernel_rfl) (by kernel_rfl) (fun _ _ _ h => h) (Or.inl ⟨by rfl, ?_⟩) hHeld ?_
        rotate_left
        · intro w hSw
          try dsimp only at hSw
          go_simp
          try with_reducible rfl
        try simp only [Act.put, List.setIfInBounds_toArray, List.set_cons_zero, List.set_cons_succ]
        refine wpAnyH_take (i := 2) (oi := { dst := some 4, op := Op.assign (Operand.tmp 90), type := 40, pos := "link.go:77", after := #[{ on := 0, ground := Ground.data }, { on := 0, ground := Ground.phase }, { on := 1, ground := Ground.textOnly Departure.lateStores }], guard := none }) (v := ?_) rfl (by kernel_rfl) (by kernel_rfl) (by kernel_rfl) (fun _ _ _ h => h) (Or.inl ⟨by rfl, ?_⟩) hHeld ?_
        rotate_left
        · intro w hSw
          try dsimp only at hSw
          go_simp
          try with_reducible rfl
        try simp only [Act.put, List.setIfInBounds_toArray, List.set_cons_zero, List.set_cons_succ]
        refine wpAnyH_ready (rs := [3]) (by kernel_rfl) (by simp) ?_
        refine AllReadyH.cons (o := { dst := none, op := Op.store 66 (Operand.tmp 5) (Operand.tmp 91), type := 0, pos := "link.go:77", after := #[{ on := 1, ground := Ground.data }, { on := 2, ground := Ground.chain }, { on := 0, ground := Ground.phase }, { on := 1, ground := Ground.phase }, { on := 2, ground := Ground.phase }], guard := none }) rfl (fun K hK => ?_) (AllReadyH.nil)
        have c5_0 : V0.drew.cell? ⟨w.heap.size, 0, none⟩ = some (.int .i64 0) := x50.cell 0; have c5_1 : V0.drew.cell? ⟨w.heap.size, 1, none⟩ = some (.int .i64 0) := x50.cell 1
        refine wp_store_g 66 _ _ rfl rfl w.heap.size 0 #[.int .i64 L.p, .int .i64 L.e] #[.int .i64 L.p, .int .i64 L.e] rfl rfl _ _ x50 (by show 0 + 2 ≤ 2; decide) (by kernel_rfl) (by kernel_rfl) (by kernel_rfl) ?_
        have q_1 := g_row V0.drew w.heap.size #[.int .i64 L.p, .int .i64 L.e]
        have fi_1 := fi0.new q_1 hl0 (fun g e => by have := Option.some.inj e; omega)
        have ow_1 := ow0.kept q_1 (.inr (own_blk_ne ow0 x50 (by decide)))
        have x7_1 := x70.rowFar (show w.heap.size + 1 ≠ w.heap.size by omega) #[.int .i64 L.p, .int .i64 L.e]; have x5_1 := x50.row #[.int .i64 L.p, .int .i64 L.e]
        have gg_1 := g_own g0 q_1 (fun g e => .inl (by have := Option.some.inj e; omega))
        refine hK.out _ _ (s19_mk x7_1) (fun hHeld2 => ?_)
        clear hK K hHeld; have hHeld := hHeld2; clear hHeld2
        try simp only [Act.put, List.setIfInBounds_toArray, List.set_cons_zero, List.set_cons_succ]
        refine wpAnyH_done (by kernel_rfl) ?_ _
        clear hHeld
        have r0 := x5_1.cell 0; have r1 := x5_1.cell 1
        go_wp2_with fail
        refine bodyPost_ret (v := .tuple #[.slice A6 cb.length c6, fdV L]) (by simp [results, Tryd.results20, go_sem, r0, r1]) rfl ?_
        exact ⟨cb, _, by rw [HFL.out], ow_1, _, _, fi_1, by omega, HRK.out, HCH.out, HCZ.out, gg_1⟩
end Go.Proofs.YtnoaeejdcdeanaaDoor.Lk
