/- The words of this seat's walks: slices of words that are read (Rd), rows of the call's own (Ow), and what keeps them. -/
import Derived.Test.YthjpkichpkomcaaGreatDoorProg
import Derived.Below
import Derived.OwnWalk
import Derived.Deep.Draws
import Derived.Laws.OwnMore
import Derived.Laws.MakeOwn
import Derived.Laws.CopyOwn
import Derived.Laws.Slices
import Derived.Laws.Rows
import Derived.WalkKit
import Derived.KernelRfl
import Derived.Test.YthjpkichpkomcaaGreatDoorBig
namespace Go.Proofs.YthjpkichpkomcaaGreatDoor
open Go.RowKit Go.Proofs.YthjpkichpkomcaaGreatDoor.Big

/-- A fact that the walk's simp doesn't look into. -/
structure Asd (p : Prop) : Prop where mk :: (out : p)

theorem info_u32 : (Tryz.prog.info? 125).map (fun i => (i.zero, i.size, i.bytes)) = some (some (.int .u32 0), 1, 4) := by kernel_rfl

theorem cell_move {w w1 : World} {p : Addr} (h : w1.heap[p.block]? = w.heap[p.block]?) : w1.cell? p = w.cell? p := World.cell?_of_block (w := w) h

/-- The world is the old one, some orders having been drawn. -/
def Dn (w w' : World) : Prop := ∃ n, w' = w.drewN n
theorem Dn.refl (w : World) : Dn w w := ⟨0, rfl⟩
theorem Dn.step {w w' : World} (h : Dn w w') (n : Nat) : Dn w (w'.drewN n) := by
  obtain ⟨m, rfl⟩ := h
  exact ⟨m + n, World.drewN_drewN ..⟩
theorem Dn.one {w w' : World} (h : Dn w w') : Dn w w'.drew := h.step 1
theorem Dn.trans {w w1 w2 : World} (h : Dn w w1) (k : Dn w1 w2) : Dn w w2 := by
  obtain ⟨m, rfl⟩ := k
  exact h.step m
theorem below_drewN {B : Nat} {a w : World} (h : Below B a w) (n : Nat) : Below B a (w.drewN n) := ⟨h.os, h.tape, h.output, h.size, h.block⟩
theorem undrew {W w1 : World} (h : Below W.drew.heap.size W.drew w1) : Below W.heap.size W w1 := ⟨h.os, h.tape, h.output, h.size, h.block⟩
theorem undrewN {W w1 : World} {n : Nat} (h : Below (W.drewN n).heap.size (W.drewN n) w1) : Below W.heap.size W w1 := ⟨h.os, h.tape, h.output, h.size, h.block⟩
/-- What a call has left, behind what was there. -/
theorem below_go {w W w1 : World} (h : Below w.heap.size w W) (h1 : Below W.heap.size W w1) : Below w.heap.size w w1 := h.trans (h1.mono h.size)
theorem Dn.below {w w' : World} (h : Dn w w') (B : Nat) : Below B w w' := by
  obtain ⟨m, rfl⟩ := h
  exact below_drewN (Below.refl B w) m

/-- A slice of words that can be read; ok: in which blocks it may lie. -/
def Rd (ok : Nat → Prop) (w : World) (A : Option Addr) (l : List Int) : Prop :=
  Wd l ∧ l.length ≤ 1099511627776 ∧ (0 < l.length → ∃ ad, A = some ad ∧ ok ad.block ∧ ∀ j, j < l.length → w.cell? (ad.add j) = some (.int .u32 (l.getD j 0)))
section
variable {ok ok' : Nat → Prop} {w w1 : World} {A : Option Addr} {l : List Int}
theorem Rd.wd (h : Rd ok w A l) : Wd l := h.1
theorem Rd.len (h : Rd ok w A l) : l.length ≤ 1099511627776 := h.2.1
theorem Rd.nil (ok : Nat → Prop) (w : World) (A : Option Addr) : Rd ok w A [] := ⟨Wd.nil, by simp, fun h => by simp at h⟩
theorem Rd.at_ (h : Rd ok w A l) (i : Nat) (h1 : i < l.length) : ∃ ad, A = some ad ∧ ok ad.block ∧ w.cell? (ad.add i) = some (.int .u32 (l.getD i 0)) := by
  obtain ⟨ad, e, ho, hc⟩ := h.2.2 (by omega)
  exact ⟨ad, e, ho, hc _ h1⟩
theorem Rd.el (h : Rd ok w A l) (i : Nat) (h1 : i < l.length) : ∃ (ad : Addr) (x : Int), A = some ad ∧ ok ad.block ∧ w.cell? (ad.add i) = some (.int .u32 x) ∧ 0 ≤ x ∧ x < 4294967296 ∧ Asd (l.getD i 0 = x) := by
  obtain ⟨ad, e, ho, hc⟩ := h.at_ i h1
  exact ⟨ad, _, e, ho, hc, (h.1.getD i).1, (h.1.getD i).2, ⟨rfl⟩⟩
theorem Rd.cell {ad : Addr} (h : Rd ok w (some ad) l) (i : Nat) (h1 : i < l.length) : w.cell? (ad.add i) = some (.int .u32 (l.getD i 0)) := by
  obtain ⟨ad', e, ho, hc⟩ := h.2.2 (by omega)
  cases e
  exact hc _ h1
theorem Rd.cell_any {ad : Addr} (h : Rd ok w A l) (e : A = some ad) (i : Nat) (h1 : i < l.length) : w.cell? (ad.add i) = some (.int .u32 (l.getD i 0)) := by
  subst e
  exact h.cell i h1
theorem Rd.some_ (h : Rd ok w A l) (h1 : 0 < l.length) : ∃ ad, A = some ad ∧ ok ad.block := by
  obtain ⟨ad, e, ho, hc⟩ := h.2.2 h1
  exact ⟨ad, e, ho⟩
theorem add_block (ad : Addr) (j : Nat) : (ad.add j).block = ad.block := by unfold Addr.add; split <;> rfl
theorem add_add (ad : Addr) (i j : Nat) : (ad.add i).add j = ad.add (i + j) := by
  by_cases hi : i = 0
  · subst hi; simp [Addr.add]
  · by_cases hj : j = 0
    · subst hj; simp [Addr.add]
    · simp [Addr.add, hi, hj, Nat.add_assoc]
/-- The blocks that ok names stay: the slice stays. -/
theorem Rd.move (h : Rd ok w A l) (hm : ∀ k, ok k → k < w.heap.size → w1.heap[k]? = w.heap[k]?) : Rd ok w1 A l := by
  refine ⟨h.1, h.2.1, fun hl => ?_⟩
  obtain ⟨ad, e, ho, hc⟩ := h.2.2 hl
  refine ⟨ad, e, ho, fun j hj => ?_⟩
  have hcj := hc j hj
  have hb := World.block_lt_of_cell? w _ hcj
  rw [add_block] at hb
  rw [cell_move (w := w) (by rw [add_block]; exact hm _ ho hb)]
  exact hcj
theorem Rd.mono (h : Rd ok w A l) (hm : ∀ k, k < w.heap.size → ok k → ok' k) : Rd ok' w A l := by
  refine ⟨h.1, h.2.1, fun hl => ?_⟩
  obtain ⟨ad, e, ho, hc⟩ := h.2.2 hl
  have hb := World.block_lt_of_cell? w _ (hc 0 hl)
  rw [add_block] at hb
  exact ⟨ad, e, hm _ hb ho, hc⟩
theorem Rd.below (h : Rd ok w A l) (hb : Below w.heap.size w w1) : Rd ok w1 A l := h.move (fun k _ hk => hb.block k hk)
theorem Rd.alloc (h : Rd ok w A l) (o : Obj) : Rd ok (w.alloc o) A l := h.move (fun k _ hk => Below.heap_alloc w o k hk)
theorem Rd.drew (h : Rd ok w A l) : Rd ok w.drew A l := h.move (fun _ _ _ => rfl)
theorem Rd.drewN (h : Rd ok w A l) (n : Nat) : Rd ok (w.drewN n) A l := h.move (fun _ _ _ => rfl)
theorem Rd.setCell (h : Rd ok w A l) {p : Addr} (hp : ¬ ok p.block) (u : Value) : Rd ok (w.setCell p u) A l := h.move (fun k ho _ => Below.heap_setCell w p u k (fun e => hp (e ▸ ho)))
theorem Rd.take (h : Rd ok w A l) (n : Nat) : Rd ok w A (l.take n) := by
  refine ⟨h.1.take n, by rw [List.length_take]; have := h.2.1; omega, fun hl => ?_⟩
  rw [List.length_take] at hl
  obtain ⟨ad, e, ho, hc⟩ := h.2.2 (by omega)
  refine ⟨ad, e, ho, fun j hj => ?_⟩
  rw [List.length_take] at hj
  rw [hc j (by omega)]
  simp [List.getD_eq_getElem?_getD, show j < n by omega]
theorem Rd.drop {ad : Addr} (h : Rd ok w (some ad) l) (n : Nat) : Rd ok w (some (ad.add n)) (l.drop n) := by
  refine ⟨h.1.drop n, by rw [List.length_drop]; have := h.2.1; omega, fun hl => ?_⟩
  rw [List.length_drop] at hl
  obtain ⟨ad', e, ho, hc⟩ := h.2.2 (by omega)
  cases e
  refine ⟨_, rfl, by rw [add_block]; exact ho, fun j hj => ?_⟩
  rw [List.length_drop] at hj
  rw [add_add, hc _ (by omega)]
  simp [List.getD_eq_getElem?_getD]
end

/-- A row of words of the call's own: the block g, with room for cap. -/
def Ow (w : World) (g cap : Nat) (l : List Int) : Prop :=
  Wd l ∧ l.length ≤ 1099511627776 ∧ w.ownsRow 0 125 1 (.slice (some ⟨g, 0, none⟩) l.length cap) l.length (l.map (Value.int .u32))
section
variable {ok : Nat → Prop} {w w1 : World} {g cap : Nat} {l : List Int}
theorem add_plain (g j : Nat) : (⟨g, 0, none⟩ : Addr).add j = ⟨g, j, none⟩ := by unfold Addr.add; split <;> simp_all
theorem Ow.wd (h : Ow w g cap l) : Wd l := h.1
theorem Ow.len (h : Ow w g cap l) : l.length ≤ 1099511627776 := h.2.1
theorem Ow.blk (h : Ow w g cap l) : ∃ cur, w.heap[g]? = some (.cells cur 125 (0, 0)) ∧ l.length ≤ cap ∧ cur.size = cap ∧ cur.toList.take l.length = l.map (Value.int .u32) := by
  rcases h.2.2.2 with ⟨h', _⟩ | ⟨g', cap', cur, h', _, hg, hn, _, hs, ht⟩
  · simp at h'
  · simp only [Value.slice.injEq, Option.some.injEq, Addr.mk.injEq, and_true, true_and] at h'
    obtain ⟨rfl, rfl⟩ := h'
    exact ⟨cur, hg, hn, by simpa using hs, by simpa using ht⟩
theorem Ow.room (h : Ow w g cap l) : l.length ≤ cap := by
  obtain ⟨_, _, hc, _⟩ := h.blk
  exact hc
theorem Ow.lt (h : Ow w g cap l) : g < w.heap.size := by
  obtain ⟨cur, hg, _⟩ := h.blk
  exact (Array.getElem?_eq_some_iff.1 hg).1
theorem Ow.cell (h : Ow w g cap l) (j : Nat) (hj : j < l.length) : w.cell? ⟨g, j, none⟩ = some (.int .u32 (l.getD j 0)) := by
  rw [h.2.2.cellAt j (by omega)]
  simp [List.getD_eq_getElem?_getD, hj]
theorem Ow.el (h : Ow w g cap l) (j : Nat) (hj : j < l.length) : ∃ x : Int, w.cell? ⟨g, j, none⟩ = some (.int .u32 x) ∧ 0 ≤ x ∧ x < 4294967296 ∧ Asd (l.getD j 0 = x) := ⟨_, h.cell j hj, (h.1.getD j).1, (h.1.getD j).2, ⟨rfl⟩⟩
theorem Ow.free (h : Ow w g cap l) (j : Nat) : w.frozen? ⟨g, j, none⟩ = false := h.2.2.frozenAt j
theorem Ow.set (h : Ow w g cap l) (j : Nat) {x : Int} (h0 : 0 ≤ x) (h1 : x < 4294967296) : Ow (w.setCell ⟨g, j, none⟩ (.int .u32 x)) g cap (l.set j x) := by
  refine ⟨h.1.set j h0 h1, by rw [List.length_set]; exact h.2.1, ?_⟩
  rw [List.length_set, List.map_set]
  exact (h.2.2.stored j _).1
theorem Ow.move (h : Ow w g cap l) (hm : w1.heap[g]? = w.heap[g]?) : Ow w1 g cap l := by
  refine ⟨h.1, h.2.1, h.2.2.1, ?_⟩
  rcases h.2.2.2 with ⟨h', _⟩ | ⟨g', cap', cur, h', hb, hg, r⟩
  · simp at h'
  · have h'' := h'
    simp only [Value.slice.injEq, Option.some.injEq, Addr.mk.injEq, and_true, true_and] at h''
    obtain ⟨rfl, rfl⟩ := h''
    exact .inr ⟨g, cap, cur, rfl, hb, hm.trans hg, r⟩
theorem Ow.below (h : Ow w g cap l) (hb : Below w.heap.size w w1) : Ow w1 g cap l := h.move (hb.block g h.lt)
theorem Ow.drewN (h : Ow w g cap l) (n : Nat) : Ow (w.drewN n) g cap l := h.move rfl
theorem Ow.alloc (h : Ow w g cap l) (o : Obj) : Ow (w.alloc o) g cap l := h.move (Below.heap_alloc w o g h.lt)
theorem Ow.setCell (h : Ow w g cap l) {p : Addr} (hp : g ≠ p.block) (u : Value) : Ow (w.setCell p u) g cap l := h.move (Below.heap_setCell w p u g hp)
theorem Ow.rd (h : Ow w g cap l) (ho : ok g) : Rd ok w (some ⟨g, 0, none⟩) l := ⟨h.1, h.2.1, fun _ => ⟨_, rfl, ho, fun j hj => by rw [add_plain]; exact h.cell j hj⟩⟩
theorem Ow.of_block (hw : Wd l) (hl : l.length ≤ 1099511627776) (h : w.heap[g]? = some (.cells (l.map (Value.int .u32)).toArray 125 (0, 0))) : Ow w g l.length l :=
  ⟨hw, hl, by simp, .inr ⟨g, l.length, _, rfl, Nat.zero_le _, h, Nat.le_refl _, by simp only [maxLen]; omega, by simp, List.take_of_length_le (by simp)⟩⟩
theorem Ow.whole (h : Ow w g cap l) (hc : cap = l.length) : w.heap[g]? = some (.cells (l.map (Value.int .u32)).toArray 125 (0, 0)) := by
  obtain ⟨cur, hg, _, hs, ht⟩ := h.blk
  rw [List.take_of_length_le (by simp [hs, hc])] at ht
  rw [hg, ← ht]
end

/-- All that stood below reads as before: for the walk. -/
theorem bcell {W w1 : World} (hb : Below W.heap.size W w1) : (∀ b o, b < W.heap.size → w1.cell? ⟨b, o, none⟩ = W.cell? ⟨b, o, none⟩) ∧ (∀ b o, b < W.heap.size → w1.frozen? ⟨b, o, none⟩ = W.frozen? ⟨b, o, none⟩) :=
  ⟨fun b o h => hb.cell (p := ⟨b, o, none⟩) h, fun b o h => hb.frozen (p := ⟨b, o, none⟩) h⟩
/-- A block known whole: a variable of a struct type. -/
def Blk (w : World) (b : Nat) (vs : List Value) : Prop := ∃ t, w.heap[b]? = some (.cells vs.toArray t (0, 0))
section
variable {w w1 : World} {b : Nat} {vs : List Value}
theorem Blk.lt (h : Blk w b vs) : b < w.heap.size := by
  obtain ⟨t, h⟩ := h
  exact (Array.getElem?_eq_some_iff.1 h).1
theorem Blk.c (h : Blk w b vs) (i : Nat) {v : Value} (hv : vs[i]? = some v) : w.cell? ⟨b, i, none⟩ = some v := by
  obtain ⟨t, h⟩ := h
  rw [cell_of_row w b i _ t (0, 0) h]
  simpa using hv
theorem Blk.f (h : Blk w b vs) (o : Nat) : w.frozen? ⟨b, o, none⟩ = false := by
  obtain ⟨t, h⟩ := h
  exact frozen_of_row w b o _ t h
theorem Blk.move (h : Blk w b vs) (hm : w1.heap[b]? = w.heap[b]?) : Blk w1 b vs := by
  obtain ⟨t, h⟩ := h
  exact ⟨t, hm.trans h⟩
theorem Blk.below (h : Blk w b vs) (hb : Below w.heap.size w w1) : Blk w1 b vs := h.move (hb.block b h.lt)
theorem Blk.alloc (h : Blk w b vs) (o : Obj) : Blk (w.alloc o) b vs := h.move (Below.heap_alloc w o b h.lt)
theorem Blk.drew (h : Blk w b vs) : Blk w.drew b vs := h.move rfl
theorem Blk.drewN (h : Blk w b vs) (n : Nat) : Blk (w.drewN n) b vs := h.move rfl
theorem Blk.far (h : Blk w b vs) {p : Addr} (hp : b ≠ p.block) (u : Value) : Blk (w.setCell p u) b vs := h.move (Below.heap_setCell w p u b hp)
theorem Blk.new (w : World) (vs : List Value) (t : TypeId) : Blk (w.alloc (.cells vs.toArray t)) w.heap.size vs := ⟨t, heap_alloc_new w _⟩
theorem Blk.set (h : Blk w b vs) (i : Nat) (u : Value) : Blk (w.setCell ⟨b, i, none⟩ u) b (vs.set i u) := by
  obtain ⟨t, h⟩ := h
  refine ⟨t, ?_⟩
  rw [heap_setCell_same w b i _ t u h]
  simp
end

/-- A result that lies in a block. -/
theorem ret_blk {fn : Func} {p : Tmp} {ty : TypeId} {tmps : Array Value} {w : World} {g : Nat} {vs : List Value} {fs} (h : fn.results = #[.cell p ty]) (hp : tmps.getD p undef = .pointer (some ⟨g, 0, none⟩)) (hb : Blk w g vs)
    (hu : Tryz.prog.underlying ty = some (.struct fs)) (hi : (Tryz.prog.info? ty).map (·.size) = some vs.length) : (results fn tmps).run Tryz.prog w = .ok (.agg vs.toArray) w := by
  obtain ⟨t, hg⟩ := hb
  exact results_cell_row h tmps w g t _ _ _ hp hg hu rfl (by simpa using hi)

theorem grown_refl (w : World) (r : Option Nat) : w.grownBy w r := ⟨rfl, rfl, rfl, Nat.le_refl _, fun _ _ _ => rfl⟩
theorem grown_drewN (w : World) (r : Option Nat) (n : Nat) : w.grownBy (w.drewN n) r := ⟨rfl, rfl, rfl, Nat.le_refl _, fun _ _ _ => rfl⟩
theorem grown_trans {w w1 w2 : World} {r : Option Nat} (h : w.grownBy w1 r) (k : w1.grownBy w2 r) : w.grownBy w2 r :=
  ⟨k.os.trans h.os, k.tape.trans h.tape, k.output.trans h.output, Nat.le_trans h.size k.size, fun i hi hr => (k.block i (Nat.lt_of_lt_of_le hi h.size) hr).trans (h.block i hi hr)⟩
theorem grown_new {w w1 w2 : World} {r : Option Nat} {k : Nat} (h : w.grownBy w1 r) (hk : w.heap.size ≤ k) (h2 : w1.grownBy w2 (some k)) : w.grownBy w2 r :=
  ⟨h2.os.trans h.os, h2.tape.trans h.tape, h2.output.trans h.output, Nat.le_trans h.size h2.size, fun i hi hr => (h2.block i (Nat.lt_of_lt_of_le hi h.size) (fun e => by injection e with e; omega)).trans (h.block i hi hr)⟩
theorem grown_below {w w1 w2 : World} {r : Option Nat} (h : w.grownBy w1 r) (h2 : Below w1.heap.size w1 w2) : w.grownBy w2 r :=
  ⟨h2.os.trans h.os, h2.tape.trans h.tape, h2.output.trans h.output, Nat.le_trans h.size h2.size, fun i hi hr => (h2.block i (Nat.lt_of_lt_of_le hi h.size)).trans (h.block i hi hr)⟩
theorem Ow.grown {w w1 : World} {g g' cap : Nat} {l : List Int} (h : Ow w g cap l) (hg : w.grownBy w1 (some g')) (hne : g ≠ g') : Ow w1 g cap l :=
  h.move (hg.block g h.lt (fun e => hne (by injection e)))
/-- What is read elsewhere stays when one row is written. -/
theorem Rd.grown {ok : Nat → Prop} {w w1 : World} {A : Option Addr} {l : List Int} {g : Nat} (h : Rd ok w A l) (hg : w.grownBy w1 (some g)) (hok : ¬ ok g) : Rd ok w1 A l :=
  h.move (fun j hj hjl => hg.block j hjl (fun e => hok (by injection e with e; rw [← e]; exact hj)))

/-- 'make([]uint32, n)'. -/
theorem make_u32 (w : World) (n : Nat) (hn : n ≤ 1099511627776) : (Instr.makeSlice 22 (.int .i64 (n : Int)) (.int .i64 (n : Int))).run Tryz.prog w = .ok (.slice (some ⟨w.heap.size, 0, none⟩) n n) (w.alloc (.cells (madeCells #[.int .u32 0] n) 125)) ∧
    Ow (w.alloc (.cells (madeCells #[.int .u32 0] n) 125)) w.heap.size n (List.replicate n 0) := by
  obtain ⟨i0, hi, hz0, hz1, hz2⟩ := info_parts info_u32
  refine ⟨?_, ?_⟩
  · have hr := run_make (P := Tryz.prog) w 22 125 i0 (.int .u32 0) Tryz.underlying22 hi hz0 .i64 .i64 n n (by omega) (Int.le_refl _) (by rw [hz2]; omega) (by omega)
    simp only [Int.toNat_natCast, hz1] at hr
    simpa [Value.cells] using hr
  · have := Ow.of_block (w := w.alloc (.cells (madeCells #[.int .u32 0] n) 125)) (g := w.heap.size) (l := List.replicate n 0) (Wd.replicate n) (by simpa using hn)
      (by
        have h1 := heap_alloc_new w (.cells (madeCells #[.int .u32 0] n) 125)
        have e : madeCells #[.int .u32 0] n = ((List.replicate n (0 : Int)).map (Value.int .u32)).toArray := by
          apply Array.ext'
          rw [toList_madeCells_one]
          simp
        rw [h1, e])
    simpa using this
/-- 'a[:n]' -/
theorem cut_u32 (A : Option Addr) (n c : Nat) (j : Int) (h0 : 0 ≤ j) (hm : j ≤ n) (hc : n ≤ c) :
    ∀ W : World, (Instr.slice 22 (.slice A n c) none (some (.int .i64 j)) none).run Tryz.prog W = .ok (.slice A j.toNat c) W := by
  intro W
  obtain ⟨i0, hi, _, _, _⟩ := info_parts info_u32
  have hel : Tryz.prog.elem 22 = 125 := by simp [Program.elem, Tryz.underlying22]
  have hu : Tryz.prog.underlying 22 = some (.slice (Tryz.prog.elem 22)) := by rw [hel]; exact Tryz.underlying22
  have ha : (A.map fun x => x.add 0) = A := by cases A <;> simp [Addr.add]
  rw [run_slice_h W 22 A n c hu .i64 j h0 (by omega), hel]
  simp [sizeOf, typeInfo, hi, sliced, Result.andThen, ha]
end Go.Proofs.YthjpkichpkomcaaGreatDoor
