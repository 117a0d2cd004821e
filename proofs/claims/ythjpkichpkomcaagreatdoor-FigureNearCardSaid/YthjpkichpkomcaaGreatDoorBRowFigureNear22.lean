/- RowA -/
import Derived.Test.YthjpkichpkomcaaGreatDoorBRowFigureNear21
import Derived.Maps.AppendAt
/- Rows: slices of things that take one or more cells each (fractions; rows of them), read and built by append. -/
namespace Go.Proofs.YthjpkichpkomcaaGreatDoor
open Go.RowKit Go.Proofs.YthjpkichpkomcaaGreatDoor.Big
set_option linter.unusedVariables false

/-- What a row's element is: its cells; when it can be read. -/
class Elm (α : Type) where
  sz : Nat
  pos : 0 < sz
  vals : α → List Value
  len : ∀ x, (vals x).length = sz
  one : ∀ x, ∀ u ∈ vals x, u.oneCell' = true
  ok : (Nat → Prop) → World → α → Prop
  move : ∀ {p : Nat → Prop} {w w1 : World} {x : α}, ok p w x → (∀ k, p k → k < w.heap.size → w1.heap[k]? = w.heap[k]?) → ok p w1 x
  mono : ∀ {p p' : Nat → Prop} {w : World} {x : α}, ok p w x → (∀ k, k < w.heap.size → p k → p' k) → ok p' w x

theorem RF.ok.move {p : Nat → Prop} {w w1 : World} {x : RF} (h : x.ok p w) (hm : ∀ k, p k → k < w.heap.size → w1.heap[k]? = w.heap[k]?) : x.ok p w1 := ⟨h.1.move hm, h.2.1, h.2.2.1.move hm, h.2.2.2⟩

instance : Elm RF where
  sz := 3
  pos := by decide
  vals x := [.bool x.n, .slice x.A x.l.length x.c, .slice x.A' x.d.length x.c']
  len _ := rfl
  one x u h := by
    simp only [List.mem_cons, List.not_mem_nil, or_false] at h
    rcases h with rfl | rfl | rfl <;> rfl
  ok p w x := x.ok p w
  move h hm := h.move hm
  mono h hm := h.mono hm

theorem flat_get {α : Type} [Elm α] : ∀ (xs : List α) (k : Nat) (x : α), xs[k]? = some x → ∀ (j : Nat) (u : Value), (Elm.vals x)[j]? = some u → (xs.flatMap Elm.vals)[k * Elm.sz α + j]? = some u
  | [], k, x, hk, _, _, _ => by simp at hk
  | y :: r, 0, x, hk, j, u, hu => by
    simp only [List.getElem?_cons_zero, Option.some.injEq] at hk
    subst hk
    obtain ⟨hjl, _⟩ := List.getElem?_eq_some_iff.1 hu
    rw [List.flatMap_cons, Nat.zero_mul, Nat.zero_add, List.getElem?_append_left hjl]
    exact hu
  | y :: r, k + 1, x, hk, j, u, hu => by
    simp only [List.getElem?_cons_succ] at hk
    rw [List.flatMap_cons, List.getElem?_append_right (by rw [Elm.len, Nat.succ_mul]; omega), Elm.len, show (k + 1) * Elm.sz α + j - Elm.sz α = k * Elm.sz α + j by rw [Nat.succ_mul]; omega]
    exact flat_get r k x hk j u hu
theorem flat_set {α : Type} [Elm α] : ∀ (xs : List α) (k : Nat) (x y : α), xs[k]? = some y → (xs.set k x).flatMap Elm.vals = (xs.flatMap Elm.vals).take (k * Elm.sz α) ++ (Elm.vals x ++ (xs.flatMap Elm.vals).drop (k * Elm.sz α + Elm.sz α))
  | [], k, x, y, hk => by simp at hk
  | z :: r, 0, x, y, hk => by
    rw [List.set_cons_zero, List.flatMap_cons, List.flatMap_cons, Nat.zero_mul, List.take_zero, List.nil_append, Nat.zero_add, List.drop_append_of_le_length (by rw [Elm.len]; exact Nat.le_refl _), List.drop_of_length_le (by rw [Elm.len]; exact Nat.le_refl _), List.nil_append]
  | z :: r, k + 1, x, y, hk => by
    simp only [List.getElem?_cons_succ] at hk
    rw [List.set_cons_succ, List.flatMap_cons, List.flatMap_cons, flat_set r k x y hk, Nat.succ_mul]
    have h1 : k * Elm.sz α + Elm.sz α = Elm.sz α + k * Elm.sz α := Nat.add_comm _ _
    have hl : (Elm.vals z).length = Elm.sz α := Elm.len z
    have e1 : (Elm.vals z).take (k * Elm.sz α + Elm.sz α) = Elm.vals z := List.take_of_length_le (by omega)
    have e2 : (Elm.vals z).drop (k * Elm.sz α + Elm.sz α + Elm.sz α) = [] := List.drop_of_length_le (by omega)
    rw [List.take_append, List.drop_append, hl, e1, e2, show k * Elm.sz α + Elm.sz α - Elm.sz α = k * Elm.sz α by omega, show k * Elm.sz α + Elm.sz α + Elm.sz α - Elm.sz α = k * Elm.sz α + Elm.sz α by omega, List.nil_append, List.append_assoc]

section
variable {α : Type} [Elm α] {p p' : Nat → Prop} {w w1 : World} {A : Option Addr} {xs : List α} {t : TypeId} {B : Nat} {v : Value}
/-- A row that can be read. -/
def Rw (p : Nat → Prop) (w : World) (A : Option Addr) (xs : List α) : Prop :=
  (0 < xs.length → ∃ ad, A = some ad ∧ p ad.block ∧ ∀ (k : Nat) (x : α), xs[k]? = some x → ∀ (j : Nat) (u : Value), (Elm.vals x)[j]? = some u → w.cell? (ad.add (k * Elm.sz α + j)) = some u) ∧ ∀ x ∈ xs, Elm.ok p w x
theorem Rw.nil (p : Nat → Prop) (w : World) (A : Option Addr) : Rw p w A ([] : List α) := ⟨fun h => by simp at h, fun x h => by simp at h⟩
theorem Rw.mem (h : Rw p w A xs) {x : α} (hx : x ∈ xs) : Elm.ok p w x := h.2 x hx
theorem Rw.get (h : Rw p w A xs) {k : Nat} {x : α} (hk : xs[k]? = some x) : ∃ ad, A = some ad ∧ p ad.block ∧ Elm.ok p w x ∧ ∀ (j : Nat) (u : Value), (Elm.vals x)[j]? = some u → w.cell? ((ad.add (k * Elm.sz α)).add j) = some u := by
  obtain ⟨hl, _⟩ := List.getElem?_eq_some_iff.1 hk
  obtain ⟨ad, e, hp, hc⟩ := h.1 (by omega)
  exact ⟨ad, e, hp, h.2 x (List.mem_of_getElem? hk), fun j u hu => by rw [add_add]; exact hc k x hk j u hu⟩
theorem Rw.move (h : Rw p w A xs) (hm : ∀ k, p k → k < w.heap.size → w1.heap[k]? = w.heap[k]?) : Rw p w1 A xs := by
  refine ⟨fun hl => ?_, fun x hx => Elm.move (h.2 x hx) hm⟩
  obtain ⟨ad, e, hp, hc⟩ := h.1 hl
  refine ⟨ad, e, hp, fun k x hk j u hu => ?_⟩
  have h1 := hc k x hk j u hu
  have hb := World.block_lt_of_cell? w _ h1
  rw [add_block] at hb
  rw [cell_move (w := w) (by rw [add_block]; exact hm _ hp hb)]
  exact h1
theorem Rw.mono (h : Rw p w A xs) (hm : ∀ k, k < w.heap.size → p k → p' k) : Rw p' w A xs := by
  refine ⟨fun hl => ?_, fun x hx => Elm.mono (h.2 x hx) hm⟩
  obtain ⟨ad, e, hp, hc⟩ := h.1 hl
  refine ⟨ad, e, hm _ ?_ hp, hc⟩
  match xs, hl, hc with
  | x :: r, _, hc =>
    have hv : 0 < (Elm.vals x).length := by rw [Elm.len]; exact Elm.pos
    have := World.block_lt_of_cell? w _ (hc 0 x rfl 0 _ (List.getElem?_eq_getElem hv))
    rwa [add_block] at this
theorem Rw.below (h : Rw p w A xs) (hb : Below w.heap.size w w1) : Rw p w1 A xs := h.move (fun k _ hk => hb.block k hk)
theorem Rw.alloc (h : Rw p w A xs) (o : Obj) : Rw p (w.alloc o) A xs := h.move (fun k _ hk => Below.heap_alloc w o k hk)
theorem Rw.drew (h : Rw p w A xs) : Rw p w.drew A xs := h.move (fun _ _ _ => rfl)
theorem Rw.setCell (h : Rw p w A xs) {q : Addr} (hp : ¬ p q.block) (u : Value) : Rw p (w.setCell q u) A xs := h.move (fun k ho _ => Below.heap_setCell w q u k (fun e => hp (e ▸ ho)))
theorem Rw.grown {r : Option Nat} (h : Rw p w A xs) (hg : w.grownBy w1 r) (hr : ∀ k, p k → k < w.heap.size → r ≠ some k) : Rw p w1 A xs :=
  h.move (fun k hk hl => hg.block k hl (fun e => hr k hk hl e.symm))

/-- A row of the call's own, being built; its elements' own parts lie where q says. -/
def OwE (t : TypeId) (B : Nat) (q : Nat → Prop) (w : World) (v : Value) (xs : List α) : Prop :=
  w.ownsRow B t (Elm.sz α) v xs.length (xs.flatMap Elm.vals) ∧ ∀ x ∈ xs, Elm.ok (fun k => q k ∧ v.ownBlock ≠ some k) w x
theorem OwE.nil (t : TypeId) (B : Nat) (q : Nat → Prop) (w : World) : OwE t B q w (.slice none 0 0) ([] : List α) := ⟨World.ownsRow_nil w B t _, fun x h => by simp at h⟩
variable {q q' : Nat → Prop}
theorem OwE.move (h : OwE t B q w v xs) (hm : ∀ k, B ≤ k ∨ q k → k < w.heap.size → w1.heap[k]? = w.heap[k]?) : OwE t B q w1 v xs := by
  refine ⟨⟨h.1.1, ?_⟩, fun x hx => Elm.move (h.2 x hx) (fun k hk hl => hm k (.inr hk.1) hl)⟩
  rcases h.1.2 with h' | ⟨g, cap, cur, h', hb, hg, r⟩
  · exact .inl h'
  · exact .inr ⟨g, cap, cur, h', hb, (hm g (.inl hb) (Array.getElem?_eq_some_iff.1 hg).1).trans hg, r⟩
theorem OwE.below (h : OwE t B q w v xs) (hb : Below w.heap.size w w1) : OwE t B q w1 v xs := h.move (fun k _ hk => hb.block k hk)
theorem OwE.alloc (h : OwE t B q w v xs) (o : Obj) : OwE t B q (w.alloc o) v xs := h.move (fun k _ hk => Below.heap_alloc w o k hk)
theorem OwE.drew (h : OwE t B q w v xs) : OwE t B q w.drew v xs := h.move (fun _ _ _ => rfl)
theorem OwE.setCell (h : OwE t B q w v xs) {a : Addr} (hp : a.block < B) (hq : ¬ q a.block) (u : Value) : OwE t B q (w.setCell a u) v xs := h.move (fun k ho _ => Below.heap_setCell w a u k (fun e => ho.elim (fun h => by omega) (fun h => hq (e ▸ h))))
theorem OwE.low {B' : Nat} (h : OwE t B q w v xs) (hb : B' ≤ B) (hq : ∀ k, k < w.heap.size → q k → q' k) : OwE t B' q' w v xs := by
  refine ⟨⟨h.1.1, ?_⟩, fun x hx => Elm.mono (h.2 x hx) (fun k hl hk => ⟨hq k hl hk.1, hk.2⟩)⟩
  rcases h.1.2 with h' | ⟨g, cap, cur, h', hb', r⟩
  · exact .inl h'
  · exact .inr ⟨g, cap, cur, h', by omega, r⟩
/-- Behind append of one element. -/
theorem OwE.push {v' : Value} {x : α} (h : OwE t B q w v xs) (hx : Elm.ok (fun k => q k ∧ v.ownBlock ≠ some k) w x) (ho : w1.ownsRow B t (Elm.sz α) v' (xs.length + 1) (xs.flatMap Elm.vals ++ Elm.vals x)) (hg : w.grownBy w1 v.ownBlock) (ha : v'.ownBlock = v.ownBlock ∨ v'.ownBlock = some w.heap.size) : OwE t B q w1 v' (xs ++ [x]) := by
  refine ⟨by simpa using ho, fun y hy => ?_⟩
  have h1 : Elm.ok (fun k => q k ∧ v.ownBlock ≠ some k) w y := by
    rcases List.mem_append.1 hy with h2 | h2
    · exact h.2 y h2
    · rw [List.mem_singleton.1 h2]; exact hx
  have h2 : Elm.ok (fun k => (q k ∧ v.ownBlock ≠ some k) ∧ k < w.heap.size) w y := Elm.mono h1 (fun k hk hh => ⟨hh, hk⟩)
  have h3 : Elm.ok (fun k => (q k ∧ v.ownBlock ≠ some k) ∧ k < w.heap.size) w1 y := Elm.move h2 (fun k hk hl => hg.block k hl (fun e => hk.1.2 e.symm))
  refine Elm.mono h3 (fun k _ hk => ⟨hk.1.1, ?_⟩)
  rcases ha with e | e
  · rw [e]; exact hk.1.2
  · rw [e]; intro e2; injection e2 with e2; omega
theorem OwE.lt (h : OwE t B q w v xs) : ∀ k, v.ownBlock = some k → B ≤ k ∧ k < w.heap.size := h.1.lt
/-- What was there when the row began isn't touched by its growing. -/
theorem OwE.apart {x : α} {w0 : World} {p : Nat → Prop} (h : OwE t B q w v xs) (hx : Elm.ok p w x) (hp : ∀ k, k < w.heap.size → p k → q k ∧ (k < B ∨ v.ownBlock ≠ some k)) : Elm.ok (fun k => q k ∧ v.ownBlock ≠ some k) w x :=
  Elm.mono hx (fun k hk hpk => ⟨(hp k hk hpk).1, by
    rcases (hp k hk hpk).2 with h1 | h1
    · intro e; have := h.lt k e; omega
    · exact h1⟩)
/-- A row that was built, as a row to be read. -/
theorem OwE.rd (h : OwE t B q w v xs) : ∃ A c, v = .slice A xs.length c ∧ xs.length ≤ c ∧ Rw (fun k => B ≤ k ∨ q k) w A xs := by
  rcases h.1.2 with ⟨rfl, h0⟩ | ⟨g, cap, cur, rfl, hb, hg, hn, hcm, hcs, ht⟩
  · refine ⟨none, 0, by rw [h0], by omega, ?_⟩
    rw [List.eq_nil_of_length_eq_zero h0]; exact Rw.nil _ _ _
  · refine ⟨some ⟨g, 0, none⟩, cap, rfl, hn, fun _ => ⟨_, rfl, .inl hb, fun k x hk j u hu => ?_⟩, fun x hx => Elm.mono (h.2 x hx) (fun k _ hk => .inr hk.1)⟩
    obtain ⟨hkl, hkx⟩ := List.getElem?_eq_some_iff.1 hk
    obtain ⟨hjl, hju⟩ := List.getElem?_eq_some_iff.1 hu
    rw [Elm.len] at hjl
    have hlt : k * Elm.sz α + j < xs.length * Elm.sz α := by
      have : (k + 1) * Elm.sz α ≤ xs.length * Elm.sz α := Nat.mul_le_mul_right _ hkl
      rw [Nat.succ_mul] at this; omega
    rw [add_plain, h.1.cellAt _ hlt]
    exact flat_get xs k x hk j u hu
end

/-- A row as it lies. -/
structure RV (α : Type) where
  A : Option Addr
  c : Nat
  l : List α
instance {α : Type} [Elm α] : Elm (RV α) where
  sz := 1
  pos := by decide
  vals r := [.slice r.A r.l.length r.c]
  len _ := rfl
  one x u h := by
    simp only [List.mem_cons, List.not_mem_nil, or_false] at h
    subst h; rfl
  ok p w r := Rw p w r.A r.l ∧ r.l.length ≤ r.c
  move h hm := ⟨h.1.move hm, h.2⟩
  mono h hm := ⟨h.1.mono hm, h.2⟩

/-- A fraction as it came in: its numbers can be read where they aren't too long. -/
structure RC where
  x : RF
def RC.ok (p : Nat → Prop) (w : World) (r : RC) : Prop := r.x.l.length ≤ r.x.c ∧ r.x.d.length ≤ r.x.c' ∧ (r.x.l.length ≤ 10000 → Rd p w r.x.A r.x.l) ∧ (r.x.d.length ≤ 10000 → Rd p w r.x.A' r.x.d)
instance : Elm RC where
  sz := 3
  pos := by decide
  vals r := Elm.vals r.x
  len _ := rfl
  one r u h := Elm.one r.x u h
  ok p w r := r.ok p w
  move h hm := ⟨h.1, h.2.1, fun hl => (h.2.2.1 hl).move hm, fun hl => (h.2.2.2 hl).move hm⟩
  mono h hm := ⟨h.1, h.2.1, fun hl => (h.2.2.1 hl).mono hm, fun hl => (h.2.2.2 hl).mono hm⟩

/-- 'append' of one element that was laid in a new block, for the walk. -/
theorem wpList_push {α : Type} [Elm α] {ops : Array Oper} {rest : List Oper} {o : Oper} {a : Act} {Q : Exit → Act → World → Prop} (hgd : o.guard = none) (s x : Operand) (ts : TypeId)
    (ho : o.op = .call { callee := .builtin .append, args := #[s, x], argTypes := #[ts, ts] })
    (B : Nat) (q : Nat → Prop) (t : TypeId) (i : TypeInfo) (z : Value) (bytes : Nat) (ht : Tryz.prog.underlying ts = some (.slice t)) (hi : Tryz.prog.info? t = some i) (hz : i.zero = some z)
    (hsize : i.size = Elm.sz α) (hby : i.bytes = bytes) (hzs : z.cells.size = Elm.sz α)
    (v : Value) (xs : List α) (hs : a.eval s = v) (y : α) (w0 : World) (hx : a.eval x = .slice (some ⟨w0.heap.size, 0, none⟩) 1 1)
    (hO : OwE t B q w0 v xs) (hy : Elm.ok (fun k => q k ∧ (k < B ∨ v.ownBlock ≠ some k)) w0 y) (hB : B ≤ w0.heap.size) (hlen : xs.length ≤ 1000000) (hbt : bytes ≤ 1000)
    (h : ∀ v' w', OwE t B q w' v' (xs ++ [y]) → w0.grownBy w' v.ownBlock → (∀ g, v.ownBlock = some g → B ≤ g ∧ g < w0.heap.size) → wpList Tryz.prog ops Q rest (a.put o.dst v') w') :
    wpList Tryz.prog ops Q (o :: rest) a (w0.alloc (.cells (Elm.vals y).toArray t)) := by
  have hO2 := hO.alloc (.cells (Elm.vals y).toArray t)
  have hy2 : Elm.ok (fun k => q k ∧ (k < B ∨ v.ownBlock ≠ some k)) (w0.alloc (.cells (Elm.vals y).toArray t)) y := Elm.move hy (fun k _ hk => Below.heap_alloc w0 _ k hk)
  refine wpList_append_own_at _ hgd s x ts ho B t i z (Elm.sz α) bytes ht hi hz hsize hby hzs Elm.pos v xs.length _ hs hO2.1 ⟨w0.heap.size, 0, none⟩ 1 1 (Elm.vals y) hx (by rw [Elm.len, Nat.one_mul]) ?_ (Elm.one y) (by unfold maxLen; omega) ?_ (by rw [World.size_alloc]; omega) ?_
  · intro j u hj
    rw [add_plain, cell_of_row _ w0.heap.size j _ _ _ (heap_alloc_new w0 _)]
    simpa using hj
  · have : (xs.length + 1) * bytes ≤ 1000001 * 1000 := Nat.mul_le_mul (by omega) hbt
    omega
  · intro v' w' hown hg _ hat
    refine h v' w' (hO2.push (hO2.apart (w0 := w0) hy2 (fun k _ hk => hk)) hown hg hat) ?_ (fun g e => hO.lt g e)
    exact ⟨hg.os, hg.tape, hg.output, Nat.le_trans (by rw [World.size_alloc]; omega) hg.size, fun k hk hr => (hg.block k (by rw [World.size_alloc]; omega) hr).trans (Below.heap_alloc w0 _ k hk)⟩

/-- A row written out in a new block. -/
theorem rw_lit {α : Type} [Elm α] {p : Nat → Prop} (w : World) (t : TypeId) (xs : List α) (hp : p w.heap.size) (h : ∀ x ∈ xs, Elm.ok p w x) : Rw p (w.alloc (.cells (xs.flatMap Elm.vals).toArray t)) (some ⟨w.heap.size, 0, none⟩) xs := by
  refine ⟨fun _ => ⟨_, rfl, hp, fun k x hk j u hu => ?_⟩, fun x hx => Elm.move (h x hx) (fun k _ hk => Below.heap_alloc w _ k hk)⟩
  rw [add_plain, cell_of_row _ w.heap.size _ _ _ _ (heap_alloc_new w _)]
  simpa using flat_get xs k x hk j u hu
theorem rw_lit' {α : Type} [Elm α] {p : Nat → Prop} (w : World) (t : TypeId) (xs : List α) {b : Nat} {cs : Array Value} (hc : (xs.flatMap Elm.vals).toArray = cs) (hb : w.heap.size = b) (hp : p b) (h : ∀ x ∈ xs, Elm.ok p w x) : Rw p (w.alloc (.cells cs t)) (some ⟨b, 0, none⟩) xs := by
  subst hb
  subst hc
  exact rw_lit w t xs hp h
theorem Rw.raw {p : Nat → Prop} {w : World} {A : Option Addr} {cs : List RC} (h : Rw p w A cs) (hs : ∀ r ∈ cs, r.x.l.length ≤ 10000 ∧ r.x.d.length ≤ 10000) : Rw p w A (cs.map RC.x) := by
  refine ⟨fun hl => ?_, fun x hx => ?_⟩
  · rw [List.length_map] at hl
    obtain ⟨ad, e, hp, hc⟩ := h.1 hl
    refine ⟨ad, e, hp, fun k x hk j u hu => ?_⟩
    rw [List.getElem?_map] at hk
    cases hr : cs[k]? with
    | none => rw [hr] at hk; simp at hk
    | some r => rw [hr] at hk; simp at hk; subst hk; exact hc k r hr j u hu
  · obtain ⟨r, hr, rfl⟩ := List.mem_map.1 hx
    have h1 := h.2 r hr
    have h2 := hs r hr
    exact ⟨h1.2.2.1 h2.1, h1.1, h1.2.2.2 h2.2, h1.2.1, h2.1, h2.2⟩
def rvx (r : RV RC) : RV RF := ⟨r.A, r.c, r.l.map RC.x⟩
theorem Rw.raw2 {p : Nat → Prop} {w : World} {A : Option Addr} {rs : List (RV RC)} (h : Rw p w A rs) (hs : ∀ r ∈ rs, ∀ y ∈ r.l, y.x.l.length ≤ 10000 ∧ y.x.d.length ≤ 10000) : Rw p w A (rs.map rvx) := by
  refine ⟨fun hl => ?_, fun x hx => ?_⟩
  · rw [List.length_map] at hl
    obtain ⟨ad, e, hp, hc⟩ := h.1 hl
    refine ⟨ad, e, hp, fun k x hk j u hu => ?_⟩
    rw [List.getElem?_map] at hk
    cases hr : rs[k]? with
    | none => rw [hr] at hk; simp at hk
    | some r =>
      rw [hr] at hk; simp at hk; subst hk
      refine hc k r hr j u ?_
      rw [← hu]; show ([.slice r.A r.l.length r.c] : List Value)[j]? = ([.slice r.A (r.l.map RC.x).length r.c] : List Value)[j]?
      rw [List.length_map]
  · obtain ⟨r, hr, rfl⟩ := List.mem_map.1 hx
    have h1 := h.2 r hr
    exact ⟨h1.1.raw (hs r hr), by show (r.l.map RC.x).length ≤ r.c; rw [List.length_map]; exact h1.2⟩
end Go.Proofs.YthjpkichpkomcaaGreatDoor
