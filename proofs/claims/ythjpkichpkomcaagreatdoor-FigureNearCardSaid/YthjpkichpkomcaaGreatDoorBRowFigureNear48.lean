/- RowE · RowG -/
import Derived.Test.YthjpkichpkomcaaGreatDoorBRowFigureNear30
import Derived.Test.YthjpkichpkomcaaGreatDoorBRowFigureNear46
/- Rows of fractions (row): Same. -/
namespace Go.Proofs.YthjpkichpkomcaaGreatDoor
open Go.RowKit Go.Proofs.YthjpkichpkomcaaGreatDoor.Big
set_option linter.unusedVariables false
set_option maxRecDepth 100000
attribute [local go_sem ↓] Go.wp_at_zero Go.wp_at_succ

theorem same_more {xs ys : List RF} {k : Nat} {x y : RF} (hx : xs[k]? = some x) (hy : ys[k]? = some y) (h : (xs.take k).map RF.q = (ys.take k).map RF.q) (hq : x.q = y.q) : (xs.take (k + 1)).map RF.q = (ys.take (k + 1)).map RF.q := by
  rw [take_more hx, take_more hy, List.map_append, List.map_append, h]; simp [hq]
theorem not_same {xs ys : List RF} {k : Nat} {x y : RF} (hx : xs[k]? = some x) (hy : ys[k]? = some y) (hq : x.q ≠ y.q) : ¬ xs.map RF.q = ys.map RF.q := by
  intro e
  have h1 := congrArg (fun l => l[k]?) e
  simp only [List.getElem?_map, hx, hy, Option.map_some, Option.some.injEq] at h1
  exact hq h1

set_option maxHeartbeats 2000000 in
theorem row_Same (p p' : Nat → Prop) (A : Option Addr) (c : Nat) (xs : List RF) (A' : Option Addr) (c' : Nat) (ys : List RF) (w : World) (h : Rw p w A xs) (hc : xs.length ≤ c) (h' : Rw p' w A' ys) (hc' : ys.length ≤ c') (hl : xs.length ≤ 100000) :
    Calls Tryz.prog 89 #[.slice A xs.length c, .slice A' ys.length c'] w fun e w' => e = .returned (.bool (decide (xs.map RF.q = ys.map RF.q))) ∧ Below w.heap.size w w' := by
  go_enter Tryz.func89, Tryz.ntmps89
  by_cases hxy : xs.length = ys.length
  · rw [← hxy]
    have HXY := Asd.mk hxy
    clear hxy
    go_wp2_with fail
    go_loopw [13] (fun i wq => ∃ k : Nat, k ≤ xs.length ∧ i = .int .i64 (k : Int) ∧ Asd ((xs.take k).map RF.q = (ys.take k).map RF.q) ∧ Asd (Below w.heap.size w wq)) (fun i _ => (xs.length - intOf i).toNat)
    case atStart => exact ⟨0, Nat.zero_le _, rfl, ⟨by simp⟩, ⟨Below.refl _ _⟩⟩
    case round =>
      obtain ⟨k, hk, rfl, HQ, HB⟩ := hrel
      by_cases hkl : k < xs.length
      · obtain ⟨x, hx⟩ : ∃ x, xs[k]? = some x := ⟨_, List.getElem?_eq_getElem hkl⟩
        obtain ⟨y, hy⟩ : ∃ y, ys[k]? = some y := ⟨_, List.getElem?_eq_getElem (by have := HXY.out; omega)⟩
        obtain ⟨ad, rfl, hp, hox, hc0, hc1, hc2⟩ := (h.below HB.out).drew.cells3 hx
        obtain ⟨ad', rfl, hp', hoy, hd0, hd1, hd2⟩ := (h'.below HB.out).drew.cells3 hy
        have hB := below_drewN HB.out 1
        have hsz : w.heap.size ≤ wr.drew.heap.size := HB.out.size
        have HD : Asd ((x.q = y.q → (xs.take (k + 1)).map RF.q = (ys.take (k + 1)).map RF.q) ∧ (x.q ≠ y.q → decide (xs.map RF.q = ys.map RF.q) = false)) := ⟨fun e => same_more hx hy HQ.out e, fun e => decide_eq_false (not_same hx hy e)⟩
        by_cases hq : x.q = y.q
        · have hd : decide (x.q = y.q) = true := decide_eq_true hq
          replace HD := Asd.mk (HD.out.1 hq)
          go_wp2_with fail
          go_region_held3 (fun w' => w'.cell? (ad'.add (k * 3)) = some (.bool y.n) ∧ w'.cell? ⟨(ad'.add (k * 3)).block, (ad'.add (k * 3)).off + 1, none⟩ = some (.slice y.A y.l.length y.c) ∧ w'.cell? ⟨(ad'.add (k * 3)).block, (ad'.add (k * 3)).off + 2, none⟩ = some (.slice y.A' y.d.length y.c') ∧ w'.cell? (ad.add (k * 3)) = some (.bool x.n) ∧ w'.cell? ⟨(ad.add (k * 3)).block, (ad.add (k * 3)).off + 1, none⟩ = some (.slice x.A x.l.length x.c) ∧ w'.cell? ⟨(ad.add (k * 3)).block, (ad.add (k * 3)).off + 2, none⟩ = some (.slice x.A' x.d.length x.c')) (first | exact ⟨hd0, hd1, hd2, hc0, hc1, hc2⟩ | exact ⟨(Below.cell hb1 (World.block_lt_of_cell? _ _ hd0)).trans hd0, (Below.cell hb1 (World.block_lt_of_cell? _ _ hd1)).trans hd1, (Below.cell hb1 (World.block_lt_of_cell? _ _ hd2)).trans hd2, (Below.cell hb1 (World.block_lt_of_cell? _ _ hc0)).trans hc0, (Below.cell hb1 (World.block_lt_of_cell? _ _ hc1)).trans hc1, (Below.cell hb1 (World.block_lt_of_cell? _ _ hc2)).trans hc2⟩)
            (first | (go_at_call 18; have hm := frac_Same _ _ x y _ hox hoy; rw [hd] at hm; refine hm.mono ?_; rintro e w2 ⟨rfl, hb1⟩))
          go_wp2
          go_roundw
          case rel => exact ⟨k + 1, by omega, by go_num, HD, ⟨hB.trans (hb1.mono (by omega))⟩⟩
          case measure => simp [intOf]; omega
        · have hd : decide (x.q = y.q) = false := decide_eq_false hq
          replace HD := Asd.mk (HD.out.2 hq)
          go_wp2_with fail
          go_region_held3 (fun w' => w'.cell? (ad'.add (k * 3)) = some (.bool y.n) ∧ w'.cell? ⟨(ad'.add (k * 3)).block, (ad'.add (k * 3)).off + 1, none⟩ = some (.slice y.A y.l.length y.c) ∧ w'.cell? ⟨(ad'.add (k * 3)).block, (ad'.add (k * 3)).off + 2, none⟩ = some (.slice y.A' y.d.length y.c') ∧ w'.cell? (ad.add (k * 3)) = some (.bool x.n) ∧ w'.cell? ⟨(ad.add (k * 3)).block, (ad.add (k * 3)).off + 1, none⟩ = some (.slice x.A x.l.length x.c) ∧ w'.cell? ⟨(ad.add (k * 3)).block, (ad.add (k * 3)).off + 2, none⟩ = some (.slice x.A' x.d.length x.c')) (first | exact ⟨hd0, hd1, hd2, hc0, hc1, hc2⟩ | exact ⟨(Below.cell hb1 (World.block_lt_of_cell? _ _ hd0)).trans hd0, (Below.cell hb1 (World.block_lt_of_cell? _ _ hd1)).trans hd1, (Below.cell hb1 (World.block_lt_of_cell? _ _ hd2)).trans hd2, (Below.cell hb1 (World.block_lt_of_cell? _ _ hc0)).trans hc0, (Below.cell hb1 (World.block_lt_of_cell? _ _ hc1)).trans hc1, (Below.cell hb1 (World.block_lt_of_cell? _ _ hc2)).trans hc2⟩)
            (first | (go_at_call 18; have hm := frac_Same _ _ x y _ hox hoy; rw [hd] at hm; refine hm.mono ?_; rintro e w2 ⟨rfl, hb1⟩))
          go_wp2
          go_ret
          exact ⟨congrArg (fun b => Ending.returned (.bool b)) HD.out.symm, hB.trans (hb1.mono (by omega))⟩
      · have e1 : xs.take k = xs := List.take_of_length_le (by omega)
        have e2 : ys.take k = ys := List.take_of_length_le (by have := HXY.out; omega)
        rw [e1, e2] at HQ
        go_wp2
        go_ret
        exact ⟨congrArg (fun b => Ending.returned (.bool b)) (decide_eq_true HQ.out).symm, HB.out⟩
  · have hne : decide (xs.map RF.q = ys.map RF.q) = false := decide_eq_false (fun e => hxy (by have := congrArg List.length e; simpa using this))
    rw [hne]
    have h1 : ¬ (xs.length : Int) = (ys.length : Int) := by omega
    go_wp2
    go_ret
    exact ⟨rfl, Below.refl _ _⟩
end Go.Proofs.YthjpkichpkomcaaGreatDoor
/- Rows of fractions (row): Add. -/
namespace Go.Proofs.YthjpkichpkomcaaGreatDoor
open Go.RowKit Go.Proofs.YthjpkichpkomcaaGreatDoor.Big
set_option linter.unusedVariables false
set_option maxRecDepth 100000
attribute [local go_sem ↓] Go.wp_at_zero Go.wp_at_succ

/-- A row that was made, and a word. -/
def RowOut2 (qs : List Rat) (b : Bool) (w : World) (e : Ending) (w' : World) : Prop := ∃ v ys, e = .returned (.tuple #[v, .bool b]) ∧ OwE 30 w.heap.size (fun k => w.heap.size ≤ k) w' v (ys : List RF) ∧ ys.map RF.q = qs ∧ (∀ y ∈ ys, Rt y) ∧ Below w.heap.size w w'
def addQ (a b : List Rat) : List Rat := List.zipWith (· + ·) a b
def rowQ (r : RV RF) : List Rat := r.l.map RF.q
theorem Rw.cells1 {α : Type} [Elm α] {p : Nat → Prop} {w : World} {A : Option Addr} {xs : List (RV α)} (h : Rw p w A xs) {k : Nat} {r : RV α} (hk : xs[k]? = some r) : ∃ ad, A = some ad ∧ p ad.block ∧ Rw p w r.A r.l ∧ r.l.length ≤ r.c ∧ w.cell? (ad.add k) = some (.slice r.A r.l.length r.c) := by
  obtain ⟨ad, e, hp, ho, hc⟩ := h.get hk
  refine ⟨ad, e, hp, ho.1, ho.2, ?_⟩
  have := hc 0 _ rfl; simpa [Addr.add, show Elm.sz (RV α) = 1 from rfl] using this

theorem OwE.len {t : TypeId} {B : Nat} {q : Nat → Prop} {w : World} {A : Option Addr} {n c : Nat} {xs : List RF} (h : OwE t B q w (.slice A n c) xs) : xs.length = n := by
  rcases h.1.2 with ⟨h1, h2⟩ | ⟨g', cap', cur, h1, _⟩
  · injection h1 with _ h3; omega
  · injection h1 with _ h3; exact h3.symm

/-- 'l[1:]' of rows. -/
theorem tail_rows {p : Nat → Prop} {w : World} {ad : Addr} {rows : List (RV RF)} {r0 : RV RF} {rs : List (RV RF)} {c : Nat} (h : Rw p w (some ad) rows) (hrs : rows = r0 :: rs) (hc : rows.length ≤ c) :
    ∃ A1 : Option Addr, (∀ W : World, (Instr.slice 48 (.slice (some ad) rows.length c) (some (.int .i64 1)) none none).run Tryz.prog W = .ok (.slice A1 rs.length (c - 1)) W) ∧ Rw p w A1 rs := by
  subst hrs
  refine ⟨if c = 1 then some ad else some (ad.add 1), fun W => ?_, ?_⟩
  · have hi : (Tryz.prog.info? 68).map (·.size) = some 1 := by kernel_rfl
    obtain ⟨i0, hi0, hi1⟩ := Option.map_eq_some_iff.1 hi
    have hel : Tryz.prog.elem 48 = 68 := by simp [Program.elem, Tryz.underlying48]
    have hu : Tryz.prog.underlying 48 = some (.slice (Tryz.prog.elem 48)) := by rw [hel]; exact Tryz.underlying48
    rw [run_slice_l W 48 (some ad) (r0 :: rs).length c hu .i64 1 (by decide) (by simp; omega), hel]
    simp [sizeOf, typeInfo, hi0, hi1, sliced, Result.andThen]
  · by_cases h1 : c = 1
    · rw [if_pos h1]
      have : rs = [] := List.eq_nil_of_length_eq_zero (by simp at hc; omega)
      rw [this]; exact Rw.nil _ _ _
    · rw [if_neg h1]
      refine ⟨fun hl => ?_, fun x hx => h.2 x (List.mem_cons_of_mem _ hx)⟩
      obtain ⟨ad', e, hp, hcl⟩ := h.1 (by simp)
      cases e
      refine ⟨_, rfl, by rw [add_block]; exact hp, fun k x hk j u hu => ?_⟩
      have := hcl (k + 1) x (by simpa using hk) j u hu
      rw [add_add]
      rw [show 1 + (k * Elm.sz (RV RF) + j) = (k + 1) * Elm.sz (RV RF) + j by rw [show Elm.sz (RV RF) = 1 from rfl]; omega]
      exact this

def mixQ (p r : List Rat) (i : Nat) : List Rat := (addQ p r).take i ++ p.drop i
theorem addQ_get {p r : List Rat} {i : Nat} {x y : Rat} (hx : p[i]? = some x) (hy : r[i]? = some y) : (addQ p r)[i]? = some (x + y) := by
  unfold addQ; rw [List.getElem?_zipWith, hx, hy]
theorem addQ_len {p r : List Rat} {m : Nat} (h1 : p.length = m) (h2 : r.length = m) : (addQ p r).length = m := by
  unfold addQ; rw [List.length_zipWith, h1, h2]; exact Nat.min_self m
theorem mixQ_0 (p r : List Rat) : mixQ p r 0 = p := by simp [mixQ]
theorem mixQ_end {p r : List Rat} {m : Nat} (h1 : p.length = m) (h2 : r.length = m) : mixQ p r m = addQ p r := by
  unfold mixQ
  rw [List.take_of_length_le (by rw [addQ_len h1 h2]; exact Nat.le_refl _), List.drop_of_length_le (by omega), List.append_nil]
theorem mixQ_get {p r : List Rat} {m i : Nat} (h1 : p.length = m) (h2 : r.length = m) (hi : i < m) : (mixQ p r i)[i]? = p[i]? := by
  unfold mixQ
  have hl : ((addQ p r).take i).length = i := by rw [List.length_take, addQ_len h1 h2]; omega
  rw [List.getElem?_append_right (by omega), hl, Nat.sub_self, List.getElem?_drop]; rfl
theorem mixQ_set {p r : List Rat} {m i : Nat} {x y : Rat} (h1 : p.length = m) (h2 : r.length = m) (hx : p[i]? = some x) (hy : r[i]? = some y) : (mixQ p r i).set i (x + y) = mixQ p r (i + 1) := by
  have hi := (List.getElem?_eq_some_iff.1 hx).1
  unfold mixQ
  have hl : ((addQ p r).take i).length = i := by rw [List.length_take, addQ_len h1 h2]; omega
  rw [List.set_append_right _ _ (by omega), hl, Nat.sub_self, take_more (addQ_get hx hy), List.append_assoc]
  congr 1
  have hd : p.drop i = x :: p.drop (i + 1) := by
    rw [List.drop_eq_getElem_cons hi, (List.getElem?_eq_some_iff.1 hx).2]
  rw [hd]; rfl
theorem foldl_len {m : Nat} : ∀ (l : List (List Rat)) (p : List Rat), p.length = m → (∀ r ∈ l, r.length = m) → (l.foldl addQ p).length = m
  | [], p, h, _ => h
  | r :: l, p, h, h2 => foldl_len l (addQ p r) (addQ_len h (h2 r List.mem_cons_self)) (fun r hr => h2 r (List.mem_cons_of_mem _ hr))
theorem addQ_sz {a k : Nat} {p r : List Rat} (h1 : ∀ x ∈ p, Sz k x) (h2 : ∀ x ∈ r, Sz a x) : ∀ x ∈ addQ p r, Sz (k + a + 1) x := by
  intro x hx
  obtain ⟨i, hi, e⟩ := List.mem_iff_getElem.1 hx
  unfold addQ at hi e
  rw [List.length_zipWith] at hi
  rw [List.getElem_zipWith] at e
  rw [← e]
  exact sz_add (h1 _ (List.getElem_mem _)) (h2 _ (List.getElem_mem _))
theorem foldl_sz {a : Nat} : ∀ (l : List (List Rat)) (p : List Rat) (k : Nat), (∀ x ∈ p, Sz k x) → (∀ r ∈ l, ∀ x ∈ r, Sz a x) → ∀ x ∈ l.foldl addQ p, Sz (k + l.length * (a + 1)) x
  | [], p, k, h, _ => by simpa using h
  | r :: l, p, k, h, h2 => by
    have := foldl_sz l (addQ p r) (k + a + 1) (addQ_sz h (h2 r List.mem_cons_self)) (fun r hr => h2 r (List.mem_cons_of_mem _ hr))
    intro x hx
    refine (this x hx).mono ?_
    rw [List.length_cons, Nat.add_mul]; omega

set_option maxHeartbeats 400000 in
theorem row_Add (p : Nat → Prop) (A : Option Addr) (c : Nat) (rows : List (RV RF)) (r0 : RV RF) (rs : List (RV RF)) (m a : Nat) (w : World) (h : Rw p w A rows) (hrs : rows = r0 :: rs) (hc : rows.length ≤ c) (hl : rows.length ≤ 1000) (hm : ∀ r ∈ rows, r.l.length = m) (hm2 : m ≤ 1000) (hsz : ∀ r ∈ rows, ∀ x ∈ r.l, Sz a x.q) (hb : rows.length * (a + 1) ≤ 10000) :
    Calls Tryz.prog 87 #[.slice A rows.length c] w (RowOut2 ((rs.map rowQ).foldl addQ (rowQ r0)) true w) := by
  have hk0 : rows[0]? = some r0 := by rw [hrs]; rfl
  have hN0 : 0 < rows.length := by rw [hrs]; simp
  have HRS := Asd.mk hrs
  have HM := Asd.mk hm; have HSZ := Asd.mk hsz
  clear hrs hm hsz
  replace h := h.mono (p' := fun k => k < w.heap.size) (fun k hk _ => hk)
  obtain ⟨ad, rfl, hp, hr0, hr0c, hc0⟩ := h.cells1 hk0
  have e0 : ad.add 0 = ad := by simp [Addr.add]
  rw [e0] at hc0
  have HM0 := Asd.mk (HM.out r0 (List.mem_of_getElem? hk0))
  have h0 : ¬ (rows.length : Int) = 0 := by omega
  obtain ⟨A1, hrun, hrest⟩ := tail_rows h HRS.out hc
  have HLEN : Asd (rows.length = rs.length + 1) := ⟨by rw [HRS.out]; rfl⟩
  have HMR : Asd (∀ r ∈ rs, r.l.length = m ∧ ∀ x ∈ r.l, Sz a x.q) := ⟨fun r hr => ⟨HM.out r (by rw [HRS.out]; exact List.mem_cons_of_mem _ hr), HSZ.out r (by rw [HRS.out]; exact List.mem_cons_of_mem _ hr)⟩⟩
  have HS0 : Asd (∀ x ∈ r0.l, Sz a x.q) := ⟨HSZ.out r0 (by rw [HRS.out]; exact List.mem_cons_self)⟩
  clear HM HSZ HRS
  go_enter Tryz.func87, Tryz.ntmps87
  go_wp2_with fail
  refine (row_norm _ r0.A r0.c r0.l w hr0 hr0c (by rw [HM0.out]; omega)).mono ?_
  rintro e w1 ⟨v, ys, rfl, hO, hQ, hR, hb1⟩
  have hyl : ys.length = m := by have := congrArg List.length hQ; simp only [List.length_map] at this; rw [this, HM0.out]
  obtain ⟨Ao, co, rfl, hco, _⟩ := hO.rd
  rw [hyl] at hO hco ⊢
  have HQ1 := Asd.mk hQ; have HR1 := Asd.mk hR; have HYL := Asd.mk hyl
  clear hQ hR hyl hr0 hc0 hr0c hk0
  obtain ⟨cur, hcur⟩ : ∃ cur : Nat → List Rat, cur = fun j => ((rs.take j).map rowQ).foldl addQ (rowQ r0) := ⟨_, rfl⟩
  have HCN : Asd (cur rs.length = (rs.map rowQ).foldl addQ (rowQ r0)) := ⟨by rw [hcur]; simp⟩
  have HC0 : Asd (ys.map RF.q = cur 0) := ⟨by rw [hcur, HQ1.out]; rfl⟩
  have HCS : Asd (∀ j r, rs[j]? = some r → cur (j + 1) = addQ (cur j) (rowQ r)) := ⟨fun j r hr => by
    rw [hcur]; simp only []; rw [take_more hr, List.map_append, List.foldl_append]; rfl⟩
  have HCL : Asd (∀ j, (cur j).length = m) := ⟨fun j => by
    rw [hcur]
    refine foldl_len _ _ (by unfold rowQ; rw [List.length_map]; exact HM0.out) (fun r hr => ?_)
    obtain ⟨r1, hr1, rfl⟩ := List.mem_map.1 hr
    unfold rowQ; rw [List.length_map]; exact (HMR.out r1 (List.mem_of_mem_take hr1)).1⟩
  have HCZ : Asd (∀ j, j ≤ rs.length → ∀ x ∈ cur j, Sz ((j + 1) * (a + 1)) x) := ⟨fun j hj x hx => by
    rw [hcur] at hx
    refine (foldl_sz (a := a) _ _ a (fun y hy => ?_) (fun r hr y hy => ?_) x hx).mono ?_
    · unfold rowQ at hy; obtain ⟨y1, h1, rfl⟩ := List.mem_map.1 hy; exact HS0.out y1 h1
    · obtain ⟨r1, hr1, rfl⟩ := List.mem_map.1 hr
      unfold rowQ at hy; obtain ⟨y1, h1, rfl⟩ := List.mem_map.1 hy
      exact (HMR.out r1 (List.mem_of_mem_take hr1)).2 y1 h1
    · rw [List.length_map, List.length_take, Nat.min_eq_left hj, Nat.add_mul]; omega⟩
  clear hcur HQ1 HS0
  have hs1 := hb1.size
  have hrl : rs.length ≤ 1000 := by have := HLEN.out; omega
  go_wp2_with fail
  go_loopw [19] (fun j wq => ∃ (k : Nat) (xs : List RF), k ≤ rs.length ∧ j = .int .i64 (k : Int) ∧ Asd (OwE 30 w.heap.size (fun k => w.heap.size ≤ k) wq (.slice Ao m co) xs) ∧ Asd (xs.map RF.q = cur k) ∧ Asd (∀ x ∈ xs, Rt x) ∧ Asd (Below w.heap.size w wq)) (fun j _ => (rs.length - intOf j).toNat)
  case atStart => exact ⟨0, ys, Nat.zero_le _, rfl, ⟨hO⟩, HC0, HR1, ⟨hb1⟩⟩
  case round =>
    obtain ⟨k, xs, hk, rfl, HO, HQ, HR, HB⟩ := hrel
    by_cases hkl : k < rs.length
    · obtain ⟨r, hr⟩ : ∃ r, rs[k]? = some r := ⟨_, List.getElem?_eq_getElem hkl⟩
      obtain ⟨ad1, rfl, hp1, hrr, hrc, hc1⟩ := (hrest.below HB.out).cells1 hr
      have hrw := (hrest.mem (List.mem_of_getElem? hr)).1
      have hm1 := (HMR.out r (List.mem_of_getElem? hr)).1
      have HZ1 := Asd.mk (HMR.out r (List.mem_of_getElem? hr)).2
      have HC1 := Asd.mk (HCS.out k r hr)
      have HL1 := Asd.mk (HCL.out k); have HZ2 := Asd.mk (HCZ.out k hk)
      have hb2 : (k + 2) * (a + 1) ≤ 10000 := Nat.le_trans (Nat.mul_le_mul_right _ (by rw [HLEN.out]; omega)) hb
      rw [hm1] at hc1 hrc
      have HM1 := Asd.mk hm1
      have HRL : Asd (rowQ r = r.l.map RF.q) := ⟨rfl⟩
      clear hm1 hrr
      obtain ⟨rA, rc, rl⟩ := r
      dsimp only at hrc hc1 hrw HM1 HZ1 HRL
      generalize hrq : rowQ ⟨rA, rc, rl⟩ = rq at *
      clear hrq
      generalize wr = V at *
      go_wp2_with fail
      go_loopw [30] (fun i wq => ∃ (n : Nat) (zs : List RF), n ≤ m ∧ i = .int .i64 (n : Int) ∧ Asd (OwE 30 w.heap.size (fun k => w.heap.size ≤ k) wq (.slice Ao m co) zs) ∧ Asd (zs.map RF.q = mixQ (cur k) rq n) ∧ Asd (∀ x ∈ zs, Rt x) ∧ Asd (Below w.heap.size w wq)) (fun i _ => (m - intOf i).toNat)
      case atStart => exact ⟨0, xs, Nat.zero_le _, rfl, HO, ⟨by rw [mixQ_0]; exact HQ.out⟩, HR, HB⟩
      case round =>
        obtain ⟨n, zs, hn, rfl, HX, HZQ, HZR, HZB⟩ := hrel
        by_cases hnm : n < m
        · obtain ⟨x, hx⟩ : ∃ x, rl[n]? = some x := ⟨_, List.getElem?_eq_getElem (by rw [HM1.out]; exact hnm)⟩
          have hzl := HX.out.len
          obtain ⟨z, hz⟩ : ∃ z, zs[n]? = some z := ⟨_, List.getElem?_eq_getElem (by omega)⟩
          obtain ⟨ad2, rfl, hp2, hox, hc0, hc1', hc2⟩ := (hrw.below HZB.out).cells3 hx
          have hblk := HX.out.blk (by omega)
          rw [hzl] at hblk
          obtain ⟨g, co', e1, hgB, hgl, hgc⟩ := hblk
          injection e1 with e1 e2 e3
          subst e1 e3
          clear hgc
          have hxq : rq[n]? = some x.q := by rw [HRL.out, List.getElem?_map, hx]; rfl
          have hrql : rq.length = m := by rw [HRL.out, List.length_map]; exact HM1.out
          have hzq : (cur k)[n]? = some z.q := by
            rw [← mixQ_get HL1.out hrql hnm, ← HZQ.out, List.getElem?_map, hz]; rfl
          have HSUM : Asd (Sz 10000 (z.q + x.q)) := ⟨((sz_add (HZ2.out _ (List.mem_of_getElem? hzq)) (HZ1.out x (List.mem_of_getElem? hx))).mono (by rw [show k + 2 = (k + 1) + 1 from rfl, Nat.add_mul (k + 1) 1 (a + 1)] at hb2; omega))⟩
          have HSET := Asd.mk (mixQ_set HL1.out hrql hzq hxq)
          have hoz := HX.out.2 z (List.mem_of_getElem? hz)
          have hoxa := (hox.alloc (.cells #[.bool x.n, .slice x.A x.l.length x.c, .slice x.A' x.d.length x.c'] 30)).drew
          have hoza : z.ok _ (wr.alloc (.cells #[.bool x.n, .slice x.A x.l.length x.c, .slice x.A' x.d.length x.c'] 30)).drew := (RF.ok.alloc hoz (.cells #[.bool x.n, .slice x.A x.l.length x.c, .slice x.A' x.d.length x.c'] 30)).drew
          have HXa := (HX.out.alloc (.cells #[.bool x.n, .slice x.A x.l.length x.c, .slice x.A' x.d.length x.c'] 30)).drew
          have XE := (Blk.new wr [.bool x.n, .slice x.A x.l.length x.c, .slice x.A' x.d.length x.c'] 30).drew
          have hBa := below_drewN (HZB.out.alloc HZB.out.size (.cells #[.bool x.n, .slice x.A x.l.length x.c, .slice x.A' x.d.length x.c'] 30)) 1
          have hs3 : (wr.alloc (.cells #[.bool x.n, .slice x.A x.l.length x.c, .slice x.A' x.d.length x.c'] 30)).drew.heap.size = wr.heap.size + 1 := World.size_alloc _ _
          obtain ⟨d0, d1, d2, df⟩ := HXa.cellsOf hz
          have e0 := XE.c 0 rfl; have e1 := XE.c 1 rfl; have e2 := XE.c 2 rfl
          have hgl2 : g < (wr.alloc (.cells #[.bool x.n, .slice x.A x.l.length x.c, .slice x.A' x.d.length x.c'] 30)).drew.heap.size := by omega
          have HZL := Asd.mk hzl
          have hszB := HZB.out.size
          clear hzl hxq hrql hzq hoz
          go_wp2_with fail
          generalize wr.alloc (.cells #[.bool x.n, .slice x.A x.l.length x.c, .slice x.A' x.d.length x.c'] 30) = U at *
          clear hc0 hc1' hc2
          go_region_with
            (first
              | (go_at_call 23; refine (frac_Add _ _ z x _ hoza hoxa).mono ?_; rintro e w2 hfm; obtain ⟨y, rfl, hqy, hRy, hoy, hb3⟩ := hfm.rf HSUM.out; replace HXa := HXa.below hb3; obtain ⟨d0, d1, d2, df⟩ := HXa.cellsOf hz; have hz3 := hb3.size; replace hBa := hBa.trans (hb3.mono (by omega)); replace hgl2 : g < w2.heap.size := by omega))
          all_goals go_wp2
          all_goals go_roundw
          all_goals first
            | (simp only [intOf]; go_num; done)
            | exact ⟨n + 1, zs.set n y, by omega, by go_num, ⟨HXa.store n (by rw [HZL.out]; exact hnm) (hoy.mono (fun k _ hk => ⟨by omega, by omega⟩))⟩, ⟨by rw [List.map_set, HZQ.out, hqy]; exact HSET.out⟩, ⟨Rt_set HZR.out hRy⟩, ⟨((hBa.setCell (by simp; omega) _).setCell (by simp; omega) _).setCell (by simp; omega) _⟩⟩
        · have hrql : rq.length = m := by rw [HRL.out, List.length_map]; exact HM1.out
          have HE := Asd.mk (mixQ_end HL1.out hrql)
          have hnm2 : n = m := by omega
          subst hnm2
          rw [HE.out, ← HC1.out] at HZQ
          clear hrql HE
          go_wp2
          go_roundw
          case rel => exact ⟨k + 1, zs, by omega, by go_num, HX, HZQ, HZR, HZB⟩
          case measure => simp [intOf]; omega
    · have hk2 : k = rs.length := by omega
      subst hk2
      go_wp2
      go_ret2
      exact ⟨_, xs, rfl, HO.out, HQ.out.trans HCN.out, HR.out, HB.out⟩
end Go.Proofs.YthjpkichpkomcaaGreatDoor
