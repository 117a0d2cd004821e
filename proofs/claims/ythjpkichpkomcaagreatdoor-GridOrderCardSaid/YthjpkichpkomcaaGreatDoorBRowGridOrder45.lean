/- RowT · GridL -/
import Derived.Test.YthjpkichpkomcaaGreatDoorBRowGridOrder43
import Derived.Test.YthjpkichpkomcaaGreatDoorBRowGridOrder44
import Derived.Test.YthjpkichpkomcaaGreatDoorDig2
import Derived.Test.YthjpkichpkomcaaGreatDoorBRowGridOrder41
/- A row's text, of two fractions (row.Text). -/
namespace Go.Proofs.YthjpkichpkomcaaGreatDoor
open Go.RowKit Go.Proofs.YthjpkichpkomcaaGreatDoor.Big
set_option linter.unusedVariables false
set_option maxRecDepth 100000
attribute [local go_sem ↓] Go.wp_at_zero Go.wp_at_succ

theorem info_text : (Tryz.prog.info? 9).map (fun i => (i.zero, i.size, i.bytes)) = some (some (.string ByteArray.empty), 1, 16) := by kernel_rfl
theorem figT_len {q : Rat} (hs : Sz 10000 q) : (figT q).length ≤ 1000000 := by
  have h1 : (wholeT q.num).length ≤ 180002 := by
    have h := decT_len (l := mag q.num) (Wd_rep _)
    have h2 := hs.1
    rw [← zv_mag q.num, zv_text (n := ng q.num) (l := mag q.num) (Wd_rep _)]
    split <;> simp <;> omega
  have h2 : (decT (q.den : Int)).length ≤ 180001 := by
    have h := decT_len (l := rep (q.den : Int)) (Wd_rep _)
    have h2 := hs.2
    rw [val_rep (Int.le_of_lt (den_pos q))] at h
    omega
  unfold figT
  rw [List.length_append]
  split <;> simp <;> omega

set_option maxHeartbeats 2000000 in
theorem row_Text2 (p : Nat → Prop) (A : Option Addr) (c : Nat) (x0 x1 : RF) (w : World) (h : Rw p w A [x0, x1]) (hc : 2 ≤ c) :
    Calls Tryz.prog 86 #[.slice A 2 c] w fun e w' => e = .returned (.string ⟨(figT x0.q ++ 44 :: figT x1.q).toArray⟩) ∧ Below w.heap.size w w' := by
  obtain ⟨i0, hi, hi0, hi1, hi2⟩ := info_parts info_text
  have hsz0 := figT_len (sz_ok (h.mem (x := x0) (by simp)))
  have hsz1 := figT_len (sz_ok (h.mem (x := x1) (by simp)))
  obtain ⟨xs, hxs⟩ : ∃ xs : List RF, xs = [x0, x1] := ⟨_, rfl⟩
  rw [← hxs] at h
  have hxl : xs.length = 2 := by rw [hxs]; rfl
  have HXL := Asd.mk hxl
  have HE : Asd (xs.map (fun x => TS.mk (figT x.q)) = [TS.mk (figT x0.q), TS.mk (figT x1.q)]) := ⟨by rw [hxs]; rfl⟩
  clear hxs hxl
  go_enter Tryz.func86, Tryz.ntmps86
  go_wp2_with fail
  go_loopw [3, 8] (fun v i wq => ∃ (k : Nat) (ts : List TS), k ≤ 2 ∧ i = .int .i64 (k : Int) ∧ Asd (OwE 9 w.heap.size (fun _ => True) wq v ts) ∧ Asd (ts = (xs.take k).map (fun x => TS.mk (figT x.q))) ∧ Asd (Below w.heap.size w wq)) (fun _ i _ => (2 - intOf i).toNat)
  case atStart => exact ⟨0, [], Nat.zero_le _, rfl, ⟨OwE.nil _ _ _ _⟩, ⟨by simp⟩, ⟨Below.refl _ _⟩⟩
  case round =>
    obtain ⟨k, ts, hk, rfl, HO, HQ, HB⟩ := hrel
    by_cases hkl : k < 2
    · obtain ⟨x, hx⟩ : ∃ x, xs[k]? = some x := ⟨_, List.getElem?_eq_getElem (by rw [HXL.out]; exact hkl)⟩
      obtain ⟨ad, hA, hp, hok, hc0, hc1, hc2⟩ := (h.below HB.out).cells3 hx
      subst hA
      have hsz := HB.out.size
      have htl : ts.length = k := by rw [HQ.out, List.length_map, List.length_take, HXL.out]; omega
      have hok1 := hok.alloc (.cells #[.bool x.n, .slice x.A x.l.length x.c, .slice x.A' x.d.length x.c'] 30)
      have HO1 := HO.out.alloc (.cells #[.bool x.n, .slice x.A x.l.length x.c, .slice x.A' x.d.length x.c'] 30)
      have HB1 := HB.out.alloc hsz (.cells #[.bool x.n, .slice x.A x.l.length x.c, .slice x.A' x.d.length x.c'] 30)
      have hlt := fun g e => (HO.out.lt g e).2
      go_wp2_with fail
      refine (figure_Text _ x _ hok1).mono ?_
      generalize wr.alloc (.cells #[.bool x.n, .slice x.A x.l.length x.c, .slice x.A' x.d.length x.c'] 30) = V at *
      rintro e w1 ⟨rfl, hb1⟩
      have hO1 := HO1.below hb1
      have hB1 := below_go HB1 hb1
      have hs1 := hB1.size
      go_wp2_with (at_builtin; go_loud (refine wpList_push rfl _ _ 140 rfl _ _ 9 i0 _ 16 Tryz.underlying140 hi hi0 hi1 hi2 rfl _ _ rfl (TS.mk (figT x.q)) w1 rfl hO1 trivial hs1 (by omega) (by decide) ?_))
      intro v' w4 hP hgrow hown
      go_wp2
      go_roundw
      case rel => exact ⟨k + 1, _, by omega, by go_num, ⟨hP⟩, ⟨by rw [take_more hx, List.map_append, HQ.out]; rfl⟩, ⟨hB1.grown hgrow hs1 (fun g hg => (hown g hg).1)⟩⟩
      case measure => simp [intOf]; omega
    · have e : xs.take k = xs := List.take_of_length_le (by rw [HXL.out]; omega)
      rw [e, HE.out] at HQ
      obtain ⟨Am, cm, rfl, hcm, hRm⟩ := HO.out.rd
      have hsz := HB.out.size
      have hHQ := HQ.out
      subst hHQ
      have hJ := Asd.mk (strings_Join2 _ Am cm (figT x0.q) (figT x1.q) wr hRm hcm hsz0 hsz1)
      go_wp2_with fail
      refine hJ.out.mono ?_
      rintro e w1 ⟨rfl, hb1⟩
      go_wp2
      go_ret
      exact ⟨rfl, below_go HB.out hb1⟩
end Go.Proofs.YthjpkichpkomcaaGreatDoor
/- Matrices as lists of values: what the walks compute, without the walks. -/
namespace Go.Proofs.YthjpkichpkomcaaGreatDoor
open Go.RowKit Go.Proofs.YthjpkichpkomcaaGreatDoor.Big
set_option linter.unusedVariables false

def leftL (a : List Rat) (m : List (List Rat)) : List Rat := sumM (List.zipWith (fun x r => r.map (x * ·)) a m)
theorem leftQ_eq (xs : List RF) (rows : List (RV RF)) : leftQ xs rows = leftL (xs.map RF.q) (rows.map rowQ) := by
  unfold leftQ leftL scaledQ
  rw [List.zipWith_map]
def mulL (m m' : List (List Rat)) : List (List Rat) := m.map (fun r => leftL r m')
theorem mulQ_eq (rows rows' : List (RV RF)) : mulQ rows rows' = mulL (rows.map rowQ) (rows'.map rowQ) := by
  unfold mulQ mulL
  rw [List.map_map]
  apply List.map_congr_left
  intro r _
  exact leftQ_eq r.l rows'
def dotL (a b : List Rat) : Rat := sumQ (List.zipWith (· * ·) a b)
theorem dotQ_eq (xs ys : List RF) : sumQ (prodsQ xs ys) = dotL (xs.map RF.q) (ys.map RF.q) := by
  unfold dotL prodsQ
  rw [List.zipWith_map]
def applyL (m : List (List Rat)) (c : List Rat) : List Rat := m.map (fun r => dotL r c)
theorem applyQ_eq (rows : List (RV RF)) (ys : List RF) : applyQ rows ys = applyL (rows.map rowQ) (ys.map RF.q) := by
  unfold applyQ applyL
  rw [List.map_map]
  apply List.map_congr_left
  intro r _
  exact dotQ_eq r.l ys
def turnL (m : List (List Rat)) (n : Nat) : List (List Rat) := (List.range n).map (fun i => m.map (fun r => r.getD i 0))
theorem turnQ_eq (rows : List (RV RF)) (n : Nat) : turnQ rows n = turnL (rows.map rowQ) n := by
  unfold turnQ turnL colQ
  apply List.map_congr_left
  intro i _
  rw [List.map_map]; rfl
theorem rows_len {rows : List (RV RF)} {m : List (List Rat)} {n : Nat} (h : rows.map rowQ = m) (hm : ∀ q ∈ m, q.length = n) : ∀ r ∈ rows, r.l.length = n := fun r hr => by
  have := hm (rowQ r) (by rw [← h]; exact List.mem_map_of_mem hr)
  unfold rowQ at this
  rwa [List.length_map] at this
theorem rows_sz {rows : List (RV RF)} {m : List (List Rat)} {a : Nat} (h : rows.map rowQ = m) (hm : ∀ q ∈ m, ∀ x ∈ q, Sz a x) : ∀ r ∈ rows, ∀ x ∈ r.l, Sz a x.q := fun r hr x hx =>
  hm (rowQ r) (by rw [← h]; exact List.mem_map_of_mem hr) x.q (by unfold rowQ; exact List.mem_map_of_mem hx)
theorem rows_width {rows : List (RV RF)} {m : List (List Rat)} {n : Nat} (h : rows.map rowQ = m) (hm : ∀ q ∈ m, q.length = n) (h0 : m = [] → n = 0) : widthM rows = n := by
  cases hr : rows with
  | nil => rw [hr] at h; rw [h0 h.symm]; rfl
  | cons r rs =>
    show r.l.length = n
    exact rows_len h hm r (by rw [hr]; exact List.mem_cons_self)
theorem row_sz {xs : List RF} {l : List Rat} {a : Nat} (h : xs.map RF.q = l) (hl : ∀ x ∈ l, Sz a x) : ∀ x ∈ xs, Sz a x.q := fun x hx => hl x.q (by rw [← h]; exact List.mem_map_of_mem hx)
end Go.Proofs.YthjpkichpkomcaaGreatDoor
