/- Plain lemmas on the functions that the law LayoutPlaces reaches: no memory and no Go in them. -/
import Derived.Test.YtmchbeobljgkeaaPLayoutPlacesx
set_option linter.unusedVariables false
namespace Go.Proofs.Ytmchbeobljgkeaa.PLayoutPlaces
open Go.RowKit Go.Proofs.YtmchbeobljgkeaaW.PrintWords Go.Proofs.YtmchbeobljgkeaaW.PrintLast
/-! ### numbers and lists -/
theorem w64 {n : Int} (h : -9223372036854775808 ≤ n) (h2 : n ≤ 9223372036854775807) : wrap64 n = n := by unfold wrap64; omega
theorem wnat {i n : Nat} (h : i < n) (hn : n ≤ 9223372036854775807) : wrap64 ((i : Int) + 1) = ((i + 1 : Nat) : Int) := by unfold wrap64; omega
def mt (m : S54) : Int := m.f0 * m.f1
def okm (m : S54) : Prop := 1 ≤ m.f0 ∧ m.f0 ≤ 16 ∧ 1 ≤ m.f1 ∧ m.f1 ≤ 96
instance (m : S54) : Decidable (okm m) := by unfold okm; infer_instance
theorem mt_bd {m : S54} (h : okm m) : 1 ≤ mt m ∧ mt m ≤ 1536 := by
  obtain ⟨h1, h2, h3, h4⟩ := h
  unfold mt
  obtain h | h | h | h | h | h | h | h | h | h | h | h | h | h | h | h : m.f0 = 1 ∨ m.f0 = 2 ∨ m.f0 = 3 ∨ m.f0 = 4 ∨ m.f0 = 5 ∨ m.f0 = 6 ∨ m.f0 = 7 ∨ m.f0 = 8 ∨ m.f0 = 9 ∨ m.f0 = 10 ∨ m.f0 = 11 ∨ m.f0 = 12 ∨ m.f0 = 13 ∨ m.f0 = 14 ∨ m.f0 = 15 ∨ m.f0 = 16 := by omega
  all_goals rw [h]; omega
def tot : List S54 → Int
  | [] => 0
  | m :: l => mt m + tot l
theorem tot_append (a b : List S54) : tot (a ++ b) = tot a + tot b := by
  induction a with
  | nil => simp [tot]
  | cons m a ih => simp [tot, ih]; omega
theorem tot_bd {l : List S54} (h : ∀ m ∈ l, okm m) : (l.length : Int) ≤ tot l ∧ tot l ≤ 1536 * l.length := by
  induction l with
  | nil => simp [tot]
  | cons m l ih =>
    have h1 := mt_bd (h m (by simp))
    have h2 := ih (fun x hx => h x (by simp [hx]))
    simp only [tot, List.length_cons]
    omega
theorem rd_at {l : List S54} {i : Nat} (h : i < l.length) : rd_T54 l (i : Int) = l[i] := by
  unfold rd_T54
  simp [List.getD_eq_getElem?_getD, h]
theorem drop_at {l : List S54} {i : Nat} (h : i < l.length) : l.drop i = l[i] :: l.drop (i + 1) := List.drop_eq_getElem_cons h
theorem take_at {l : List S54} {i : Nat} (h : i < l.length) : l.take (i + 1) = l.take i ++ [l[i]] := by
  rw [List.take_succ_eq_append_getElem h]
theorem tot_take_succ {l : List S54} {i : Nat} (h : i < l.length) : tot (l.take (i + 1)) = tot (l.take i) + mt l[i] := by
  rw [take_at h, tot_append]; simp [tot]
theorem ok_take {l : List S54} (h : ∀ m ∈ l, okm m) (i : Nat) : ∀ m ∈ l.take i, okm m := fun m hm => h m (List.mem_of_mem_take hm)
theorem tot_take_bd {l : List S54} (h : ∀ m ∈ l, okm m) (hl : l.length ≤ 128) (i : Nat) : 0 ≤ tot (l.take i) ∧ tot (l.take i) ≤ 196608 := by
  have h1 := tot_bd (ok_take h i)
  have h2 := List.length_take_le i l
  have h3 : (l.take i).length ≤ l.length := List.length_take_le' i l
  omega
theorem tot_take_le {l : List S54} (h : ∀ m ∈ l, okm m) (i : Nat) : tot (l.take i) ≤ tot l := by
  have h1 := tot_append (l.take i) (l.drop i)
  rw [List.take_append_drop] at h1
  have h2 := tot_bd (l := l.drop i) (fun m hm => h m (List.mem_of_mem_drop hm))
  omega
theorem tot_take_mono {l : List S54} (h : ∀ m ∈ l, okm m) {i j : Nat} (hij : i ≤ j) : tot (l.take i) ≤ tot (l.take j) := by
  have := tot_take_le (ok_take h j) i
  rwa [List.take_take, Nat.min_eq_left hij] at this

/-! ### Check -/
/-- what Check says of a list -/
def chk (l : List S54) : Int :=
  if l.length = 0 then 4 else if 128 < l.length then 3 else if ∀ m ∈ l, okm m then (if 8192 < tot l then 3 else 0) else 1
/-- a list that Check lets by -/
structure Good (l : List S54) : Prop where
  pos : 0 < l.length
  len : l.length ≤ 128
  ok : ∀ m ∈ l, okm m
  tot : tot l ≤ 8192
theorem chk_good {l : List S54} (h : chk l = 0) : Good l := by
  unfold chk at h
  by_cases h1 : l.length = 0
  · rw [if_pos h1] at h; omega
  · rw [if_neg h1] at h
    by_cases h2 : 128 < l.length
    · rw [if_pos h2] at h; omega
    · rw [if_neg h2] at h
      by_cases h3 : ∀ m ∈ l, okm m
      · rw [if_pos h3] at h
        by_cases h4 : 8192 < tot l
        · rw [if_pos h4] at h; omega
        · exact ⟨by omega, by omega, h3, by omega⟩
      · rw [if_neg h3] at h; omega
theorem good_chk {l : List S54} (g : Good l) : chk l = 0 := by
  have := g.pos; have := g.len; have := g.tot
  unfold chk
  rw [if_neg (by omega), if_neg (by omega), if_pos g.ok, if_neg (by omega)]
theorem not_good {l : List S54} (h : chk l ≠ 0) : ¬ Good l := fun g => h (good_chk g)
theorem ok_all_drop {l : List S54} {i : Nat} (h : i < l.length) : (∀ m ∈ l.drop i, okm m) ↔ okm l[i] ∧ ∀ m ∈ l.drop (i + 1), okm m := by
  rw [drop_at h, List.forall_mem_cons]
/-- a bad element decides -/
theorem bad_split {m : S54} (h : ¬ okm m) : m.f0 < 1 ∨ (¬ m.f0 < 1 ∧ m.f0 > 16) ∨ (¬ m.f0 < 1 ∧ ¬ m.f0 > 16 ∧ m.f1 < 1) ∨ (¬ m.f0 < 1 ∧ ¬ m.f0 > 16 ∧ ¬ m.f1 < 1 ∧ m.f1 > 96) := by
  unfold okm at h; omega

theorem check_loop (l : List S54) (hl : l.length ≤ 128) (d : Nat) : ∀ (i : Nat) (acc : Int), i + d = l.length → 0 ≤ acc → acc ≤ 1536 * i →
    Ev (fun k => meter_Check.l0 k acc l (l.length : Int) (i : Int)) (if ∀ m ∈ l.drop i, okm m then (if 8192 < acc + tot (l.drop i) then 3 else 0) else 1) := by
  induction d with
  | zero =>
    intro i acc hi h0 h1
    rw [show l.drop i = [] from by rw [List.drop_eq_nil_iff]; omega]
    refine Ev.step (f := fun _ => some (if 8192 < acc then 3 else 0)) (fun k => ?_) ?_
    · simp only [meter_Check.l0]
      rw [if_neg (by omega)]
      by_cases h : 8192 < acc
      · rw [if_pos h, if_pos h]
      · rw [if_neg h, if_neg h]
    · simp only [tot]
      exact Ev.now _ |> fun h => by simpa using h
  | succ d ih =>
    intro i acc hi h0 h1
    have hlt : i < l.length := by omega
    by_cases hok : okm l[i]
    · have hb := mt_bd hok
      have := ih (i + 1) (acc + mt l[i]) (by omega) (by omega) (by push_cast; omega)
      have e1 : (∀ m ∈ l.drop i, okm m) ↔ ∀ m ∈ l.drop (i + 1), okm m := by rw [ok_all_drop hlt]; exact ⟨fun h => h.2, fun h => ⟨hok, h⟩⟩
      have e2 : acc + tot (l.drop i) = acc + mt l[i] + tot (l.drop (i + 1)) := by rw [drop_at hlt]; simp only [tot]; omega
      rw [e2]
      simp only [e1]
      refine Ev.step (fun k => ?_) this
      simp only [meter_Check.l0]
      obtain ⟨o1, o2, o3, o4⟩ := hok
      rw [rd_at hlt, if_pos (by omega), if_pos (by omega), if_pos (by omega), if_neg (by omega), if_neg (by omega), if_neg (by omega), if_neg (by omega)]
      have e3 : wrap64 (l[i].f0 * l[i].f1) = mt l[i] := by unfold mt at hb ⊢; exact w64 (by omega) (by omega)
      rw [e3, w64 (by omega) (by omega), wnat (n := 128) (by omega) (by omega)]
    · have e1 : ¬ ∀ m ∈ l.drop i, okm m := by rw [ok_all_drop hlt]; exact fun h => hok h.1
      rw [if_neg e1]
      refine Ev.step (f := fun _ => some 1) (fun k => ?_) (Ev.now 1)
      simp only [meter_Check.l0]
      rw [rd_at hlt, if_pos (by omega), if_pos (by omega), if_pos (by omega)]
      rcases bad_split hok with h | ⟨h, g⟩ | ⟨h, g, e⟩ | ⟨h, g, e, f⟩
      · rw [if_pos h]
      · rw [if_neg h, if_pos g]
      · rw [if_neg h, if_neg g, if_pos e]
      · rw [if_neg h, if_neg g, if_neg e, if_pos f]
theorem check_ev (l : List S54) : Ev (fun k => meter_Check.f k l) (chk l) := by
  unfold chk
  by_cases h1 : l.length = 0
  · rw [if_pos h1]
    refine Ev.congr (f := fun _ => some 4) (fun k => ?_) (Ev.now 4)
    unfold meter_Check.f
    rw [if_pos (by omega)]
  · rw [if_neg h1]
    by_cases h2 : 128 < l.length
    · rw [if_pos h2]
      refine Ev.congr (f := fun _ => some 3) (fun k => ?_) (Ev.now 3)
      unfold meter_Check.f
      rw [if_neg (by omega), if_pos (by omega)]
    · rw [if_neg h2]
      have := check_loop l (by omega) l.length 0 0 (by omega) (by omega) (by omega)
      simp only [List.drop_zero, Int.zero_add] at this
      refine Ev.congr (fun k => ?_) this
      unfold meter_Check.f
      rw [if_neg (by omega), if_neg (by omega)]
      rfl
/-! ### begin -/
theorem begin_loop (l : List S54) (ho : ∀ m ∈ l, okm m) (hl : l.length ≤ 128) (d : Nat) : ∀ (i : Nat) (acc : Int), i + d = l.length → 0 ≤ acc → acc ≤ 1536 * i →
    Ev (fun k => meter_begin.l0 k acc l (l.length : Int) (i : Int)) (acc + tot (l.drop i)) := by
  induction d with
  | zero =>
    intro i acc hi h0 h1
    rw [show l.drop i = [] from by rw [List.drop_eq_nil_iff]; omega]
    refine Ev.step (f := fun _ => some acc) (fun k => ?_) ?_
    · simp only [meter_begin.l0]
      rw [if_neg (by omega)]
    · simp only [tot, Int.add_zero]; exact Ev.now _
  | succ d ih =>
    intro i acc hi h0 h1
    have hlt : i < l.length := by omega
    have hb := mt_bd (ho l[i] (List.getElem_mem hlt))
    have := ih (i + 1) (acc + mt l[i]) (by omega) (by omega) (by push_cast; omega)
    have e2 : acc + tot (l.drop i) = acc + mt l[i] + tot (l.drop (i + 1)) := by rw [drop_at hlt]; simp only [tot]; omega
    rw [e2]
    refine Ev.step (fun k => ?_) this
    simp only [meter_begin.l0]
    rw [rd_at hlt, if_pos (by omega), if_pos (by omega), if_pos (by omega)]
    have e3 : wrap64 (l[i].f0 * l[i].f1) = mt l[i] := by unfold mt at hb ⊢; exact w64 (by omega) (by omega)
    rw [e3, w64 (by omega) (by omega), wnat (n := 128) (by omega) (by omega)]
theorem begin_ev (l : List S54) (ho : ∀ m ∈ l, okm m) (hl : l.length ≤ 128) (i : Nat) (hi : i ≤ l.length) : Ev (fun k => meter_begin.f k l (i : Int)) (tot (l.take i)) := by
  have h3 : (l.take i).length ≤ l.length := List.length_take_le' i l
  have := begin_loop (l.take i) (ok_take ho i) (by omega) (l.take i).length 0 0 (by omega) (by omega) (by omega)
  simp only [List.drop_zero, Int.zero_add] at this
  refine Ev.congr (fun k => ?_) this
  unfold meter_begin.f
  rw [if_pos (by omega), if_pos (by omega)]
  simp only [Option.bind_some, Int.toNat_natCast]
  rfl
/-! ### the reference: total, Check, Length -/
theorem rtotal_loop (l : List S54) (ho : ∀ m ∈ l, okm m) (hl : l.length ≤ 128) (d : Nat) : ∀ (i : Nat) (acc : Int), i + d = l.length → 0 ≤ acc → acc ≤ 1536 * i →
    Ev (fun k => dancestudioref13_total.l0 k l acc (i : Int)) (acc + tot (l.drop i)) := by
  induction d with
  | zero =>
    intro i acc hi h0 h1
    rw [show l.drop i = [] from by rw [List.drop_eq_nil_iff]; omega]
    refine Ev.step (f := fun _ => some acc) (fun k => ?_) ?_
    · simp only [dancestudioref13_total.l0]
      rw [if_neg (by omega)]
    · simp only [tot, Int.add_zero]; exact Ev.now _
  | succ d ih =>
    intro i acc hi h0 h1
    have hlt : i < l.length := by omega
    have hb := mt_bd (ho l[i] (List.getElem_mem hlt))
    have := ih (i + 1) (acc + mt l[i]) (by omega) (by omega) (by push_cast; omega)
    have e2 : acc + tot (l.drop i) = acc + mt l[i] + tot (l.drop (i + 1)) := by rw [drop_at hlt]; simp only [tot]; omega
    rw [e2]
    refine Ev.step (fun k => ?_) this
    simp only [dancestudioref13_total.l0]
    rw [rd_at hlt, if_pos (by omega), if_pos (by omega)]
    have e3 : wrap64 (l[i].f0 * l[i].f1) = mt l[i] := by unfold mt at hb ⊢; exact w64 (by omega) (by omega)
    rw [e3, w64 (by omega) (by omega), wnat (n := 128) (by omega) (by omega)]
theorem rtotal_ev (l : List S54) (ho : ∀ m ∈ l, okm m) (hl : l.length ≤ 128) : Ev (fun k => dancestudioref13_total.f k l) (tot l) := by
  have := rtotal_loop l ho hl l.length 0 0 (by omega) (by omega) (by omega)
  simp only [List.drop_zero, Int.zero_add] at this
  exact Ev.congr (fun k => rfl) this
theorem rtotal_take (l : List S54) (ho : ∀ m ∈ l, okm m) (hl : l.length ≤ 128) (i : Nat) : Ev (fun k => dancestudioref13_total.f k (l.take ((i : Int)).toNat)) (tot (l.take i)) := by
  have h3 : (l.take i).length ≤ l.length := List.length_take_le' i l
  rw [Int.toNat_natCast]
  exact rtotal_ev _ (ok_take ho i) (by omega)
theorem rcheck_loop (l : List S54) (hl : l.length ≤ 128) (d : Nat) : ∀ (i : Nat), i + d = l.length → (∀ m ∈ l.take i, okm m) →
    Ev (fun k => dancestudioref13_Check.l0 k l (i : Int)) (if ∀ m ∈ l.drop i, okm m then (if 8192 < tot l then 3 else 0) else 1) := by
  induction d with
  | zero =>
    intro i hi ht
    rw [List.take_of_length_le (by omega)] at ht
    rw [show l.drop i = [] from by rw [List.drop_eq_nil_iff]; omega]
    refine Ev.step (f := fun k => (dancestudioref13_total.f k l).bind fun t => (if t > 8192 then (some 3) else (some 0))) (fun k => ?_) (Ev.bind (rtotal_ev l ht hl) ?_)
    · simp only [dancestudioref13_Check.l0]
      rw [if_neg (by omega)]
    · by_cases h : 8192 < tot l
      · simp only [gt_iff_lt, if_pos h]; simpa using Ev.now (3 : Int)
      · simp only [gt_iff_lt, if_neg h]; simpa using Ev.now (0 : Int)
  | succ d ih =>
    intro i hi ht
    have hlt : i < l.length := by omega
    by_cases hok : okm l[i]
    · have := ih (i + 1) (by omega) (by
        intro m hm
        rw [take_at hlt, List.mem_append] at hm
        rcases hm with hm | hm
        · exact ht m hm
        · rw [List.mem_singleton.1 hm]; exact hok)
      have e1 : (∀ m ∈ l.drop i, okm m) ↔ ∀ m ∈ l.drop (i + 1), okm m := by rw [ok_all_drop hlt]; exact ⟨fun h => h.2, fun h => ⟨hok, h⟩⟩
      simp only [e1]
      refine Ev.step (fun k => ?_) this
      simp only [dancestudioref13_Check.l0]
      obtain ⟨o1, o2, o3, o4⟩ := hok
      rw [rd_at hlt, if_pos (by omega), if_pos (by omega), if_neg (by omega), if_neg (by omega), if_neg (by omega), if_neg (by omega)]
      rw [wnat (n := 128) (by omega) (by omega)]
    · have e1 : ¬ ∀ m ∈ l.drop i, okm m := by rw [ok_all_drop hlt]; exact fun h => hok h.1
      rw [if_neg e1]
      refine Ev.step (f := fun _ => some 1) (fun k => ?_) (Ev.now 1)
      simp only [dancestudioref13_Check.l0]
      rw [rd_at hlt, if_pos (by omega), if_pos (by omega)]
      rcases bad_split hok with h | ⟨h, g⟩ | ⟨h, g, e⟩ | ⟨h, g, e, f⟩
      · rw [if_pos h]
      · rw [if_neg h, if_pos g]
      · rw [if_neg h, if_neg g, if_pos e]
      · rw [if_neg h, if_neg g, if_neg e, if_pos f]
theorem rcheck_ev (l : List S54) : Ev (fun k => dancestudioref13_Check.f k l) (chk l) := by
  unfold chk
  by_cases h1 : l.length = 0
  · rw [if_pos h1]
    refine Ev.congr (f := fun _ => some 4) (fun k => ?_) (Ev.now 4)
    unfold dancestudioref13_Check.f
    rw [if_pos (by omega)]
  · rw [if_neg h1]
    by_cases h2 : 128 < l.length
    · rw [if_pos h2]
      refine Ev.congr (f := fun _ => some 3) (fun k => ?_) (Ev.now 3)
      unfold dancestudioref13_Check.f
      rw [if_neg (by omega), if_pos (by omega)]
    · rw [if_neg h2]
      have := rcheck_loop l (by omega) l.length 0 (by omega) (by simp)
      simp only [List.drop_zero] at this
      refine Ev.congr (fun k => ?_) this
      unfold dancestudioref13_Check.f
      rw [if_neg (by omega), if_neg (by omega)]
      rfl
/-! ### Measure -/
theorem measure_bad {l : List S54} (h : chk l ≠ 0) (i : Int) : Ev (fun k => meter_Measure.f k l i) (0, 0, chk l) := by
  unfold meter_Measure.f
  refine Ev.bind (check_ev l) ?_
  simp only [if_neg h]
  exact Ev.now _
theorem measure_out {l : List S54} (g : Good l) {i : Int} (h : i < 0 ∨ (l.length : Int) ≤ i) : Ev (fun k => meter_Measure.f k l i) (0, 0, 32) := by
  have h1 := check_ev l
  rw [good_chk g] at h1
  unfold meter_Measure.f
  refine Ev.bind h1 ?_
  simp only [if_true]
  have hj : Ev (fun k => meter_Measure.j0 k l i true) (0, 0, 32) := Ev.step (f := fun _ => some (0, 0, 32)) (fun k => by simp only [meter_Measure.j0]; rw [if_pos trivial]) (Ev.now _)
  by_cases hn : i < 0
  · simp only [if_pos hn]
    exact hj
  · simp only [if_neg hn]
    rw [show decide (i ≥ (l.length : Int)) = true from decide_eq_true (by omega)]
    exact hj
theorem measure_in {l : List S54} (g : Good l) {i : Nat} (h : i < l.length) : Ev (fun k => meter_Measure.f k l (i : Int)) (tot (l.take i), tot (l.take (i + 1)), 0) := by
  have h1 := check_ev l
  rw [good_chk g] at h1
  have hl := g.len
  unfold meter_Measure.f
  refine Ev.bind h1 ?_
  simp only [if_true]
  simp only [if_neg (show ¬ ((i : Int) < 0) by omega)]
  rw [show decide ((i : Int) ≥ (l.length : Int)) = false from decide_eq_false (by omega)]
  have h2 := Ev.bind (f := fun k t => (meter_begin.f k l (wrap64 ((i : Int) + 1))).bind fun u => some (t, u, (0 : Int))) (begin_ev l g.ok g.len i (by omega)) (by
    rw [wnat (n := 128) (i := i) (by omega) (by omega)]
    exact Ev.bind (begin_ev l g.ok g.len (i + 1) (by omega)) (Ev.now _))
  exact Ev.step (fun k => by simp only [meter_Measure.j0]; rw [if_neg (by decide)]) h2
theorem rmeasure_bad {l : List S54} (h : chk l ≠ 0) (i : Int) : Ev (fun k => dancestudioref13_Measure.f k l i) (0, 0, chk l) := by
  unfold dancestudioref13_Measure.f
  refine Ev.bind (rcheck_ev l) ?_
  simp only [if_neg h]
  exact Ev.now _
theorem rmeasure_out {l : List S54} (g : Good l) {i : Int} (h : i < 0 ∨ (l.length : Int) ≤ i) : Ev (fun k => dancestudioref13_Measure.f k l i) (0, 0, 32) := by
  have h1 := rcheck_ev l
  rw [good_chk g] at h1
  unfold dancestudioref13_Measure.f
  refine Ev.bind h1 ?_
  simp only [if_true]
  have hj : Ev (fun k => dancestudioref13_Measure.j0 k l i true) (0, 0, 32) := Ev.step (f := fun _ => some (0, 0, 32)) (fun k => by simp only [dancestudioref13_Measure.j0]; rw [if_pos trivial]) (Ev.now _)
  by_cases hn : i < 0
  · simp only [if_pos hn]
    exact hj
  · simp only [if_neg hn]
    rw [show decide (i ≥ (l.length : Int)) = true from decide_eq_true (by omega)]
    exact hj
theorem rmeasure_in {l : List S54} (g : Good l) {i : Nat} (h : i < l.length) : Ev (fun k => dancestudioref13_Measure.f k l (i : Int)) (tot (l.take i), tot (l.take (i + 1)), 0) := by
  have h1 := rcheck_ev l
  rw [good_chk g] at h1
  have hl := g.len
  unfold dancestudioref13_Measure.f
  refine Ev.bind h1 ?_
  simp only [if_true]
  simp only [if_neg (show ¬ ((i : Int) < 0) by omega)]
  rw [show decide ((i : Int) ≥ (l.length : Int)) = false from decide_eq_false (by omega)]
  have h2 : Ev (fun k => (dancestudioref13_total.f k (l.take ((i : Int)).toNat)).bind fun t => (dancestudioref13_total.f k (l.take (((i + 1 : Nat) : Int)).toNat)).bind fun u => some (t, u, (0 : Int))) (tot (l.take i), tot (l.take (i + 1)), 0) :=
    Ev.bind (rtotal_take l g.ok g.len i) (Ev.bind (rtotal_take l g.ok g.len (i + 1)) (Ev.now _))
  refine Ev.step (fun k => ?_) h2
  simp only [dancestudioref13_Measure.j0]
  rw [if_neg (by decide), if_pos (by omega), if_pos (by omega), wnat (n := 128) (i := i) (by omega) (by omega)]
  simp only [if_pos (show (0 : Int) ≤ ((i + 1 : Nat) : Int) by omega), if_pos (show ((i + 1 : Nat) : Int) ≤ (l.length : Int) by omega)]
/-! ### sheets and pages -/
/-- what Check says of a sheet -/
def shc (t c h : Int) : Int := if 1 ≤ t ∧ t ≤ 64 ∧ 4 ≤ c ∧ c ≤ 1000 ∧ 1 ≤ h ∧ h ≤ 100000 then 0 else 35
theorem shc_zero {t c h : Int} (e : shc t c h = 0) : 1 ≤ t ∧ t ≤ 64 ∧ 4 ≤ c ∧ c ≤ 1000 ∧ 1 ≤ h ∧ h ≤ 100000 := by
  unfold shc at e
  by_cases g : 1 ≤ t ∧ t ≤ 64 ∧ 4 ≤ c ∧ c ≤ 1000 ∧ 1 ≤ h ∧ h ≤ 100000
  · exact g
  · rw [if_neg g] at e; omega
theorem lcheck_eq (t c h : Int) : layout_Check.f t c h = some (shc t c h) := by
  unfold layout_Check.f shc
  by_cases h1 : t < 1
  · rw [if_pos h1, if_neg (by omega)]
  · by_cases h2 : t > 64
    · rw [if_neg h1, if_pos h2, if_neg (by omega)]
    · by_cases h3 : c < 4
      · rw [if_neg h1, if_neg h2, if_pos h3, if_neg (by omega)]
      · by_cases h4 : c > 1000
        · rw [if_neg h1, if_neg h2, if_neg h3, if_pos h4, if_neg (by omega)]
        · by_cases h5 : h < 1
          · rw [if_neg h1, if_neg h2, if_neg h3, if_neg h4, if_pos h5, if_neg (by omega)]
          · by_cases h6 : h > 100000
            · rw [if_neg h1, if_neg h2, if_neg h3, if_neg h4, if_neg h5, if_pos h6, if_neg (by omega)]
            · rw [if_neg h1, if_neg h2, if_neg h3, if_neg h4, if_neg h5, if_neg h6, if_pos (by omega)]
/-- the height of the measures from a to b - 1 -/
def Ht (l : List S54) (t : Int) (a b : Nat) : Int := (tot (l.take b) - tot (l.take a)) * t
theorem Ht_mono {l : List S54} (ho : ∀ m ∈ l, okm m) {t : Int} (ht : 0 ≤ t) {a b a' b' : Nat} (h1 : a' ≤ a) (h2 : b ≤ b') : Ht l t a b ≤ Ht l t a' b' := by
  have e1 := tot_take_mono ho h1
  have e2 := tot_take_mono ho h2
  exact Int.mul_le_mul_of_nonneg_right (by omega) ht
theorem Ht_self (l : List S54) (t : Int) (a : Nat) : Ht l t a a = 0 := by unfold Ht; rw [Int.sub_self, Int.zero_mul]
theorem Ht_succ {l : List S54} {t : Int} {a b : Nat} (h : b < l.length) : Ht l t a (b + 1) = Ht l t a b + mt l[b] * t := by
  unfold Ht
  rw [tot_take_succ h, ← Int.add_mul]
  congr 1
  omega
theorem Ht_one {l : List S54} {t : Int} {b : Nat} (h : b < l.length) : Ht l t b (b + 1) = mt l[b] * t := by rw [Ht_succ h, Ht_self]; omega
theorem mul_bd {x t : Int} (h0 : 0 ≤ x) (h1 : x ≤ 200000) (t0 : 1 ≤ t) (t1 : t ≤ 64) : 0 ≤ x * t ∧ x * t ≤ 12800000 :=
  ⟨Int.mul_nonneg h0 (by omega), Int.le_trans (Int.mul_le_mul h1 t1 (by omega) (by omega)) (by omega)⟩
theorem Ht_bd {l : List S54} (ho : ∀ m ∈ l, okm m) (hl : l.length ≤ 128) {t : Int} (t0 : 1 ≤ t) (t1 : t ≤ 64) {a b : Nat} (h : a ≤ b) : 0 ≤ Ht l t a b ∧ Ht l t a b ≤ 12800000 := by
  have e1 := tot_take_mono ho h
  have e2 := tot_take_bd ho hl a
  have e3 := tot_take_bd ho hl b
  exact mul_bd (by omega) (by omega) t0 t1
/-- a page from a to b - 1: as many measures as fit -/
structure Gr (l : List S54) (t h : Int) (a b : Nat) : Prop where
  lt : a < b
  le : b ≤ l.length
  fit : Ht l t a b ≤ h
  full : b < l.length → h < Ht l t a (b + 1)
/-- the pages from the measure a on -/
inductive Pg (l : List S54) (t h : Int) : Nat → List S46 → Prop
  | nil : Pg l t h l.length []
  | cons {a b : Nat} {ps : List S46} : Gr l t h a b → Pg l t h b ps → Pg l t h a (⟨(a : Int), (b : Int)⟩ :: ps)
theorem Gr.uniq {l : List S54} (ho : ∀ m ∈ l, okm m) {t h : Int} (ht : 0 ≤ t) {a b c : Nat} (h1 : Gr l t h a b) (h2 : Gr l t h a c) : b = c := by
  rcases Nat.lt_trichotomy b c with e | e | e
  · have g1 := h1.full (by have := h2.le; omega)
    have g2 := Ht_mono ho ht (Nat.le_refl a) (show b + 1 ≤ c by omega)
    have g3 := h2.fit
    omega
  · exact e
  · have g1 := h2.full (by have := h1.le; omega)
    have g2 := Ht_mono ho ht (Nat.le_refl a) (show c + 1 ≤ b by omega)
    have g3 := h1.fit
    omega
theorem Pg.uniq {l : List S54} (ho : ∀ m ∈ l, okm m) {t h : Int} (ht : 0 ≤ t) {a : Nat} {ps qs : List S46} (h1 : Pg l t h a ps) (h2 : Pg l t h a qs) : ps = qs := by
  induction h1 generalizing qs with
  | nil =>
    cases h2 with
    | nil => rfl
    | cons g _ => have := g.lt; have := g.le; omega
  | cons g _ ih =>
    cases h2 with
    | nil => have := g.lt; have := g.le; omega
    | cons g' p' =>
      obtain rfl := g.uniq ho ht g'
      rw [ih p']
/-- no measure is higher than a page -/
def Fits (l : List S54) (t h : Int) : Prop := ∀ m ∈ l, mt m * t ≤ h
instance (l : List S54) (t h : Int) : Decidable (Fits l t h) := by unfold Fits; infer_instance
theorem Gr.exists {l : List S54} {t h : Int} (hf : Fits l t h) {a : Nat} (ha : a < l.length) : ∃ b, Gr l t h a b := by
  have key : ∀ d b, a < b → b ≤ l.length → l.length - b = d → Ht l t a b ≤ h → ∃ b, Gr l t h a b := by
    intro d
    induction d with
    | zero => intro b h1 h2 h3 h4; exact ⟨b, h1, h2, h4, fun h => by omega⟩
    | succ d ih =>
      intro b h1 h2 h3 h4
      by_cases e : Ht l t a (b + 1) ≤ h
      · exact ih (b + 1) (by omega) (by omega) (by omega) e
      · exact ⟨b, h1, h2, h4, fun _ => by omega⟩
  exact key _ (a + 1) (by omega) (by omega) rfl (by rw [Ht_one ha]; exact hf _ (List.getElem_mem ha))
theorem Pg.exists {l : List S54} {t h : Int} (hf : Fits l t h) (d : Nat) : ∀ a, a ≤ l.length → l.length - a ≤ d → ∃ ps, Pg l t h a ps := by
  induction d with
  | zero =>
    intro a h1 h2
    obtain rfl : a = l.length := by omega
    exact ⟨[], .nil⟩
  | succ d ih =>
    intro a h1 h2
    by_cases e : a = l.length
    · subst e; exact ⟨[], .nil⟩
    · obtain ⟨b, g⟩ := Gr.exists hf (a := a) (by omega)
      have := g.lt
      obtain ⟨ps, p⟩ := ih b g.le (by omega)
      exact ⟨_, .cons g p⟩
theorem Pg.length {l : List S54} {t h : Int} {a : Nat} {ps : List S46} (p : Pg l t h a ps) : ps.length + a ≤ l.length := by
  induction p with
  | nil => simp
  | cons g _ ih => have := g.lt; simp only [List.length_cons]; omega
/-! ### Pages -/
theorem height_eq {m : S54} (hm : okm m) {t : Int} (t0 : 1 ≤ t) (t1 : t ≤ 64) (c h : Int) : layout_height.f t c h m.f0 m.f1 = some (mt m * t) := by
  have hb := mt_bd hm
  have := mul_bd (x := mt m) (by omega) (by omega) t0 t1
  unfold layout_height.f
  have e : wrap64 (m.f0 * m.f1) = mt m := by unfold mt at hb ⊢; exact w64 (by omega) (by omega)
  rw [e, w64 (by omega) (by omega)]
theorem pages_fill {l : List S54} (g : Good l) {t c h : Int} (t0 : 1 ≤ t) (t1 : t ≤ 64) (hh : h ≤ 100000) {a e : Nat} (hg : Gr l t h a e) (out : List S46) (ho : out.length ≤ 128) (r : List S46 × Int)
    (hn : Ev (fun k => layout_Pages.l1 k l (out ++ [⟨(a : Int), (e : Int)⟩]) (e : Int) t c h) r) (d : Nat) :
    ∀ b : Nat, a ≤ b → b + d = e → Ev (fun k => layout_Pages.l2 k l out (a : Int) (b : Int) (Ht l t a b) t c h) r := by
  have hl := g.len
  have hle := hg.le
  induction d with
  | zero =>
    intro b h1 h2
    obtain rfl : b = e := by omega
    refine Ev.step (fun k => ?_) hn
    simp only [layout_Pages.l2]
    by_cases hb : b = l.length
    · rw [if_pos (by omega), if_pos (by omega)]
    · have hlt : b < l.length := by omega
      have hf := hg.full hlt
      have hbd := Ht_bd g.ok g.len t0 t1 (a := a) (b := b + 1) (by omega)
      rw [Ht_succ hlt] at hf hbd
      rw [if_neg (by omega), if_pos (by omega), if_pos (by omega), rd_at hlt, height_eq (g.ok _ (List.getElem_mem hlt)) t0 t1]
      simp only [Option.bind_some]
      rw [w64 (by omega) (by omega), if_pos (by omega), if_pos (by omega)]
  | succ d ih =>
    intro b h1 h2
    have hlt : b < l.length := by omega
    have := ih (b + 1) (by omega) (by omega)
    have hm := Ht_mono g.ok (t := t) (by omega) (Nat.le_refl a) (show b + 1 ≤ e by omega)
    have hfit := hg.fit
    have hbd := Ht_bd g.ok g.len t0 t1 (a := a) (b := b + 1) (by omega)
    rw [Ht_succ hlt] at hm hbd this
    refine Ev.step (fun k => ?_) this
    simp only [layout_Pages.l2]
    rw [if_neg (by omega), if_pos (by omega), if_pos (by omega), rd_at hlt, height_eq (g.ok _ (List.getElem_mem hlt)) t0 t1]
    simp only [Option.bind_some]
    rw [w64 (by omega) (by omega), if_neg (by omega), wnat (n := 128) (i := b) (by omega) (by omega)]
theorem pages_walk {l : List S54} (g : Good l) {t c h : Int} (t0 : 1 ≤ t) (t1 : t ≤ 64) (hh : h ≤ 100000) {a : Nat} {ps : List S46} (p : Pg l t h a ps) :
    ∀ out : List S46, out.length ≤ a → Ev (fun k => layout_Pages.l1 k l out (a : Int) t c h) (out ++ ps, 0) := by
  have hl := g.len
  induction p with
  | nil =>
    intro out ho
    rw [List.append_nil]
    refine Ev.step (f := fun _ => some (out, 0)) (fun k => ?_) (Ev.now _)
    simp only [layout_Pages.l1]
    rw [if_neg (by omega)]
  | @cons a b ps hg p ih =>
    intro out ho
    have h1 := hg.lt
    have h2 := hg.le
    have := ih (out ++ [⟨(a : Int), (b : Int)⟩]) (by simp; omega)
    rw [List.append_assoc, List.singleton_append] at this
    have := pages_fill g t0 t1 hh hg out (by omega) _ this (b - a) a (Nat.le_refl a) (by omega)
    rw [Ht_self] at this
    refine Ev.step (fun k => ?_) this
    simp only [layout_Pages.l1]
    rw [if_pos (by omega)]
theorem pages_scan {l : List S54} (g : Good l) {t c h : Int} (t0 : 1 ≤ t) (t1 : t ≤ 64) (hf : Fits l t h) (r : List S46 × Int) (hn : Ev (fun k => layout_Pages.l1 k l [] 0 t c h) r) (d : Nat) :
    ∀ i : Nat, i + d = l.length → Ev (fun k => layout_Pages.l0 k l l (l.length : Int) (i : Int) t c h) r := by
  have hl := g.len
  induction d with
  | zero =>
    intro i hi
    refine Ev.step (fun k => ?_) hn
    simp only [layout_Pages.l0]
    rw [if_neg (by omega)]
  | succ d ih =>
    intro i hi
    have hlt : i < l.length := by omega
    have hm := hf _ (List.getElem_mem hlt)
    refine Ev.step (fun k => ?_) (ih (i + 1) (by omega))
    simp only [layout_Pages.l0]
    rw [if_pos (by omega), if_pos (by omega), if_pos (by omega), rd_at hlt, height_eq (g.ok _ (List.getElem_mem hlt)) t0 t1]
    simp only [Option.bind_some]
    rw [if_neg (by omega), wnat (n := 128) (i := i) (by omega) (by omega)]
theorem pages_high {l : List S54} (g : Good l) {t c h : Int} (t0 : 1 ≤ t) (t1 : t ≤ 64) (d : Nat) :
    ∀ i : Nat, i + d = l.length → ¬ Fits (l.drop i) t h → Ev (fun k => layout_Pages.l0 k l l (l.length : Int) (i : Int) t c h) ([], 35) := by
  have hl := g.len
  induction d with
  | zero =>
    intro i hi hf
    rw [show l.drop i = [] from by rw [List.drop_eq_nil_iff]; omega] at hf
    exact absurd (fun m hm => by cases hm) hf
  | succ d ih =>
    intro i hi hf
    have hlt : i < l.length := by omega
    by_cases hm : mt l[i] * t ≤ h
    · have := ih (i + 1) (by omega) (by
        intro h'
        apply hf
        rw [drop_at hlt]
        intro m hm'
        rcases List.mem_cons.1 hm' with rfl | h''
        · exact hm
        · exact h' m h'')
      refine Ev.step (fun k => ?_) this
      simp only [layout_Pages.l0]
      rw [if_pos (by omega), if_pos (by omega), if_pos (by omega), rd_at hlt, height_eq (g.ok _ (List.getElem_mem hlt)) t0 t1]
      simp only [Option.bind_some]
      rw [if_neg (by omega), wnat (n := 128) (i := i) (by omega) (by omega)]
    · refine Ev.step (f := fun _ => some ([], 35)) (fun k => ?_) (Ev.now _)
      simp only [layout_Pages.l0]
      rw [if_pos (by omega), if_pos (by omega), if_pos (by omega), rd_at hlt, height_eq (g.ok _ (List.getElem_mem hlt)) t0 t1]
      simp only [Option.bind_some]
      rw [if_pos (by omega)]
/-- what Pages says of a sheet with meters -/
def perr (t c h : Int) (l : List S54) : Int := if shc t c h ≠ 0 then shc t c h else if chk l ≠ 0 then chk l else if Fits l t h then 0 else 35
/-- a sheet with meters that Pages lets by -/
structure Well (t c h : Int) (l : List S54) : Prop where
  t0 : 1 ≤ t
  t1 : t ≤ 64
  c0 : 4 ≤ c
  c1 : c ≤ 1000
  h0 : 1 ≤ h
  h1 : h ≤ 100000
  good : Good l
  fits : Fits l t h
theorem perr_well {t c h : Int} {l : List S54} (e : perr t c h l = 0) : Well t c h l := by
  unfold perr at e
  by_cases h1 : shc t c h ≠ 0
  · rw [if_pos h1] at e; exact absurd e h1
  · rw [if_neg h1] at e
    by_cases h2 : chk l ≠ 0
    · rw [if_pos h2] at e; exact absurd e h2
    · rw [if_neg h2] at e
      by_cases h3 : Fits l t h
      · obtain ⟨a, b, c', d, e', f⟩ := shc_zero (by omega : shc t c h = 0)
        exact ⟨a, b, c', d, e', f, chk_good (by omega), h3⟩
      · rw [if_neg h3] at e; omega
theorem well_shc {t c h : Int} {l : List S54} (w : Well t c h l) : shc t c h = 0 := by
  obtain ⟨a, b, c', d, e', f, _, _⟩ := w
  unfold shc
  rw [if_pos ⟨a, b, c', d, e', f⟩]
theorem well_perr {t c h : Int} {l : List S54} (w : Well t c h l) : perr t c h l = 0 := by
  have h1 := well_shc w
  have h2 := good_chk w.good
  unfold perr
  rw [if_neg (by omega), if_neg (by omega), if_pos w.fits]
theorem pages_bad {t c h : Int} {l : List S54} (e : perr t c h l ≠ 0) : Ev (fun k => layout_Pages.f k t c h l) ([], perr t c h l) := by
  unfold perr at *
  unfold layout_Pages.f
  rw [lcheck_eq]
  simp only [Option.bind_some]
  by_cases h1 : shc t c h ≠ 0
  · rw [if_pos h1]
    simp only [if_neg h1]
    exact Ev.now _
  · rw [if_neg h1] at e ⊢
    simp only [if_pos (show shc t c h = 0 by omega)]
    refine Ev.bind (check_ev l) ?_
    by_cases h2 : chk l ≠ 0
    · rw [if_pos h2]
      simp only [if_neg h2]
      exact Ev.now _
    · rw [if_neg h2] at e ⊢
      simp only [if_pos (show chk l = 0 by omega)]
      by_cases h3 : Fits l t h
      · rw [if_pos h3] at e; exact absurd rfl e
      · rw [if_neg h3]
        obtain ⟨a, b, _, _, _, _⟩ := shc_zero (by omega : shc t c h = 0)
        have := pages_high (c := c) (chk_good (by omega : chk l = 0)) a b l.length 0 (by omega) (by simpa using h3)
        simpa only [Int.natCast_zero] using this
theorem pages_well {t c h : Int} {l : List S54} (w : Well t c h l) {ps : List S46} (p : Pg l t h 0 ps) : Ev (fun k => layout_Pages.f k t c h l) (ps, 0) := by
  have h1 := well_shc w
  have h2 := check_ev l
  rw [good_chk w.good] at h2
  unfold layout_Pages.f
  rw [lcheck_eq]
  simp only [Option.bind_some, if_pos h1]
  refine Ev.bind h2 ?_
  simp only [if_true]
  have h3 := pages_walk w.good (c := c) w.t0 w.t1 w.h1 p [] (by simp)
  simp only [Int.natCast_zero, List.nil_append] at h3
  have h4 := pages_scan w.good w.t0 w.t1 w.fits _ h3 l.length 0 (by omega)
  simpa only [Int.natCast_zero] using h4
theorem well_pages {t c h : Int} {l : List S54} (w : Well t c h l) : ∃ ps, Pg l t h 0 ps := Pg.exists w.fits l.length 0 (by omega) (by omega)
/-! ### the reference: Check, Sum, check, Pages -/
theorem rlcheck_eq (t c h : Int) : dancestudioref40_Check.f t c h = some (shc t c h) := by
  have : dancestudioref40_Check.f t c h = layout_Check.f t c h := rfl
  rw [this, lcheck_eq]
theorem rsum_loop {l : List S54} (g : Good l) {t : Int} (t0 : 1 ≤ t) (t1 : t ≤ 64) (c h : Int) {a b : Nat} (hb : b ≤ l.length) (d : Nat) : ∀ i : Nat, a ≤ i → i + d = b →
    Ev (fun k => dancestudioref40_Sum.l0 k l (b : Int) (Ht l t a i) (i : Int) t c h) (Ht l t a b) := by
  have hl := g.len
  induction d with
  | zero =>
    intro i h1 h2
    obtain rfl : i = b := by omega
    refine Ev.step (f := fun _ => some (Ht l t a i)) (fun k => ?_) (Ev.now _)
    simp only [dancestudioref40_Sum.l0]
    rw [if_neg (by omega)]
  | succ d ih =>
    intro i h1 h2
    have hlt : i < l.length := by omega
    have := ih (i + 1) (by omega) (by omega)
    have hbd := Ht_bd g.ok g.len t0 t1 (a := a) (b := i + 1) (by omega)
    rw [Ht_succ hlt] at this hbd
    have hb := mt_bd (g.ok _ (List.getElem_mem hlt))
    have hm := mul_bd (x := mt l[i]) (by omega) (by omega) t0 t1
    have e : wrap64 (l[i].f0 * l[i].f1) = mt l[i] := by unfold mt at hb ⊢; exact w64 (by omega) (by omega)
    refine Ev.step (fun k => ?_) this
    simp only [dancestudioref40_Sum.l0]
    rw [if_pos (by omega), if_pos (by omega), if_pos (by omega), rd_at hlt, e, w64 (n := mt l[i] * t) (by omega) (by omega), w64 (by omega) (by omega), wnat (n := 128) (i := i) (by omega) (by omega)]
theorem rsum_ev {l : List S54} (g : Good l) {t : Int} (t0 : 1 ≤ t) (t1 : t ≤ 64) (c h : Int) {a b : Nat} (hab : a ≤ b) (hb : b ≤ l.length) : Ev (fun k => dancestudioref40_Sum.f k t c h l (a : Int) (b : Int)) (Ht l t a b) := by
  have := rsum_loop g t0 t1 c h hb (b - a) a (Nat.le_refl a) (by omega)
  rw [Ht_self] at this
  exact Ev.congr (fun k => rfl) this
theorem rcheck40_loop {l : List S54} (g : Good l) {t : Int} (t0 : 1 ≤ t) (t1 : t ≤ 64) (c h : Int) (d : Nat) : ∀ i : Nat, i + d = l.length →
    Ev (fun k => dancestudioref40_check.l0 k l (i : Int) t c h) (if Fits (l.drop i) t h then 0 else 35) := by
  have hl := g.len
  induction d with
  | zero =>
    intro i hi
    rw [show l.drop i = [] from by rw [List.drop_eq_nil_iff]; omega, if_pos (show Fits [] t h from fun m hm => absurd hm (by simp))]
    refine Ev.step (f := fun _ => some 0) (fun k => ?_) (Ev.now _)
    simp only [dancestudioref40_check.l0]
    rw [if_neg (by omega)]
  | succ d ih =>
    intro i hi
    have hlt : i < l.length := by omega
    have e1 : Ev (fun k => (dancestudioref40_Sum.f k t c h l (i : Int) ((i + 1 : Nat) : Int)).bind fun x => if x > h then some 35 else dancestudioref40_check.l0 k l ((i + 1 : Nat) : Int) t c h) (if Fits (l.drop i) t h then 0 else 35) := by
      refine Ev.bind (rsum_ev g t0 t1 c h (by omega) (by omega)) ?_
      rw [Ht_one hlt]
      by_cases hm : mt l[i] * t ≤ h
      · simp only [if_neg (show ¬ mt l[i] * t > h by omega)]
        have e2 : Fits (l.drop i) t h ↔ Fits (l.drop (i + 1)) t h := by
          unfold Fits
          rw [drop_at hlt, List.forall_mem_cons]
          exact ⟨fun h => h.2, fun h => ⟨hm, h⟩⟩
        simp only [e2]
        exact ih (i + 1) (by omega)
      · simp only [if_pos (show mt l[i] * t > h by omega)]
        rw [if_neg (fun hf => hm (hf _ (by rw [drop_at hlt]; exact List.mem_cons_self)))]
        exact Ev.now _
    refine Ev.step (fun k => ?_) e1
    simp only [dancestudioref40_check.l0]
    rw [if_pos (by omega), wnat (n := 128) (i := i) (by omega) (by omega)]
theorem rcheck40_ev (t c h : Int) (l : List S54) : Ev (fun k => dancestudioref40_check.f k t c h l) (perr t c h l) := by
  unfold perr dancestudioref40_check.f
  rw [rlcheck_eq]
  simp only [Option.bind_some]
  by_cases h1 : shc t c h ≠ 0
  · rw [if_pos h1]
    simp only [if_neg h1]
    exact Ev.now _
  · rw [if_neg h1]
    simp only [if_pos (show shc t c h = 0 by omega)]
    refine Ev.bind (rcheck_ev l) ?_
    by_cases h2 : chk l ≠ 0
    · rw [if_pos h2]
      simp only [if_neg h2]
      exact Ev.now _
    · rw [if_neg h2]
      simp only [if_pos (show chk l = 0 by omega)]
      obtain ⟨a, b, _, _, _, _⟩ := shc_zero (by omega : shc t c h = 0)
      have := rcheck40_loop (chk_good (by omega : chk l = 0)) a b c h l.length 0 (by omega)
      simpa only [Int.natCast_zero, List.drop_zero] using this
theorem rpages_fill {l : List S54} (g : Good l) {t c h : Int} (t0 : 1 ≤ t) (t1 : t ≤ 64) {a e : Nat} (hg : Gr l t h a e) (out : List S46) (ho : out.length ≤ 128) (r : List S46 × Int)
    (hn : Ev (fun k => dancestudioref40_Pages.l0 k l (out ++ [⟨(a : Int), (e : Int)⟩]) (e : Int) t c h) r) (d : Nat) :
    ∀ b : Nat, a < b → b + d = e → Ev (fun k => dancestudioref40_Pages.l1 k l out (a : Int) (b : Int) t c h) r := by
  have hl := g.len
  have hle := hg.le
  induction d with
  | zero =>
    intro b h1 h2
    obtain rfl : b = e := by omega
    by_cases hb : b = l.length
    · refine Ev.step (fun k => ?_) hn
      simp only [dancestudioref40_Pages.l1]
      rw [if_neg (by omega), if_pos (by omega)]
    · have hlt : b < l.length := by omega
      have hf := hg.full hlt
      have e1 : Ev (fun k => (dancestudioref40_Sum.f k t c h l (a : Int) ((b + 1 : Nat) : Int)).bind fun x => if x ≤ h then dancestudioref40_Pages.l1 k l out (a : Int) ((b + 1 : Nat) : Int) t c h else dancestudioref40_Pages.l0 k l (out ++ [⟨(a : Int), (b : Int)⟩]) (b : Int) t c h) r := by
        refine Ev.bind (rsum_ev g t0 t1 c h (by omega) (by omega)) ?_
        simp only [if_neg (show ¬ Ht l t a (b + 1) ≤ h by omega)]
        exact hn
      refine Ev.step (fun k => ?_) e1
      simp only [dancestudioref40_Pages.l1]
      rw [if_pos (by omega), wnat (n := 128) (i := b) (by omega) (by omega)]
      simp only [if_pos (show out.length < 8796093022208 by omega)]
  | succ d ih =>
    intro b h1 h2
    have hlt : b < l.length := by omega
    have hm := Ht_mono g.ok (t := t) (by omega) (Nat.le_refl a) (show b + 1 ≤ e by omega)
    have hfit := hg.fit
    have e1 : Ev (fun k => (dancestudioref40_Sum.f k t c h l (a : Int) ((b + 1 : Nat) : Int)).bind fun x => if x ≤ h then dancestudioref40_Pages.l1 k l out (a : Int) ((b + 1 : Nat) : Int) t c h else dancestudioref40_Pages.l0 k l (out ++ [⟨(a : Int), (b : Int)⟩]) (b : Int) t c h) r := by
      refine Ev.bind (rsum_ev g t0 t1 c h (by omega) (by omega)) ?_
      simp only [if_pos (show Ht l t a (b + 1) ≤ h by omega)]
      exact ih (b + 1) (by omega) (by omega)
    refine Ev.step (fun k => ?_) e1
    simp only [dancestudioref40_Pages.l1]
    rw [if_pos (by omega), wnat (n := 128) (i := b) (by omega) (by omega)]
    simp only [if_pos (show out.length < 8796093022208 by omega)]
theorem rpages_walk {l : List S54} (g : Good l) {t c h : Int} (t0 : 1 ≤ t) (t1 : t ≤ 64) {a : Nat} {ps : List S46} (p : Pg l t h a ps) :
    ∀ out : List S46, out.length ≤ a → Ev (fun k => dancestudioref40_Pages.l0 k l out (a : Int) t c h) (out ++ ps, 0) := by
  have hl := g.len
  induction p with
  | nil =>
    intro out ho
    rw [List.append_nil]
    refine Ev.step (f := fun _ => some (out, 0)) (fun k => ?_) (Ev.now _)
    simp only [dancestudioref40_Pages.l0]
    rw [if_neg (by omega)]
  | @cons a b ps hg p ih =>
    intro out ho
    have h1 := hg.lt
    have h2 := hg.le
    have := ih (out ++ [⟨(a : Int), (b : Int)⟩]) (by simp; omega)
    rw [List.append_assoc, List.singleton_append] at this
    have := rpages_fill g t0 t1 hg out (by omega) _ this (b - (a + 1)) (a + 1) (by omega) (by omega)
    refine Ev.step (fun k => ?_) this
    simp only [dancestudioref40_Pages.l0]
    rw [if_pos (by omega), wnat (n := 128) (i := a) (by omega) (by omega)]
theorem rpages_bad {t c h : Int} {l : List S54} (e : perr t c h l ≠ 0) : Ev (fun k => dancestudioref40_Pages.f k t c h l) ([], perr t c h l) := by
  unfold dancestudioref40_Pages.f
  refine Ev.bind (rcheck40_ev t c h l) ?_
  simp only [if_neg e]
  exact Ev.now _
theorem rpages_well {t c h : Int} {l : List S54} (w : Well t c h l) {ps : List S46} (p : Pg l t h 0 ps) : Ev (fun k => dancestudioref40_Pages.f k t c h l) (ps, 0) := by
  have h1 := rcheck40_ev t c h l
  rw [well_perr w] at h1
  unfold dancestudioref40_Pages.f
  refine Ev.bind h1 ?_
  simp only [if_true]
  have h3 := rpages_walk w.good (c := c) w.t0 w.t1 p [] (by simp)
  simpa only [Int.natCast_zero, List.nil_append] using h3
/-! ### the page of a tick -/
theorem rd_page {ps : List S46} {i : Nat} (h : i < ps.length) : rd_T46 ps (i : Int) = ps[i] := by
  unfold rd_T46
  simp [List.getD_eq_getElem?_getD, h]
/-- the first tick of a page, and the tick after its last one -/
def fst_ (l : List S54) (p : S46) : Int := tot (l.take p.f0.toNat)
def lst_ (l : List S54) (p : S46) : Int := tot (l.take p.f1.toNat)
def plc (l : List S54) (t x : Int) : List S46 → Int → Int × Int × Int
  | [], _ => (0, 0, 1)
  | p :: ps, i => if fst_ l p ≤ x ∧ x < lst_ l p then (i, (x - fst_ l p) * t, 0) else plc l t x ps (i + 1)
theorem Pg.mem {l : List S54} {t h : Int} {a : Nat} {ps : List S46} (p : Pg l t h a ps) : ∀ q ∈ ps, ∃ u v : Nat, q = ⟨(u : Int), (v : Int)⟩ ∧ Gr l t h u v := by
  induction p with
  | nil => intro q hq; cases hq
  | cons g _ ih =>
    intro q hq
    rcases List.mem_cons.1 hq with rfl | hq
    · exact ⟨_, _, rfl, g⟩
    · exact ih q hq
theorem ticks_ev {l : List S54} (g : Good l) {q : S46} {t h : Int} (hq : ∃ u v : Nat, q = ⟨(u : Int), (v : Int)⟩ ∧ Gr l t h u v) : Ev (fun k => layout_ticks.f k l q.f0 q.f1) (fst_ l q, lst_ l q) := by
  obtain ⟨u, v, rfl, gr⟩ := hq
  have h1 := gr.lt
  have h2 := gr.le
  have hl := g.len
  unfold layout_ticks.f fst_ lst_
  simp only [Int.toNat_natCast]
  refine Ev.bind (measure_in g (i := u) (by omega)) ?_
  rw [show wrap64 ((v : Int) - 1) = ((v - 1 : Nat) : Int) by rw [w64 (by omega) (by omega)]; omega]
  have := measure_in g (i := v - 1) (by omega)
  rw [show v - 1 + 1 = v by omega] at this
  exact Ev.bind this (Ev.now _)
theorem page_bd {l : List S54} (g : Good l) {q : S46} {t h : Int} (hq : ∃ u v : Nat, q = ⟨(u : Int), (v : Int)⟩ ∧ Gr l t h u v) : 0 ≤ fst_ l q ∧ fst_ l q < lst_ l q ∧ lst_ l q ≤ tot l := by
  obtain ⟨u, v, rfl, gr⟩ := hq
  have h1 := gr.lt
  have h2 := gr.le
  unfold fst_ lst_
  simp only [Int.toNat_natCast]
  have e0 := (tot_take_bd g.ok g.len u).1
  have e1 := tot_take_succ (l := l) (i := u) (by omega)
  have e2 := mt_bd (g.ok _ (List.getElem_mem (show u < l.length by omega)))
  have e3 := tot_take_mono g.ok (show u + 1 ≤ v by omega)
  have e4 := tot_take_le g.ok v
  omega
theorem place_loop {l : List S54} (g : Good l) {t c h : Int} (t0 : 1 ≤ t) (t1 : t ≤ 64) (x : Int) (ps : List S46) (hl : ps.length ≤ 128) (hm : ∀ q ∈ ps, ∃ u v : Nat, q = ⟨(u : Int), (v : Int)⟩ ∧ Gr l t h u v) (d : Nat) :
    ∀ i : Nat, i + d = ps.length → Ev (fun k => layout_Place.l0 k l x ps (ps.length : Int) (i : Int) t c h) (plc l t x (ps.drop i) (i : Int)) := by
  have ht := g.tot
  induction d with
  | zero =>
    intro i hi
    rw [show ps.drop i = [] from by rw [List.drop_eq_nil_iff]; omega]
    refine Ev.step (f := fun _ => some (0, 0, 1)) (fun k => ?_) (Ev.now _)
    simp only [layout_Place.l0]
    rw [if_neg (by omega)]
  | succ d ih =>
    intro i hi
    have hlt : i < ps.length := by omega
    have hq := hm _ (List.getElem_mem hlt)
    have hb := page_bd g hq
    rw [List.drop_eq_getElem_cons hlt, plc]
    have e1 : Ev (fun k => (layout_ticks.f k l ps[i].f0 ps[i].f1).bind fun bt => if x ≥ bt.1 then (if x < bt.2 then some ((i : Int), wrap64 (wrap64 (x - bt.1) * t), (0 : Int)) else layout_Place.l0 k l x ps (ps.length : Int) ((i + 1 : Nat) : Int) t c h) else layout_Place.l0 k l x ps (ps.length : Int) ((i + 1 : Nat) : Int) t c h)
        (if fst_ l ps[i] ≤ x ∧ x < lst_ l ps[i] then ((i : Int), (x - fst_ l ps[i]) * t, 0) else plc l t x (ps.drop (i + 1)) ((i : Int) + 1)) := by
      refine Ev.bind (ticks_ev g hq) ?_
      by_cases h1 : fst_ l ps[i] ≤ x
      · by_cases h2 : x < lst_ l ps[i]
        · have hmb := mul_bd (x := x - fst_ l ps[i]) (by omega) (by omega) t0 t1
          simp only [if_pos (show x ≥ fst_ l ps[i] by omega), if_pos h2]
          rw [if_pos ⟨h1, h2⟩, w64 (n := x - fst_ l ps[i]) (by omega) (by omega), w64 (by omega) (by omega)]
          exact Ev.now _
        · simp only [if_pos (show x ≥ fst_ l ps[i] by omega), if_neg h2]
          rw [if_neg (fun h => h2 h.2)]
          exact ih (i + 1) (by omega)
      · simp only [if_neg (show ¬ x ≥ fst_ l ps[i] by omega)]
        rw [if_neg (fun h => h1 h.1)]
        exact ih (i + 1) (by omega)
    refine Ev.step (fun k => ?_) e1
    simp only [layout_Place.l0]
    rw [if_pos (by omega), if_pos (by omega), if_pos (by omega), rd_page hlt, wnat (n := 128) (i := i) (by omega) (by omega)]
theorem place_bad {t c h : Int} {l : List S54} (e : perr t c h l ≠ 0) (x : Int) : Ev (fun k => layout_Place.f k t c h l x) (0, 0, perr t c h l) := by
  unfold layout_Place.f
  refine Ev.bind (pages_bad e) ?_
  simp only [if_neg e]
  exact Ev.now _
theorem place_well {t c h : Int} {l : List S54} (w : Well t c h l) {ps : List S46} (p : Pg l t h 0 ps) (x : Int) : Ev (fun k => layout_Place.f k t c h l x) (plc l t x ps 0) := by
  unfold layout_Place.f
  refine Ev.bind (pages_well w p) ?_
  simp only [if_true]
  have := place_loop w.good (c := c) w.t0 w.t1 x ps (by have := p.length; have := w.good.len; omega) p.mem ps.length 0 (by omega)
  simpa only [Int.natCast_zero, List.drop_zero] using this
/-! ### the tick of a place -/
def tck (l : List S54) (t : Int) (ps : List S46) (n y : Int) : Int × Int :=
  if 0 ≤ n ∧ n < ps.length then
    (if 0 ≤ y ∧ y % t = 0 ∧ y < (lst_ l (rd_T46 ps n) - fst_ l (rd_T46 ps n)) * t then (fst_ l (rd_T46 ps n) + y / t, 0) else (0, 1))
  else (0, 35)
theorem wf_bd {n : Int} (h : (Lit.int .i64 n).wf = true) : -9223372036854775808 ≤ n ∧ n ≤ 9223372036854775807 := by
  simp [Lit.wf, IntKind.min, IntKind.max, IntKind.signed, IntKind.bits] at h
  omega
theorem tick_bad {t c h : Int} {l : List S54} (e : perr t c h l ≠ 0) (n y : Int) : Ev (fun k => layout_Tick.f k t c h l n y) (0, perr t c h l) := by
  unfold layout_Tick.f
  refine Ev.bind (pages_bad e) ?_
  simp only [if_neg e]
  exact Ev.now _
theorem tick_well {t c h : Int} {l : List S54} (w : Well t c h l) {ps : List S46} (p : Pg l t h 0 ps) (n : Int) {y : Int} (hyb : -9223372036854775808 ≤ y ∧ y ≤ 9223372036854775807) : Ev (fun k => layout_Tick.f k t c h l n y) (tck l t ps n y) := by
  have t0 := w.t0
  have t1 := w.t1
  unfold layout_Tick.f tck
  refine Ev.bind (pages_well w p) ?_
  simp only [if_true]
  have hj : Ev (fun k => layout_Tick.j0 k l n y ps true t c h) (0, 35) := Ev.step (f := fun _ => some (0, 35)) (fun k => by simp only [layout_Tick.j0]; rw [if_pos trivial]) (Ev.now _)
  by_cases hn : n < 0
  · simp only [if_pos hn]
    rw [if_neg (by omega)]
    exact hj
  · simp only [if_neg hn]
    by_cases hn2 : n ≥ (ps.length : Int)
    · rw [decide_eq_true hn2, if_neg (by omega)]
      exact hj
    · rw [decide_eq_false hn2, if_pos (by omega)]
      obtain ⟨i, rfl⟩ : ∃ i : Nat, n = i := ⟨n.toNat, by omega⟩
      have hlt : i < ps.length := by omega
      rw [rd_page hlt]
      have hq := p.mem _ (List.getElem_mem hlt)
      have hb := page_bd w.good hq
      have ht := w.good.tot
      have hmb := mul_bd (x := lst_ l ps[i] - fst_ l ps[i]) (by omega) (by omega) t0 t1
      have e1 : Ev (fun k => (layout_ticks.f k l ps[i].f0 ps[i].f1).bind fun bt => if y < 0 then some ((0 : Int), (1 : Int)) else if t = 0 then none else if Int.tmod y t = 0 then (if y ≥ wrap64 (wrap64 (bt.2 - bt.1) * t) then some (0, 1) else some (wrap64 (bt.1 + wrap64 (Int.tdiv y t)), 0)) else some (0, 1))
          (if 0 ≤ y ∧ y % t = 0 ∧ y < (lst_ l ps[i] - fst_ l ps[i]) * t then (fst_ l ps[i] + y / t, 0) else (0, 1)) := by
        refine Ev.bind (ticks_ev w.good hq) ?_
        by_cases h0 : y < 0
        · simp only [if_pos h0]
          rw [if_neg (by omega)]
          exact Ev.now _
        · simp only [if_neg h0, if_neg (show ¬ t = 0 by omega)]
          rw [Int.tmod_eq_emod_of_nonneg (by omega), Int.tdiv_eq_ediv_of_nonneg (by omega), w64 (n := lst_ l ps[i] - fst_ l ps[i]) (by omega) (by omega), w64 (n := (lst_ l ps[i] - fst_ l ps[i]) * t) (by omega) (by omega)]
          by_cases h1 : y % t = 0
          · simp only [if_pos h1]
            by_cases h2 : y ≥ (lst_ l ps[i] - fst_ l ps[i]) * t
            · simp only [if_pos h2]
              rw [if_neg (by omega)]
              exact Ev.now _
            · simp only [if_neg h2]
              rw [if_pos ⟨by omega, h1, by omega⟩]
              have hd : 0 ≤ y / t ∧ y / t ≤ y := ⟨Int.ediv_nonneg (by omega) (by omega), Int.ediv_le_self _ (by omega)⟩
              rw [w64 (n := y / t) (by omega) (by omega), w64 (by omega) (by omega)]
              exact Ev.now _
          · simp only [if_neg h1]
            rw [if_neg (fun h => h1 h.2.1)]
            exact Ev.now _
      refine Ev.step (fun k => ?_) e1
      simp only [layout_Tick.j0]
      rw [if_neg (by decide), if_pos (by omega), if_pos (by omega), rd_page hlt]
theorem rticks_ev {l : List S54} (g : Good l) {q : S46} {t h : Int} (hq : ∃ u v : Nat, q = ⟨(u : Int), (v : Int)⟩ ∧ Gr l t h u v) : Ev (fun k => dancestudioref40_ticks.f k l q.f0 q.f1) (fst_ l q, lst_ l q) := by
  obtain ⟨u, v, rfl, gr⟩ := hq
  have h1 := gr.lt
  have h2 := gr.le
  have hl := g.len
  unfold dancestudioref40_ticks.f fst_ lst_
  simp only [Int.toNat_natCast]
  refine Ev.bind (rmeasure_in g (i := u) (by omega)) ?_
  rw [show wrap64 ((v : Int) - 1) = ((v - 1 : Nat) : Int) by rw [w64 (by omega) (by omega)]; omega]
  have := rmeasure_in g (i := v - 1) (by omega)
  rw [show v - 1 + 1 = v by omega] at this
  exact Ev.bind this (Ev.now _)
theorem rplace_loop {l : List S54} (g : Good l) {t c h : Int} (t0 : 1 ≤ t) (t1 : t ≤ 64) (x : Int) (ps : List S46) (hl : ps.length ≤ 128) (hm : ∀ q ∈ ps, ∃ u v : Nat, q = ⟨(u : Int), (v : Int)⟩ ∧ Gr l t h u v) (d : Nat) :
    ∀ i : Nat, i + d = ps.length → Ev (fun k => dancestudioref40_Place.l0 k l x ps (i : Int) t c h) (plc l t x (ps.drop i) (i : Int)) := by
  have ht := g.tot
  induction d with
  | zero =>
    intro i hi
    rw [show ps.drop i = [] from by rw [List.drop_eq_nil_iff]; omega]
    refine Ev.step (f := fun _ => some (0, 0, 1)) (fun k => ?_) (Ev.now _)
    simp only [dancestudioref40_Place.l0]
    rw [if_neg (by omega)]
  | succ d ih =>
    intro i hi
    have hlt : i < ps.length := by omega
    have hq := hm _ (List.getElem_mem hlt)
    have hb := page_bd g hq
    rw [List.drop_eq_getElem_cons hlt, plc]
    have e1 : Ev (fun k => (dancestudioref40_ticks.f k l ps[i].f0 ps[i].f1).bind fun bt => if bt.1 ≤ x then (if x < bt.2 then some ((i : Int), wrap64 (wrap64 (x - bt.1) * t), (0 : Int)) else dancestudioref40_Place.l0 k l x ps ((i + 1 : Nat) : Int) t c h) else dancestudioref40_Place.l0 k l x ps ((i + 1 : Nat) : Int) t c h)
        (if fst_ l ps[i] ≤ x ∧ x < lst_ l ps[i] then ((i : Int), (x - fst_ l ps[i]) * t, 0) else plc l t x (ps.drop (i + 1)) ((i : Int) + 1)) := by
      refine Ev.bind (rticks_ev g hq) ?_
      by_cases h1 : fst_ l ps[i] ≤ x
      · by_cases h2 : x < lst_ l ps[i]
        · have hmb := mul_bd (x := x - fst_ l ps[i]) (by omega) (by omega) t0 t1
          simp only [if_pos h1, if_pos h2]
          rw [if_pos ⟨h1, h2⟩, w64 (n := x - fst_ l ps[i]) (by omega) (by omega), w64 (by omega) (by omega)]
          exact Ev.now _
        · simp only [if_pos h1, if_neg h2]
          rw [if_neg (fun h => h2 h.2)]
          exact ih (i + 1) (by omega)
      · simp only [if_neg h1]
        rw [if_neg (fun h => h1 h.1)]
        exact ih (i + 1) (by omega)
    refine Ev.step (fun k => ?_) e1
    simp only [dancestudioref40_Place.l0]
    rw [if_pos (by omega), if_pos (by omega), rd_page hlt, wnat (n := 128) (i := i) (by omega) (by omega)]
theorem rplace_bad {t c h : Int} {l : List S54} (e : perr t c h l ≠ 0) (x : Int) : Ev (fun k => dancestudioref40_Place.f k t c h l x) (0, 0, perr t c h l) := by
  unfold dancestudioref40_Place.f
  refine Ev.bind (rpages_bad e) ?_
  simp only [if_neg e]
  exact Ev.now _
theorem rplace_well {t c h : Int} {l : List S54} (w : Well t c h l) {ps : List S46} (p : Pg l t h 0 ps) (x : Int) : Ev (fun k => dancestudioref40_Place.f k t c h l x) (plc l t x ps 0) := by
  unfold dancestudioref40_Place.f
  refine Ev.bind (rpages_well w p) ?_
  simp only [if_true]
  have := rplace_loop w.good (c := c) w.t0 w.t1 x ps (by have := p.length; have := w.good.len; omega) p.mem ps.length 0 (by omega)
  simpa only [Int.natCast_zero, List.drop_zero] using this
theorem rtick_bad {t c h : Int} {l : List S54} (e : perr t c h l ≠ 0) (n y : Int) : Ev (fun k => dancestudioref40_Tick.f k t c h l n y) (0, perr t c h l) := by
  unfold dancestudioref40_Tick.f
  refine Ev.bind (rpages_bad e) ?_
  simp only [if_neg e]
  exact Ev.now _
theorem rtick_well {t c h : Int} {l : List S54} (w : Well t c h l) {ps : List S46} (p : Pg l t h 0 ps) (n : Int) {y : Int} (hyb : -9223372036854775808 ≤ y ∧ y ≤ 9223372036854775807) : Ev (fun k => dancestudioref40_Tick.f k t c h l n y) (tck l t ps n y) := by
  have t0 := w.t0
  have t1 := w.t1
  unfold dancestudioref40_Tick.f tck
  refine Ev.bind (rpages_well w p) ?_
  simp only [if_true]
  have hj : Ev (fun k => dancestudioref40_Tick.j0 k l n y ps true t c h) (0, 35) := Ev.step (f := fun _ => some (0, 35)) (fun k => by simp only [dancestudioref40_Tick.j0]; rw [if_pos trivial]) (Ev.now _)
  by_cases hn : n < 0
  · simp only [if_pos hn]
    rw [if_neg (by omega)]
    exact hj
  · simp only [if_neg hn]
    by_cases hn2 : n ≥ (ps.length : Int)
    · rw [decide_eq_true hn2, if_neg (by omega)]
      exact hj
    · rw [decide_eq_false hn2, if_pos (by omega)]
      obtain ⟨i, rfl⟩ : ∃ i : Nat, n = i := ⟨n.toNat, by omega⟩
      have hlt : i < ps.length := by omega
      rw [rd_page hlt]
      have hq := p.mem _ (List.getElem_mem hlt)
      have hb := page_bd w.good hq
      have ht := w.good.tot
      have e1 : Ev (fun k => (dancestudioref40_ticks.f k l ps[i].f0 ps[i].f1).bind fun bt => if y < 0 then some ((0 : Int), (1 : Int)) else if t = 0 then none else if Int.tmod y t = 0 then (if wrap64 (Int.tdiv y t) ≥ wrap64 (bt.2 - bt.1) then some (0, 1) else some (wrap64 (bt.1 + wrap64 (Int.tdiv y t)), 0)) else some (0, 1))
          (if 0 ≤ y ∧ y % t = 0 ∧ y < (lst_ l ps[i] - fst_ l ps[i]) * t then (fst_ l ps[i] + y / t, 0) else (0, 1)) := by
        refine Ev.bind (rticks_ev w.good hq) ?_
        by_cases h0 : y < 0
        · simp only [if_pos h0]
          rw [if_neg (by omega)]
          exact Ev.now _
        · have hd : 0 ≤ y / t ∧ y / t ≤ y := ⟨Int.ediv_nonneg (by omega) (by omega), Int.ediv_le_self _ (by omega)⟩
          have hiff : lst_ l ps[i] - fst_ l ps[i] ≤ y / t ↔ (lst_ l ps[i] - fst_ l ps[i]) * t ≤ y := Int.le_ediv_iff_mul_le (by omega)
          simp only [if_neg h0, if_neg (show ¬ t = 0 by omega)]
          rw [Int.tmod_eq_emod_of_nonneg (by omega), Int.tdiv_eq_ediv_of_nonneg (by omega), w64 (n := lst_ l ps[i] - fst_ l ps[i]) (by omega) (by omega), w64 (n := y / t) (by omega) (by omega)]
          by_cases h1 : y % t = 0
          · simp only [if_pos h1]
            by_cases h2 : y / t ≥ lst_ l ps[i] - fst_ l ps[i]
            · simp only [if_pos h2]
              rw [if_neg (by omega)]
              exact Ev.now _
            · simp only [if_neg h2]
              rw [if_pos ⟨by omega, h1, by omega⟩, w64 (by omega) (by omega)]
              exact Ev.now _
          · simp only [if_neg h1]
            rw [if_neg (fun h => h1 h.2.1)]
            exact Ev.now _
      refine Ev.step (fun k => ?_) e1
      simp only [dancestudioref40_Tick.j0]
      rw [if_neg (by decide), if_pos (by omega), if_pos (by omega), rd_page hlt]
/-! ### the chapter's examples -/
theorem awake_ev : Ev (fun k => dancestudiolaw40_awake.f k) true := Ev.of (fun k => dancestudiolaw40_awake.mono k) (k := 60) (by kernel_rfl)
theorem lay_places_end {t c h : Int} {l : List S54} {x n y : Int} {a : Int × Int × Int} {b : Int × Int} (h1 : Ev (fun k => layout_Place.f k t c h l x) a) (h2 : Ev (fun k => dancestudioref40_Place.f k t c h l x) a)
    (h3 : Ev (fun k => layout_Tick.f k t c h l n y) b) (h4 : Ev (fun k => dancestudioref40_Tick.f k t c h l n y) b) : Ev (fun k => dancestudiolaw40_LayoutPlaces.f k t c h l x n y) true := by
  unfold dancestudiolaw40_LayoutPlaces.f
  refine Ev.bind h1 (Ev.bind h2 (Ev.bind h3 (Ev.bind h4 ?_)))
  simp only [if_true]
  exact Ev.bind awake_ev (Ev.now _)
/-- LayoutPlaces returns true, for every sheet, list, tick, page and height. -/
theorem pure_LayoutPlaces (t : Int) (_ : (Lit.int .i64 t).wf = true) (c : Int) (_ : (Lit.int .i64 c).wf = true) (h : Int) (_ : (Lit.int .i64 h).wf = true) (l : List S54) (_ : l.length * 16 ≤ 140737488351232)
    (x : Int) (_ : (Lit.int .i64 x).wf = true) (n : Int) (_ : (Lit.int .i64 n).wf = true) (y : Int) (hy : (Lit.int .i64 y).wf = true) : ∃ k, dancestudiolaw40_LayoutPlaces.f k t c h l x n y = some true := by
  refine Ev.rounds (g := fun k => dancestudiolaw40_LayoutPlaces.f k t c h l x n y) ?_
  by_cases e : perr t c h l = 0
  · have w := perr_well e
    obtain ⟨ps, p⟩ := well_pages w
    exact lay_places_end (place_well w p x) (rplace_well w p x) (tick_well w p n (wf_bd hy)) (rtick_well w p n (wf_bd hy))
  · exact lay_places_end (place_bad e x) (rplace_bad e x) (tick_bad e n y) (rtick_bad e n y)
end Go.Proofs.Ytmchbeobljgkeaa.PLayoutPlaces
