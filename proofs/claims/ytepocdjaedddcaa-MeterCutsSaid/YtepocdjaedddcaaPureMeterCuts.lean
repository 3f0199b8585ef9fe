/- Plain lemmas on the functions that the law MeterCuts reaches: no memory and no Go in them. -/
import Derived.Test.YtepocdjaedddcaaPMeterCutsx
set_option linter.unusedVariables false
namespace Go.Proofs.Ytepocdjaedddcaa.PMeterCuts
open Go.RowKit Go.Proofs.YtepocdjaedddcaaW.PrintWords Go.Proofs.YtepocdjaedddcaaW.PrintLast Go.Proofs.YtepocdjaedddcaaW.PrintMore
/-! ### numbers and lists -/
theorem w64 {n : Int} (h : -9223372036854775808 ≤ n) (h2 : n ≤ 9223372036854775807) : wrap64 n = n := by unfold wrap64; omega
theorem wnat {i n : Nat} (h : i < n) (hn : n ≤ 9223372036854775807) : wrap64 ((i : Int) + 1) = ((i + 1 : Nat) : Int) := by unfold wrap64; omega
def mt (m : S45) : Int := m.f0 * m.f1
def okm (m : S45) : Prop := 1 ≤ m.f0 ∧ m.f0 ≤ 16 ∧ 1 ≤ m.f1 ∧ m.f1 ≤ 96
instance (m : S45) : Decidable (okm m) := by unfold okm; infer_instance
theorem mt_bd {m : S45} (h : okm m) : 1 ≤ mt m ∧ mt m ≤ 1536 := by
  obtain ⟨h1, h2, h3, h4⟩ := h
  unfold mt
  obtain h | h | h | h | h | h | h | h | h | h | h | h | h | h | h | h : m.f0 = 1 ∨ m.f0 = 2 ∨ m.f0 = 3 ∨ m.f0 = 4 ∨ m.f0 = 5 ∨ m.f0 = 6 ∨ m.f0 = 7 ∨ m.f0 = 8 ∨ m.f0 = 9 ∨ m.f0 = 10 ∨ m.f0 = 11 ∨ m.f0 = 12 ∨ m.f0 = 13 ∨ m.f0 = 14 ∨ m.f0 = 15 ∨ m.f0 = 16 := by omega
  all_goals rw [h]; omega
def tot : List S45 → Int
  | [] => 0
  | m :: l => mt m + tot l
theorem tot_append (a b : List S45) : tot (a ++ b) = tot a + tot b := by
  induction a with
  | nil => simp [tot]
  | cons m a ih => simp [tot, ih]; omega
theorem tot_bd {l : List S45} (h : ∀ m ∈ l, okm m) : (l.length : Int) ≤ tot l ∧ tot l ≤ 1536 * l.length := by
  induction l with
  | nil => simp [tot]
  | cons m l ih =>
    have h1 := mt_bd (h m (by simp))
    have h2 := ih (fun x hx => h x (by simp [hx]))
    simp only [tot, List.length_cons]
    omega
theorem rd_at {l : List S45} {i : Nat} (h : i < l.length) : rd_T45 l (i : Int) = l[i] := by
  unfold rd_T45
  simp [List.getD_eq_getElem?_getD, h]
theorem drop_at {l : List S45} {i : Nat} (h : i < l.length) : l.drop i = l[i] :: l.drop (i + 1) := List.drop_eq_getElem_cons h
theorem take_at {l : List S45} {i : Nat} (h : i < l.length) : l.take (i + 1) = l.take i ++ [l[i]] := by
  rw [List.take_succ_eq_append_getElem h]
theorem tot_take_succ {l : List S45} {i : Nat} (h : i < l.length) : tot (l.take (i + 1)) = tot (l.take i) + mt l[i] := by
  rw [take_at h, tot_append]; simp [tot]
theorem ok_take {l : List S45} (h : ∀ m ∈ l, okm m) (i : Nat) : ∀ m ∈ l.take i, okm m := fun m hm => h m (List.mem_of_mem_take hm)
theorem tot_take_bd {l : List S45} (h : ∀ m ∈ l, okm m) (hl : l.length ≤ 128) (i : Nat) : 0 ≤ tot (l.take i) ∧ tot (l.take i) ≤ 196608 := by
  have h1 := tot_bd (ok_take h i)
  have h2 := List.length_take_le i l
  have h3 : (l.take i).length ≤ l.length := List.length_take_le' i l
  omega
theorem tot_take_le {l : List S45} (h : ∀ m ∈ l, okm m) (i : Nat) : tot (l.take i) ≤ tot l := by
  have h1 := tot_append (l.take i) (l.drop i)
  rw [List.take_append_drop] at h1
  have h2 := tot_bd (l := l.drop i) (fun m hm => h m (List.mem_of_mem_drop hm))
  omega
theorem tot_take_mono {l : List S45} (h : ∀ m ∈ l, okm m) {i j : Nat} (hij : i ≤ j) : tot (l.take i) ≤ tot (l.take j) := by
  have := tot_take_le (ok_take h j) i
  rwa [List.take_take, Nat.min_eq_left hij] at this

/-! ### Check -/
/-- what Check says of a list -/
def chk (l : List S45) : Int :=
  if l.length = 0 then 4 else if 128 < l.length then 3 else if ∀ m ∈ l, okm m then (if 8192 < tot l then 3 else 0) else 1
/-- a list that Check lets by -/
structure Good (l : List S45) : Prop where
  pos : 0 < l.length
  len : l.length ≤ 128
  ok : ∀ m ∈ l, okm m
  tot : tot l ≤ 8192
theorem chk_good {l : List S45} (h : chk l = 0) : Good l := by
  unfold chk at h
  by_cases h1 : l.length = 0
  · rw [if_pos h1] at h; omega
  · rw [if_neg h1] at h
    by_cases h2 : 128 < l.length
    · rw [if_pos h2] at h; omega
    · rw [if_neg h2] at h
      by_cases h3 : ∀ m ∈ l, okm m
      · rw [if_pos h3] at h
        by_cases h4 : 8192 < tot l
        · rw [if_pos h4] at h; omega
        · exact ⟨by omega, by omega, h3, by omega⟩
      · rw [if_neg h3] at h; omega
theorem good_chk {l : List S45} (g : Good l) : chk l = 0 := by
  have := g.pos; have := g.len; have := g.tot
  unfold chk
  rw [if_neg (by omega), if_neg (by omega), if_pos g.ok, if_neg (by omega)]
theorem not_good {l : List S45} (h : chk l ≠ 0) : ¬ Good l := fun g => h (good_chk g)
theorem ok_all_drop {l : List S45} {i : Nat} (h : i < l.length) : (∀ m ∈ l.drop i, okm m) ↔ okm l[i] ∧ ∀ m ∈ l.drop (i + 1), okm m := by
  rw [drop_at h, List.forall_mem_cons]
/-- a bad element decides -/
theorem bad_split {m : S45} (h : ¬ okm m) : m.f0 < 1 ∨ (¬ m.f0 < 1 ∧ m.f0 > 16) ∨ (¬ m.f0 < 1 ∧ ¬ m.f0 > 16 ∧ m.f1 < 1) ∨ (¬ m.f0 < 1 ∧ ¬ m.f0 > 16 ∧ ¬ m.f1 < 1 ∧ m.f1 > 96) := by
  unfold okm at h; omega

theorem check_loop (l : List S45) (hl : l.length ≤ 128) (d : Nat) : ∀ (i : Nat) (acc : Int), i + d = l.length → 0 ≤ acc → acc ≤ 1536 * i →
    Ev (fun k => meter_Check.l0 k acc l (l.length : Int) (i : Int)) (if ∀ m ∈ l.drop i, okm m then (if 8192 < acc + tot (l.drop i) then 3 else 0) else 1) := by
  induction d with
  | zero =>
    intro i acc hi h0 h1
    rw [show l.drop i = [] from by rw [List.drop_eq_nil_iff]; omega]
    refine Ev.step (f := fun _ => some (if 8192 < acc then 3 else 0)) (fun k => ?_) ?_
    · simp only [meter_Check.l0]
      rw [if_neg (by omega)]
      by_cases h : 8192 < acc
      · rw [if_pos h, if_pos h]
      · rw [if_neg h, if_neg h]
    · simp only [tot]
      exact Ev.now _ |> fun h => by simpa using h
  | succ d ih =>
    intro i acc hi h0 h1
    have hlt : i < l.length := by omega
    by_cases hok : okm l[i]
    · have hb := mt_bd hok
      have := ih (i + 1) (acc + mt l[i]) (by omega) (by omega) (by push_cast; omega)
      have e1 : (∀ m ∈ l.drop i, okm m) ↔ ∀ m ∈ l.drop (i + 1), okm m := by rw [ok_all_drop hlt]; exact ⟨fun h => h.2, fun h => ⟨hok, h⟩⟩
      have e2 : acc + tot (l.drop i) = acc + mt l[i] + tot (l.drop (i + 1)) := by rw [drop_at hlt]; simp only [tot]; omega
      rw [e2]
      simp only [e1]
      refine Ev.step (fun k => ?_) this
      simp only [meter_Check.l0]
      obtain ⟨o1, o2, o3, o4⟩ := hok
      rw [rd_at hlt, if_pos (by omega), if_pos (by omega), if_pos (by omega), if_neg (by omega), if_neg (by omega), if_neg (by omega), if_neg (by omega)]
      have e3 : wrap64 (l[i].f0 * l[i].f1) = mt l[i] := by unfold mt at hb ⊢; exact w64 (by omega) (by omega)
      rw [e3, w64 (by omega) (by omega), wnat (n := 128) (by omega) (by omega)]
    · have e1 : ¬ ∀ m ∈ l.drop i, okm m := by rw [ok_all_drop hlt]; exact fun h => hok h.1
      rw [if_neg e1]
      refine Ev.step (f := fun _ => some 1) (fun k => ?_) (Ev.now 1)
      simp only [meter_Check.l0]
      rw [rd_at hlt, if_pos (by omega), if_pos (by omega), if_pos (by omega)]
      rcases bad_split hok with h | ⟨h, g⟩ | ⟨h, g, e⟩ | ⟨h, g, e, f⟩
      · rw [if_pos h]
      · rw [if_neg h, if_pos g]
      · rw [if_neg h, if_neg g, if_pos e]
      · rw [if_neg h, if_neg g, if_neg e, if_pos f]
theorem check_ev (l : List S45) : Ev (fun k => meter_Check.f k l) (chk l) := by
  unfold chk
  by_cases h1 : l.length = 0
  · rw [if_pos h1]
    refine Ev.congr (f := fun _ => some 4) (fun k => ?_) (Ev.now 4)
    unfold meter_Check.f
    rw [if_pos (by omega)]
  · rw [if_neg h1]
    by_cases h2 : 128 < l.length
    · rw [if_pos h2]
      refine Ev.congr (f := fun _ => some 3) (fun k => ?_) (Ev.now 3)
      unfold meter_Check.f
      rw [if_neg (by omega), if_pos (by omega)]
    · rw [if_neg h2]
      have := check_loop l (by omega) l.length 0 0 (by omega) (by omega) (by omega)
      simp only [List.drop_zero, Int.zero_add] at this
      refine Ev.congr (fun k => ?_) this
      unfold meter_Check.f
      rw [if_neg (by omega), if_neg (by omega)]
      rfl
/-! ### begin -/
theorem begin_loop (l : List S45) (ho : ∀ m ∈ l, okm m) (hl : l.length ≤ 128) (d : Nat) : ∀ (i : Nat) (acc : Int), i + d = l.length → 0 ≤ acc → acc ≤ 1536 * i →
    Ev (fun k => meter_begin.l0 k acc l (l.length : Int) (i : Int)) (acc + tot (l.drop i)) := by
  induction d with
  | zero =>
    intro i acc hi h0 h1
    rw [show l.drop i = [] from by rw [List.drop_eq_nil_iff]; omega]
    refine Ev.step (f := fun _ => some acc) (fun k => ?_) ?_
    · simp only [meter_begin.l0]
      rw [if_neg (by omega)]
    · simp only [tot, Int.add_zero]; exact Ev.now _
  | succ d ih =>
    intro i acc hi h0 h1
    have hlt : i < l.length := by omega
    have hb := mt_bd (ho l[i] (List.getElem_mem hlt))
    have := ih (i + 1) (acc + mt l[i]) (by omega) (by omega) (by push_cast; omega)
    have e2 : acc + tot (l.drop i) = acc + mt l[i] + tot (l.drop (i + 1)) := by rw [drop_at hlt]; simp only [tot]; omega
    rw [e2]
    refine Ev.step (fun k => ?_) this
    simp only [meter_begin.l0]
    rw [rd_at hlt, if_pos (by omega), if_pos (by omega), if_pos (by omega)]
    have e3 : wrap64 (l[i].f0 * l[i].f1) = mt l[i] := by unfold mt at hb ⊢; exact w64 (by omega) (by omega)
    rw [e3, w64 (by omega) (by omega), wnat (n := 128) (by omega) (by omega)]
theorem begin_ev (l : List S45) (ho : ∀ m ∈ l, okm m) (hl : l.length ≤ 128) (i : Nat) (hi : i ≤ l.length) : Ev (fun k => meter_begin.f k l (i : Int)) (tot (l.take i)) := by
  have h3 : (l.take i).length ≤ l.length := List.length_take_le' i l
  have := begin_loop (l.take i) (ok_take ho i) (by omega) (l.take i).length 0 0 (by omega) (by omega) (by omega)
  simp only [List.drop_zero, Int.zero_add] at this
  refine Ev.congr (fun k => ?_) this
  unfold meter_begin.f
  rw [if_pos (by omega), if_pos (by omega)]
  simp only [Option.bind_some, Int.toNat_natCast]
  rfl
/-! ### Measure -/
theorem measure_bad {l : List S45} (h : chk l ≠ 0) (i : Int) : Ev (fun k => meter_Measure.f k l i) (0, 0, chk l) := by
  unfold meter_Measure.f
  refine Ev.bind (check_ev l) ?_
  simp only [if_neg h]
  exact Ev.now _
theorem measure_out {l : List S45} (g : Good l) {i : Int} (h : i < 0 ∨ (l.length : Int) ≤ i) : Ev (fun k => meter_Measure.f k l i) (0, 0, 32) := by
  have h1 := check_ev l
  rw [good_chk g] at h1
  unfold meter_Measure.f
  refine Ev.bind h1 ?_
  simp only [if_true]
  have hj : Ev (fun k => meter_Measure.j0 k l i true) (0, 0, 32) := Ev.step (f := fun _ => some (0, 0, 32)) (fun k => by simp only [meter_Measure.j0]; rw [if_pos trivial]) (Ev.now _)
  by_cases hn : i < 0
  · simp only [if_pos hn]
    exact hj
  · simp only [if_neg hn]
    rw [show decide (i ≥ (l.length : Int)) = true from decide_eq_true (by omega)]
    exact hj
theorem measure_in {l : List S45} (g : Good l) {i : Nat} (h : i < l.length) : Ev (fun k => meter_Measure.f k l (i : Int)) (tot (l.take i), tot (l.take (i + 1)), 0) := by
  have h1 := check_ev l
  rw [good_chk g] at h1
  have hl := g.len
  unfold meter_Measure.f
  refine Ev.bind h1 ?_
  simp only [if_true]
  simp only [if_neg (show ¬ ((i : Int) < 0) by omega)]
  rw [show decide ((i : Int) ≥ (l.length : Int)) = false from decide_eq_false (by omega)]
  have h2 := Ev.bind (f := fun k t => (meter_begin.f k l (wrap64 ((i : Int) + 1))).bind fun u => some (t, u, (0 : Int))) (begin_ev l g.ok g.len i (by omega)) (by
    rw [wnat (n := 128) (i := i) (by omega) (by omega)]
    exact Ev.bind (begin_ev l g.ok g.len (i + 1) (by omega)) (Ev.now _))
  exact Ev.step (fun k => by simp only [meter_Measure.j0]; rw [if_neg (by decide)]) h2
/-! ### Cut -/
def part (l : List S45) (s e : Int) : List S45 := (l.take e.toNat).drop s.toNat
theorem cut_bad {l : List S45} (h : chk l ≠ 0) (s e : Int) : Ev (fun k => meter_Cut.f k l s e) ([], chk l) := by
  unfold meter_Cut.f
  refine Ev.bind (check_ev l) ?_
  simp only [if_neg h]
  exact Ev.now _
theorem cut_out {l : List S45} (g : Good l) {s e : Int} (h : s < 0 ∨ e ≤ s ∨ (l.length : Int) < e) : Ev (fun k => meter_Cut.f k l s e) ([], 32) := by
  have hc := check_ev l
  rw [good_chk g] at hc
  unfold meter_Cut.f
  refine Ev.bind hc ?_
  simp only [if_true]
  by_cases h1 : s < 0
  · simp only [if_pos h1]; exact Ev.now _
  · by_cases h2 : s ≥ e
    · simp only [if_neg h1, if_pos h2]; exact Ev.now _
    · simp only [if_neg h1, if_neg h2, if_pos (show e > (l.length : Int) by omega)]; exact Ev.now _
theorem cut_in {l : List S45} (g : Good l) {s e : Int} (h0 : 0 ≤ s) (h1 : s < e) (h2 : e ≤ (l.length : Int)) : Ev (fun k => meter_Cut.f k l s e) (part l s e, 0) := by
  have hc := check_ev l
  rw [good_chk g] at hc
  have hl := g.len
  have hp : ((l.take e.toNat).drop s.toNat).length ≤ l.length := by simp; omega
  unfold meter_Cut.f
  refine Ev.bind hc ?_
  simp only [if_true, if_neg (show ¬ (s < 0) by omega), if_neg (show ¬ (s ≥ e) by omega), if_neg (show ¬ (e > (l.length : Int)) by omega), Option.bind_some, if_pos h0, if_pos (show s ≤ e by omega), if_pos h2, List.nil_append, List.length_nil, Nat.zero_add,
    if_pos (show ((l.take e.toNat).drop s.toNat).length < 8796093022208 by omega)]
  exact Ev.now _
/-! ### the chapter's examples -/
theorem awake_ev : Ev (fun k => dancestudiolaw13_awake.f k) true := Ev.of (fun k => dancestudiolaw13_awake.mono k) (k := 60) (by kernel_rfl)
theorem part_eq (l : List S45) (s e : Nat) : part l s e = (l.drop s).take (e - s) := by
  unfold part
  rw [Int.toNat_natCast, Int.toNat_natCast, List.drop_take]
theorem part_length {l : List S45} {s e : Nat} (h : s ≤ e) (he : e ≤ l.length) : (part l s e).length = e - s := by
  rw [part_eq]; simp; omega
theorem part_tot {l : List S45} {s e i : Nat} (hi : s + i ≤ e) : tot (l.take (s + i)) = tot (l.take s) + tot ((part l s e).take i) := by
  rw [part_eq, List.take_take, Nat.min_eq_left (by omega), List.take_add, tot_append]
theorem part_at {l : List S45} {s e i : Nat} (he : e ≤ l.length) (hi : s + i < e) : rd_T45 (part l s e) (i : Int) = rd_T45 l ((s + i : Nat) : Int) := by
  rw [rd_at (by rw [part_length (by omega) he]; omega), rd_at (by omega)]
  simp only [part_eq, List.getElem_take, List.getElem_drop]
theorem part_good {l : List S45} (g : Good l) {s e : Nat} (h : s < e) (he : e ≤ l.length) : Good (part l s e) := by
  have hl := g.len
  have hlen := part_length (Nat.le_of_lt h) he
  refine ⟨by omega, by omega, fun m hm => ?_, ?_⟩
  · rw [part_eq] at hm
    exact g.ok m (List.mem_of_mem_drop (List.mem_of_mem_take hm))
  · have h1 := part_tot (l := l) (s := s) (e := e) (i := e - s) (by omega)
    rw [List.take_of_length_le (by omega : (part l s e).length ≤ e - s)] at h1
    have h2 := tot_take_le g.ok (s + (e - s))
    have h3 := (tot_take_bd g.ok g.len s).1
    have h4 := g.tot
    omega
theorem cuts_in {l : List S45} (g : Good l) {s e : Nat} (h : s < e) (he : e ≤ l.length) (x : Int) (hx : (Lit.int .i64 x).wf = true) :
    Ev (fun k => dancestudiolaw13_MeterCuts.j0 k l x (part l s e) false (s : Int) (e : Int)) true := by
  have hl := g.len
  have g' := part_good g h he
  have hlen := part_length (Nat.le_of_lt h) he
  have hc := check_ev (part l s e)
  rw [good_chk g'] at hc
  have hout : Ev (fun k => dancestudiolaw13_MeterCuts.j2 k l x (part l s e) 32 true (s : Int) (e : Int) (tot (l.take s)) (tot (l.take (s + 1))) 0 0) true := by
    refine Ev.step (f := fun k => (dancestudiolaw13_awake.f k).bind fun b => some b) (fun k => ?_) (Ev.bind awake_ev (Ev.now _))
    simp only [dancestudiolaw13_MeterCuts.j2]
    rw [if_pos trivial, if_pos trivial]
  have hj1 : Ev (fun k => dancestudiolaw13_MeterCuts.j1 k l x (part l s e) false (s : Int) (e : Int) (tot (l.take s)) (tot (l.take (s + 1)))) true := by
    by_cases hi : 0 ≤ x ∧ x < ((part l s e).length : Int)
    · obtain ⟨i, rfl⟩ : ∃ i : Nat, x = i := ⟨x.toNat, by omega⟩
      have e1 : wrap64 ((s : Int) + (i : Int)) = ((s + i : Nat) : Int) := by rw [w64 (by omega) (by omega)]; push_cast; rfl
      have b1 := tot_take_bd g.ok g.len (s + i)
      have b2 := tot_take_bd g.ok g.len (s + i + 1)
      have b3 := tot_take_bd g.ok g.len s
      have t1 := part_tot (l := l) (s := s) (e := e) (i := i) (by omega)
      have t2 := part_tot (l := l) (s := s) (e := e) (i := i + 1) (by omega)
      have hj2 : Ev (fun k => dancestudiolaw13_MeterCuts.j2 k l (i : Int) (part l s e) 0 false (s : Int) (e : Int) (tot (l.take s)) (tot (l.take (s + 1))) (tot ((part l s e).take i)) (tot ((part l s e).take (i + 1)))) true := by
        have : Ev (fun k => (meter_Measure.f k l ((s + i : Nat) : Int)).bind fun bt => if bt.2.2 = 0 then (if tot ((part l s e).take i) = wrap64 (bt.1 - tot (l.take s)) then (if tot ((part l s e).take (i + 1)) = wrap64 (bt.2.1 - tot (l.take s)) then (dancestudiolaw13_awake.f k).bind fun b => some b else some false) else some false) else some false) true := by
          refine Ev.bind (measure_in g (by omega)) ?_
          rw [w64 (n := tot (l.take (s + i)) - tot (l.take s)) (by omega) (by omega), w64 (n := tot (l.take (s + i + 1)) - tot (l.take s)) (by omega) (by omega)]
          simp only [if_true, if_pos (show tot ((part l s e).take i) = tot (l.take (s + i)) - tot (l.take s) by omega), if_pos (show tot ((part l s e).take (i + 1)) = tot (l.take (s + i + 1)) - tot (l.take s) by rw [show s + i + 1 = s + (i + 1) by omega]; omega)]
          exact Ev.bind awake_ev (Ev.now _)
        refine Ev.step (fun k => ?_) this
        simp only [dancestudiolaw13_MeterCuts.j2]
        rw [if_neg (by decide), e1, part_at he (by omega)]
        simp only [if_true, if_pos hi.1, if_pos hi.2, if_pos (show (0 : Int) ≤ ((s + i : Nat) : Int) by omega), if_pos (show ((s + i : Nat) : Int) < (l.length : Int) by omega), BEq.rfl, Bool.and_self]
      refine Ev.step (fun k => by simp only [dancestudiolaw13_MeterCuts.j1]; rw [if_neg (by decide)]) (Ev.bind (measure_in g' (i := i) (by omega)) ?_)
      simp only [if_neg (show ¬ ((i : Int) < 0) by omega)]
      rw [show decide ((i : Int) ≥ ((part l s e).length : Int)) = false from decide_eq_false (by omega)]
      exact hj2
    · refine Ev.step (fun k => by simp only [dancestudiolaw13_MeterCuts.j1]; rw [if_neg (by decide)]) (Ev.bind (measure_out g' (i := x) (by omega)) ?_)
      by_cases hn : x < 0
      · simp only [if_pos hn]
        exact hout
      · simp only [if_neg hn]
        rw [show decide (x ≥ ((part l s e).length : Int)) = true from decide_eq_true (by omega)]
        exact hout
  refine Ev.step (fun k => by simp only [dancestudiolaw13_MeterCuts.j0]; rw [if_neg (by decide)]) (Ev.bind (measure_in g (i := s) (by omega)) ?_)
  simp only [if_true]
  refine Ev.bind hc ?_
  exact hj1
/-- MeterCuts returns true, for every list, span and number. -/
theorem pure_MeterCuts (l : List S45) (_ : l.length * 16 ≤ 140737488351232) (s : Int) (_ : (Lit.int .i64 s).wf = true) (e : Int) (_ : (Lit.int .i64 e).wf = true) (x : Int) (hx : (Lit.int .i64 x).wf = true) :
    ∃ k, dancestudiolaw13_MeterCuts.f k l s e x = some true := by
  refine Ev.rounds (g := fun k => dancestudiolaw13_MeterCuts.f k l s e x) ?_
  have hbad : ∀ c : Int, c ≠ 0 → Ev (fun k => meter_Cut.f k l s e) ([], c) → Ev (fun k => dancestudiolaw13_MeterCuts.f k l s e x) true := by
    intro c hc hb
    unfold dancestudiolaw13_MeterCuts.f
    refine Ev.bind hb ?_
    simp only [if_neg hc, List.length_nil, Int.natCast_zero, if_true]
    exact Ev.bind awake_ev (Ev.now _)
  by_cases h : chk l = 0
  · have g := chk_good h
    have hl := g.len
    by_cases hs : 0 ≤ s ∧ s < e ∧ e ≤ (l.length : Int)
    · obtain ⟨a, rfl⟩ : ∃ a : Nat, s = a := ⟨s.toNat, by omega⟩
      obtain ⟨b, rfl⟩ : ∃ b : Nat, e = b := ⟨e.toNat, by omega⟩
      have hlen := part_length (l := l) (s := a) (e := b) (by omega) (by omega)
      unfold dancestudiolaw13_MeterCuts.f
      refine Ev.bind (cut_in g hs.1 hs.2.1 hs.2.2) ?_
      simp only [if_true, if_neg (show ¬ ((a : Int) < 0) by omega), if_neg (show ¬ ((a : Int) ≥ (b : Int)) by omega), if_neg (show ¬ ((b : Int) > (l.length : Int)) by omega)]
      rw [show (((part l a b).length : Int) != wrap64 ((b : Int) - (a : Int))) = false from by rw [w64 (by omega) (by omega), bne_eq_false_iff_eq]; omega]
      exact cuts_in g (by omega) (by omega) x hx
    · exact hbad 32 (by decide) (cut_out g (by omega))
  · exact hbad _ h (cut_bad h s e)
end Go.Proofs.Ytepocdjaedddcaa.PMeterCuts
