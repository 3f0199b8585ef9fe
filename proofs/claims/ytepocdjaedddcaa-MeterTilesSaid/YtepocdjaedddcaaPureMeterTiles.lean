/- Plain lemmas on the functions that the law MeterTiles reaches: no memory and no Go in them. -/
import Derived.Test.YtepocdjaedddcaaPMeterTilesx
namespace Go.Proofs.Ytepocdjaedddcaa.PMeterTiles
open Go.RowKit Go.Proofs.YtepocdjaedddcaaW.PrintWords Go.Proofs.YtepocdjaedddcaaW.PrintLast Go.Proofs.YtepocdjaedddcaaW.PrintMore
/-! ### numbers and lists -/
theorem w64 {n : Int} (h : -9223372036854775808 ≤ n) (h2 : n ≤ 9223372036854775807) : wrap64 n = n := by unfold wrap64; omega
theorem wnat {i n : Nat} (h : i < n) (hn : n ≤ 9223372036854775807) : wrap64 ((i : Int) + 1) = ((i + 1 : Nat) : Int) := by unfold wrap64; omega
def mt (m : S45) : Int := m.f0 * m.f1
def okm (m : S45) : Prop := 1 ≤ m.f0 ∧ m.f0 ≤ 16 ∧ 1 ≤ m.f1 ∧ m.f1 ≤ 96
instance (m : S45) : Decidable (okm m) := by unfold okm; infer_instance
theorem mt_bd {m : S45} (h : okm m) : 1 ≤ mt m ∧ mt m ≤ 1536 := by
  obtain ⟨h1, h2, h3, h4⟩ := h
  unfold mt
  obtain h | h | h | h | h | h | h | h | h | h | h | h | h | h | h | h : m.f0 = 1 ∨ m.f0 = 2 ∨ m.f0 = 3 ∨ m.f0 = 4 ∨ m.f0 = 5 ∨ m.f0 = 6 ∨ m.f0 = 7 ∨ m.f0 = 8 ∨ m.f0 = 9 ∨ m.f0 = 10 ∨ m.f0 = 11 ∨ m.f0 = 12 ∨ m.f0 = 13 ∨ m.f0 = 14 ∨ m.f0 = 15 ∨ m.f0 = 16 := by omega
  all_goals rw [h]; omega
def tot : List S45 → Int
  | [] => 0
  | m :: l => mt m + tot l
theorem tot_append (a b : List S45) : tot (a ++ b) = tot a + tot b := by
  induction a with
  | nil => simp [tot]
  | cons m a ih => simp [tot, ih]; omega
theorem tot_bd {l : List S45} (h : ∀ m ∈ l, okm m) : (l.length : Int) ≤ tot l ∧ tot l ≤ 1536 * l.length := by
  induction l with
  | nil => simp [tot]
  | cons m l ih =>
    have h1 := mt_bd (h m (by simp))
    have h2 := ih (fun x hx => h x (by simp [hx]))
    simp only [tot, List.length_cons]
    omega
theorem rd_at {l : List S45} {i : Nat} (h : i < l.length) : rd_T45 l (i : Int) = l[i] := by
  unfold rd_T45
  simp [List.getD_eq_getElem?_getD, h]
theorem drop_at {l : List S45} {i : Nat} (h : i < l.length) : l.drop i = l[i] :: l.drop (i + 1) := List.drop_eq_getElem_cons h
theorem take_at {l : List S45} {i : Nat} (h : i < l.length) : l.take (i + 1) = l.take i ++ [l[i]] := by
  rw [List.take_succ_eq_append_getElem h]
theorem tot_take_succ {l : List S45} {i : Nat} (h : i < l.length) : tot (l.take (i + 1)) = tot (l.take i) + mt l[i] := by
  rw [take_at h, tot_append]; simp [tot]
theorem ok_take {l : List S45} (h : ∀ m ∈ l, okm m) (i : Nat) : ∀ m ∈ l.take i, okm m := fun m hm => h m (List.mem_of_mem_take hm)
theorem tot_take_bd {l : List S45} (h : ∀ m ∈ l, okm m) (hl : l.length ≤ 128) (i : Nat) : 0 ≤ tot (l.take i) ∧ tot (l.take i) ≤ 196608 := by
  have h1 := tot_bd (ok_take h i)
  have h2 := List.length_take_le i l
  have h3 : (l.take i).length ≤ l.length := List.length_take_le' i l
  omega
theorem tot_take_le {l : List S45} (h : ∀ m ∈ l, okm m) (i : Nat) : tot (l.take i) ≤ tot l := by
  have h1 := tot_append (l.take i) (l.drop i)
  rw [List.take_append_drop] at h1
  have h2 := tot_bd (l := l.drop i) (fun m hm => h m (List.mem_of_mem_drop hm))
  omega
theorem tot_take_mono {l : List S45} (h : ∀ m ∈ l, okm m) {i j : Nat} (hij : i ≤ j) : tot (l.take i) ≤ tot (l.take j) := by
  have := tot_take_le (ok_take h j) i
  rwa [List.take_take, Nat.min_eq_left hij] at this

/-! ### Check -/
/-- what Check says of a list -/
def chk (l : List S45) : Int :=
  if l.length = 0 then 4 else if 128 < l.length then 3 else if ∀ m ∈ l, okm m then (if 8192 < tot l then 3 else 0) else 1
/-- a list that Check lets by -/
structure Good (l : List S45) : Prop where
  pos : 0 < l.length
  len : l.length ≤ 128
  ok : ∀ m ∈ l, okm m
  tot : tot l ≤ 8192
theorem chk_good {l : List S45} (h : chk l = 0) : Good l := by
  unfold chk at h
  by_cases h1 : l.length = 0
  · rw [if_pos h1] at h; omega
  · rw [if_neg h1] at h
    by_cases h2 : 128 < l.length
    · rw [if_pos h2] at h; omega
    · rw [if_neg h2] at h
      by_cases h3 : ∀ m ∈ l, okm m
      · rw [if_pos h3] at h
        by_cases h4 : 8192 < tot l
        · rw [if_pos h4] at h; omega
        · exact ⟨by omega, by omega, h3, by omega⟩
      · rw [if_neg h3] at h; omega
theorem good_chk {l : List S45} (g : Good l) : chk l = 0 := by
  have := g.pos; have := g.len; have := g.tot
  unfold chk
  rw [if_neg (by omega), if_neg (by omega), if_pos g.ok, if_neg (by omega)]
theorem not_good {l : List S45} (h : chk l ≠ 0) : ¬ Good l := fun g => h (good_chk g)
theorem ok_all_drop {l : List S45} {i : Nat} (h : i < l.length) : (∀ m ∈ l.drop i, okm m) ↔ okm l[i] ∧ ∀ m ∈ l.drop (i + 1), okm m := by
  rw [drop_at h, List.forall_mem_cons]
/-- a bad element decides -/
theorem bad_split {m : S45} (h : ¬ okm m) : m.f0 < 1 ∨ (¬ m.f0 < 1 ∧ m.f0 > 16) ∨ (¬ m.f0 < 1 ∧ ¬ m.f0 > 16 ∧ m.f1 < 1) ∨ (¬ m.f0 < 1 ∧ ¬ m.f0 > 16 ∧ ¬ m.f1 < 1 ∧ m.f1 > 96) := by
  unfold okm at h; omega

theorem check_loop (l : List S45) (hl : l.length ≤ 128) (d : Nat) : ∀ (i : Nat) (acc : Int), i + d = l.length → 0 ≤ acc → acc ≤ 1536 * i →
    Ev (fun k => meter_Check.l0 k acc l (l.length : Int) (i : Int)) (if ∀ m ∈ l.drop i, okm m then (if 8192 < acc + tot (l.drop i) then 3 else 0) else 1) := by
  induction d with
  | zero =>
    intro i acc hi h0 h1
    rw [show l.drop i = [] from by rw [List.drop_eq_nil_iff]; omega]
    refine Ev.step (f := fun _ => some (if 8192 < acc then 3 else 0)) (fun k => ?_) ?_
    · simp only [meter_Check.l0]
      rw [if_neg (by omega)]
      by_cases h : 8192 < acc
      · rw [if_pos h, if_pos h]
      · rw [if_neg h, if_neg h]
    · simp only [tot]
      exact Ev.now _ |> fun h => by simpa using h
  | succ d ih =>
    intro i acc hi h0 h1
    have hlt : i < l.length := by omega
    by_cases hok : okm l[i]
    · have hb := mt_bd hok
      have := ih (i + 1) (acc + mt l[i]) (by omega) (by omega) (by push_cast; omega)
      have e1 : (∀ m ∈ l.drop i, okm m) ↔ ∀ m ∈ l.drop (i + 1), okm m := by rw [ok_all_drop hlt]; exact ⟨fun h => h.2, fun h => ⟨hok, h⟩⟩
      have e2 : acc + tot (l.drop i) = acc + mt l[i] + tot (l.drop (i + 1)) := by rw [drop_at hlt]; simp only [tot]; omega
      rw [e2]
      simp only [e1]
      refine Ev.step (fun k => ?_) this
      simp only [meter_Check.l0]
      obtain ⟨o1, o2, o3, o4⟩ := hok
      rw [rd_at hlt, if_pos (by omega), if_pos (by omega), if_pos (by omega), if_neg (by omega), if_neg (by omega), if_neg (by omega), if_neg (by omega)]
      have e3 : wrap64 (l[i].f0 * l[i].f1) = mt l[i] := by unfold mt at hb ⊢; exact w64 (by omega) (by omega)
      rw [e3, w64 (by omega) (by omega), wnat (n := 128) (by omega) (by omega)]
    · have e1 : ¬ ∀ m ∈ l.drop i, okm m := by rw [ok_all_drop hlt]; exact fun h => hok h.1
      rw [if_neg e1]
      refine Ev.step (f := fun _ => some 1) (fun k => ?_) (Ev.now 1)
      simp only [meter_Check.l0]
      rw [rd_at hlt, if_pos (by omega), if_pos (by omega), if_pos (by omega)]
      rcases bad_split hok with h | ⟨h, g⟩ | ⟨h, g, e⟩ | ⟨h, g, e, f⟩
      · rw [if_pos h]
      · rw [if_neg h, if_pos g]
      · rw [if_neg h, if_neg g, if_pos e]
      · rw [if_neg h, if_neg g, if_neg e, if_pos f]
theorem check_ev (l : List S45) : Ev (fun k => meter_Check.f k l) (chk l) := by
  unfold chk
  by_cases h1 : l.length = 0
  · rw [if_pos h1]
    refine Ev.congr (f := fun _ => some 4) (fun k => ?_) (Ev.now 4)
    unfold meter_Check.f
    rw [if_pos (by omega)]
  · rw [if_neg h1]
    by_cases h2 : 128 < l.length
    · rw [if_pos h2]
      refine Ev.congr (f := fun _ => some 3) (fun k => ?_) (Ev.now 3)
      unfold meter_Check.f
      rw [if_neg (by omega), if_pos (by omega)]
    · rw [if_neg h2]
      have := check_loop l (by omega) l.length 0 0 (by omega) (by omega) (by omega)
      simp only [List.drop_zero, Int.zero_add] at this
      refine Ev.congr (fun k => ?_) this
      unfold meter_Check.f
      rw [if_neg (by omega), if_neg (by omega)]
      rfl
/-! ### begin, Length -/
theorem begin_loop (l : List S45) (ho : ∀ m ∈ l, okm m) (hl : l.length ≤ 128) (d : Nat) : ∀ (i : Nat) (acc : Int), i + d = l.length → 0 ≤ acc → acc ≤ 1536 * i →
    Ev (fun k => meter_begin.l0 k acc l (l.length : Int) (i : Int)) (acc + tot (l.drop i)) := by
  induction d with
  | zero =>
    intro i acc hi h0 h1
    rw [show l.drop i = [] from by rw [List.drop_eq_nil_iff]; omega]
    refine Ev.step (f := fun _ => some acc) (fun k => ?_) ?_
    · simp only [meter_begin.l0]
      rw [if_neg (by omega)]
    · simp only [tot, Int.add_zero]; exact Ev.now _
  | succ d ih =>
    intro i acc hi h0 h1
    have hlt : i < l.length := by omega
    have hb := mt_bd (ho l[i] (List.getElem_mem hlt))
    have := ih (i + 1) (acc + mt l[i]) (by omega) (by omega) (by push_cast; omega)
    have e2 : acc + tot (l.drop i) = acc + mt l[i] + tot (l.drop (i + 1)) := by rw [drop_at hlt]; simp only [tot]; omega
    rw [e2]
    refine Ev.step (fun k => ?_) this
    simp only [meter_begin.l0]
    rw [rd_at hlt, if_pos (by omega), if_pos (by omega), if_pos (by omega)]
    have e3 : wrap64 (l[i].f0 * l[i].f1) = mt l[i] := by unfold mt at hb ⊢; exact w64 (by omega) (by omega)
    rw [e3, w64 (by omega) (by omega), wnat (n := 128) (by omega) (by omega)]
theorem begin_ev (l : List S45) (ho : ∀ m ∈ l, okm m) (hl : l.length ≤ 128) (i : Nat) (hi : i ≤ l.length) : Ev (fun k => meter_begin.f k l (i : Int)) (tot (l.take i)) := by
  have h3 : (l.take i).length ≤ l.length := List.length_take_le' i l
  have := begin_loop (l.take i) (ok_take ho i) (by omega) (l.take i).length 0 0 (by omega) (by omega) (by omega)
  simp only [List.drop_zero, Int.zero_add] at this
  refine Ev.congr (fun k => ?_) this
  unfold meter_begin.f
  rw [if_pos (by omega), if_pos (by omega)]
  simp only [Option.bind_some, Int.toNat_natCast]
  rfl
theorem length_good {l : List S45} (g : Good l) : Ev (fun k => meter_Length.f k l) (tot l, 0) := by
  have h1 := check_ev l
  rw [good_chk g] at h1
  have h2 := begin_ev l g.ok g.len l.length (Nat.le_refl _)
  rw [List.take_length] at h2
  unfold meter_Length.f
  refine Ev.bind h1 ?_
  simp only [if_true]
  exact Ev.bind h2 (Ev.now _)
theorem length_bad {l : List S45} (h : chk l ≠ 0) : Ev (fun k => meter_Length.f k l) (0, chk l) := by
  unfold meter_Length.f
  refine Ev.bind (check_ev l) ?_
  simp only [if_neg h]
  exact Ev.now _
/-! ### Measure -/
theorem measure_bad {l : List S45} (h : chk l ≠ 0) (i : Int) : Ev (fun k => meter_Measure.f k l i) (0, 0, chk l) := by
  unfold meter_Measure.f
  refine Ev.bind (check_ev l) ?_
  simp only [if_neg h]
  exact Ev.now _
theorem measure_out {l : List S45} (g : Good l) {i : Int} (h : i < 0 ∨ (l.length : Int) ≤ i) : Ev (fun k => meter_Measure.f k l i) (0, 0, 32) := by
  have h1 := check_ev l
  rw [good_chk g] at h1
  unfold meter_Measure.f
  refine Ev.bind h1 ?_
  simp only [if_true]
  have hj : Ev (fun k => meter_Measure.j0 k l i true) (0, 0, 32) := Ev.step (f := fun _ => some (0, 0, 32)) (fun k => by simp only [meter_Measure.j0]; rw [if_pos trivial]) (Ev.now _)
  by_cases hn : i < 0
  · simp only [if_pos hn]
    exact hj
  · simp only [if_neg hn]
    rw [show decide (i ≥ (l.length : Int)) = true from decide_eq_true (by omega)]
    exact hj
theorem measure_in {l : List S45} (g : Good l) {i : Nat} (h : i < l.length) : Ev (fun k => meter_Measure.f k l (i : Int)) (tot (l.take i), tot (l.take (i + 1)), 0) := by
  have h1 := check_ev l
  rw [good_chk g] at h1
  have hl := g.len
  unfold meter_Measure.f
  refine Ev.bind h1 ?_
  simp only [if_true]
  simp only [if_neg (show ¬ ((i : Int) < 0) by omega)]
  rw [show decide ((i : Int) ≥ (l.length : Int)) = false from decide_eq_false (by omega)]
  have h2 := Ev.bind (f := fun k t => (meter_begin.f k l (wrap64 ((i : Int) + 1))).bind fun u => some (t, u, (0 : Int))) (begin_ev l g.ok g.len i (by omega)) (by
    rw [wnat (n := 128) (i := i) (by omega) (by omega)]
    exact Ev.bind (begin_ev l g.ok g.len (i + 1) (by omega)) (Ev.now _))
  exact Ev.step (fun k => by simp only [meter_Measure.j0]; rw [if_neg (by decide)]) h2
/-! ### the measure of a tick -/
theorem find_measure (l : List S45) (ho : ∀ m ∈ l, okm m) {t : Int} (h0 : 0 ≤ t) (h1 : t < tot l) : ∃ i, ∃ h : i < l.length, tot (l.take i) ≤ t ∧ t < tot (l.take i) + mt l[i] := by
  induction l generalizing t with
  | nil => simp [tot] at h1; omega
  | cons m l ih =>
    simp only [tot] at h1
    by_cases hm : t < mt m
    · exact ⟨0, by simp, by simpa [tot] using h0, by simpa [tot] using hm⟩
    · obtain ⟨i, h, a, b⟩ := ih (fun x hx => ho x (by simp [hx])) (t := t - mt m) (by omega) (by omega)
      exact ⟨i + 1, by simpa using h, by simp only [List.take_succ_cons, tot]; omega, by simp only [List.take_succ_cons, tot, List.getElem_cons_succ]; omega⟩
/-- quotient and remainder of a tick in its measure -/
theorem qr {a u b : Int} (h0 : 0 ≤ a) (hu : 1 ≤ u) (h : a < b * u) : 0 ≤ a / u ∧ a / u < b ∧ 0 ≤ a % u ∧ a % u < u ∧ a / u * u + a % u = a := by
  refine ⟨Int.ediv_nonneg h0 (by omega), Int.ediv_lt_of_lt_mul (by omega) h, Int.emod_nonneg _ (by omega), Int.emod_lt_of_pos _ (by omega), ?_⟩
  have := Int.mul_ediv_add_emod a u
  rw [Int.mul_comm] at this
  omega
/-! ### Where -/
/-- the beats of a measure that end before the tick are passed -/
theorem where_pass (l : List S45) (x10 x11 j len u f L : Int) (hu : 1 ≤ u) (hu2 : u ≤ 96) (hf : f ≤ 16) (hL : f * u ≤ L) (hL2 : L ≤ 8192) (r : Int × Int × Int × Int)
    (hn : Ev (fun k => meter_Where.l0 k x10 x11 (L - f * u) l len (wrap64 (j + 1))) r) (d : Nat) : ∀ b : Int, 0 ≤ b → b + d = f → Ev (fun k => meter_Where.l1 k x10 x11 (L - b * u) j l len j f b f u) r := by
  induction d with
  | zero =>
    intro b h0 hb
    obtain rfl : b = f := by omega
    exact Ev.step (fun k => by simp only [meter_Where.l1]; rw [if_neg (by omega)]) hn
  | succ d ih =>
    intro b h0 hb
    have h1 : (b + 1) * u ≤ f * u := Int.mul_le_mul_of_nonneg_right (by omega) (by omega)
    have h2 : (b + 1) * u = b * u + u := by rw [Int.add_mul]; omega
    have h3 : 0 ≤ b * u := Int.mul_nonneg h0 (by omega)
    have := ih (b + 1) (by omega) (by omega)
    refine Ev.step (fun k => ?_) this
    simp only [meter_Where.l1]
    rw [if_pos (by omega), if_neg (by omega), w64 (by omega) (by omega), w64 (n := b + 1) (by omega) (by omega), h2]
    rw [show L - b * u - u = L - (b * u + u) by omega]
/-- the beat that has the tick is found -/
theorem where_stop (l : List S45) (x10 x11 j len u f L : Int) (hu : 1 ≤ u) (hu2 : u ≤ 96) (hf : f ≤ 16) (h0 : 0 ≤ L) (hL : L < f * u) (hL2 : L ≤ 8192) (d : Nat) :
    ∀ b : Int, 0 ≤ b → b + d = L / u → Ev (fun k => meter_Where.l1 k x10 x11 (L - b * u) j l len j f b f u) (j, L / u, L % u, 0) := by
  obtain ⟨q0, q1, r0, r1, e⟩ := qr h0 hu hL
  induction d with
  | zero =>
    intro b hb0 hb
    obtain rfl : b = L / u := by omega
    refine Ev.step (f := fun _ => some (j, L / u, L % u, 0)) (fun k => ?_) (Ev.now _)
    simp only [meter_Where.l1]
    rw [if_pos (by omega), if_pos (by omega), show L - L / u * u = L % u by omega]
  | succ d ih =>
    intro b hb0 hb
    have h1 : (b + 1) * u ≤ L / u * u := Int.mul_le_mul_of_nonneg_right (by omega) (by omega)
    have h2 : (b + 1) * u = b * u + u := by rw [Int.add_mul]; omega
    have h3 : 0 ≤ b * u := Int.mul_nonneg hb0 (by omega)
    have := ih (b + 1) (by omega) (by omega)
    refine Ev.step (fun k => ?_) this
    simp only [meter_Where.l1]
    rw [if_pos (by omega), if_neg (by omega), w64 (by omega) (by omega), w64 (n := b + 1) (by omega) (by omega), h2]
    rw [show L - b * u - u = L - (b * u + u) by omega]
theorem where_loop {l : List S45} (g : Good l) {t : Int} {i : Nat} (hi : i < l.length) (h1 : tot (l.take i) ≤ t) (h2 : t < tot (l.take i) + mt l[i]) (ht : t ≤ 8192) (d : Nat) :
    ∀ j : Nat, j + d = i → Ev (fun k => meter_Where.l0 k 0 0 (t - tot (l.take j)) l (l.length : Int) (j : Int)) ((i : Int), (t - tot (l.take i)) / l[i].f1, (t - tot (l.take i)) % l[i].f1, 0) := by
  have hl := g.len
  induction d with
  | zero =>
    intro j hj
    obtain rfl : j = i := by omega
    obtain ⟨o1, o2, o3, o4⟩ := g.ok l[j] (List.getElem_mem hi)
    have hb := (tot_take_bd g.ok g.len j).1
    have := where_stop l 0 0 (j : Int) (l.length : Int) l[j].f1 l[j].f0 (t - tot (l.take j)) o3 o4 o2 (by omega) (by unfold mt at h2; omega) (by omega) ((t - tot (l.take j)) / l[j].f1).toNat 0 (by omega)
      (by have := (qr (a := t - tot (l.take j)) (u := l[j].f1) (b := l[j].f0) (by omega) o3 (by unfold mt at h2; omega)).1; omega)
    simp only [Int.zero_mul, Int.sub_zero] at this
    refine Ev.step (fun k => ?_) this
    simp only [meter_Where.l0]
    rw [if_pos (by omega), if_pos (by omega), if_pos (by omega), rd_at hi]
  | succ d ih =>
    intro j hj
    have hlt : j < l.length := by omega
    obtain ⟨o1, o2, o3, o4⟩ := g.ok l[j] (List.getElem_mem hlt)
    have hb := (tot_take_bd g.ok g.len j).1
    have hs := tot_take_succ hlt
    have hm := tot_take_mono g.ok (i := j + 1) (j := i) (by omega)
    have hn := ih (j + 1) (by omega)
    have := where_pass l 0 0 (j : Int) (l.length : Int) l[j].f1 l[j].f0 (t - tot (l.take j)) o3 o4 o2 (by unfold mt at hs; omega) (by omega) _ (by
      rw [wnat (n := 128) (i := j) (by omega) (by omega), show t - tot (l.take j) - l[j].f0 * l[j].f1 = t - tot (l.take (j + 1)) by unfold mt at hs; omega]
      exact hn) l[j].f0.toNat 0 (by omega) (by omega)
    simp only [Int.zero_mul, Int.sub_zero] at this
    refine Ev.step (fun k => ?_) this
    simp only [meter_Where.l0]
    rw [if_pos (by omega), if_pos (by omega), if_pos (by omega), rd_at hlt]
theorem where_bad {l : List S45} (h : chk l ≠ 0) (t : Int) : Ev (fun k => meter_Where.f k l t) (0, 0, 0, chk l) := by
  unfold meter_Where.f
  refine Ev.bind (length_bad h) ?_
  simp only [if_neg h]
  exact Ev.now _
theorem where_out {l : List S45} (g : Good l) {t : Int} (h : t < 0 ∨ tot l ≤ t) : Ev (fun k => meter_Where.f k l t) (0, 0, 0, 1) := by
  unfold meter_Where.f
  refine Ev.bind (length_good g) ?_
  simp only [if_true]
  have hj : Ev (fun k => meter_Where.j0 k l t true) (0, 0, 0, 1) := Ev.step (f := fun _ => some (0, 0, 0, 1)) (fun k => by simp only [meter_Where.j0]; rw [if_pos trivial]) (Ev.now _)
  by_cases hn : t < 0
  · simp only [if_pos hn]
    exact hj
  · simp only [if_neg hn]
    rw [show decide (t ≥ tot l) = true from decide_eq_true (by omega)]
    exact hj
theorem where_in {l : List S45} (g : Good l) {t : Int} {i : Nat} (hi : i < l.length) (h1 : tot (l.take i) ≤ t) (h2 : t < tot (l.take i) + mt l[i]) :
    Ev (fun k => meter_Where.f k l t) ((i : Int), (t - tot (l.take i)) / l[i].f1, (t - tot (l.take i)) % l[i].f1, 0) := by
  have hs := tot_take_succ hi
  have hm := tot_take_le g.ok (i + 1)
  have hb := (tot_take_bd g.ok g.len i).1
  have ht := g.tot
  have := where_loop g hi h1 h2 (by omega) i 0 (by omega)
  simp only [List.take_zero, tot, Int.sub_zero, Int.natCast_zero] at this
  unfold meter_Where.f
  refine Ev.bind (length_good g) ?_
  simp only [if_true]
  simp only [if_neg (show ¬ (t < 0) by omega)]
  rw [show decide (t ≥ tot l) = false from decide_eq_false (by omega)]
  exact Ev.step (fun k => by simp only [meter_Where.j0]; rw [if_neg (by decide)]) this
/-! ### the chapter's examples -/
theorem awake_ev : Ev (fun k => dancestudiolaw13_awake.f k) true := Ev.of (fun k => dancestudiolaw13_awake.mono k) (k := 60) (by kernel_rfl)
theorem tiles_out {l : List S45} (t : Int) : Ev (fun k => dancestudiolaw13_MeterTiles.j1 k l t 1 0 0 0 true) true := by
  refine Ev.step (f := fun k => (dancestudiolaw13_awake.f k).bind fun b => some b) (fun k => ?_) (Ev.bind awake_ev (Ev.now _))
  simp only [dancestudiolaw13_MeterTiles.j1]
  rw [if_pos trivial, if_pos trivial, if_pos trivial, if_pos trivial, if_pos trivial]
theorem tiles_in {l : List S45} (g : Good l) {t : Int} {i : Nat} (hi : i < l.length) (h1 : tot (l.take i) ≤ t) (h2 : t < tot (l.take i) + mt l[i]) :
    Ev (fun k => dancestudiolaw13_MeterTiles.j1 k l t 0 (i : Int) ((t - tot (l.take i)) / l[i].f1) ((t - tot (l.take i)) % l[i].f1) false) true := by
  obtain ⟨o1, o2, o3, o4⟩ := g.ok l[i] (List.getElem_mem hi)
  obtain ⟨q0, q1, r0, r1, e⟩ := qr (a := t - tot (l.take i)) (u := l[i].f1) (b := l[i].f0) (by omega) o3 (by unfold mt at h2; omega)
  have hb := tot_take_bd g.ok g.len i
  have hmt := mt_bd (g.ok l[i] (List.getElem_mem hi))
  have hj2 : Ev (fun k => dancestudiolaw13_MeterTiles.j2 k l t (i : Int) ((t - tot (l.take i)) / l[i].f1) ((t - tot (l.take i)) % l[i].f1) false) true := by
    have : Ev (fun k => (meter_Measure.f k l (i : Int)).bind fun bt => if bt.2.2 = 0 then (if t = wrap64 (wrap64 (bt.1 + wrap64 ((t - tot (l.take i)) / l[i].f1 * l[i].f1)) + (t - tot (l.take i)) % l[i].f1) then (dancestudiolaw13_awake.f k).bind fun b => some b else some false) else some false) true := by
      refine Ev.bind (measure_in g hi) ?_
      simp only [if_true]
      generalize (t - tot (l.take i)) / l[i].f1 * l[i].f1 = x at *
      generalize (t - tot (l.take i)) % l[i].f1 = y at *
      rw [w64 (n := x) (by omega) (by omega), w64 (n := tot (l.take i) + x) (by omega) (by omega), w64 (by omega) (by omega)]
      simp only [if_pos (show t = tot (l.take i) + x + y by omega)]
      exact Ev.bind awake_ev (Ev.now _)
    refine Ev.step (fun k => ?_) this
    simp only [dancestudiolaw13_MeterTiles.j2]
    rw [if_neg (by decide), rd_at hi]
    simp only [if_pos (show (0 : Int) ≤ (i : Int) by omega), if_pos (show (i : Int) < (l.length : Int) by omega)]
  refine Ev.step (fun k => ?_) hj2
  simp only [dancestudiolaw13_MeterTiles.j1]
  rw [if_neg (by decide), if_pos trivial, if_neg (by omega), if_neg (by omega), if_neg (by omega), if_pos (by omega), if_pos (by omega), rd_at hi, if_neg (by omega), if_neg (by omega)]
  rw [show decide ((t - tot (l.take i)) % l[i].f1 ≥ l[i].f1) = false from decide_eq_false (by omega)]
theorem tiles_loop {l : List S45} (g : Good l) (t : Int) (d : Nat) : ∀ i : Nat, i + d = l.length → Ev (fun k => dancestudiolaw13_MeterTiles.l0 k l t (tot l) (tot (l.take i)) (i : Int)) true := by
  have hl := g.len
  induction d with
  | zero =>
    intro i hi
    obtain rfl : i = l.length := by omega
    rw [List.take_length]
    have : Ev (fun k => (meter_Where.f k l t).bind fun bt => if t < 0 then (dancestudiolaw13_MeterTiles.j1 k l t bt.2.2.2 bt.1 bt.2.1 bt.2.2.1 true) else (dancestudiolaw13_MeterTiles.j1 k l t bt.2.2.2 bt.1 bt.2.1 bt.2.2.1 (decide (t ≥ tot l)))) true := by
      by_cases ht : 0 ≤ t ∧ t < tot l
      · obtain ⟨j, hj, a, b⟩ := find_measure l g.ok ht.1 ht.2
        refine Ev.bind (where_in g hj a b) ?_
        simp only [if_neg (show ¬ t < 0 by omega)]
        rw [show decide (t ≥ tot l) = false from decide_eq_false (by omega)]
        exact tiles_in g hj a b
      · refine Ev.bind (where_out g (by omega)) ?_
        by_cases hn : t < 0
        · simp only [if_pos hn]
          exact tiles_out t
        · simp only [if_neg hn]
          rw [show decide (t ≥ tot l) = true from decide_eq_true (by omega)]
          exact tiles_out t
    refine Ev.step (fun k => ?_) this
    simp only [dancestudiolaw13_MeterTiles.l0]
    rw [if_neg (by omega), if_pos trivial]
  | succ d ih =>
    intro i hi
    have hlt : i < l.length := by omega
    have hs := tot_take_succ hlt
    have hb := tot_take_bd g.ok g.len i
    have hmt := mt_bd (g.ok l[i] (List.getElem_mem hlt))
    have e3 : wrap64 (l[i].f0 * l[i].f1) = mt l[i] := by unfold mt at hmt ⊢; exact w64 (by omega) (by omega)
    have : Ev (fun k => (meter_Measure.f k l (i : Int)).bind fun bt => (if bt.2.2 = 0 then (if bt.1 = tot (l.take i) then (if bt.2.1 ≤ bt.1 then (some false) else (if wrap64 (bt.2.1 - bt.1) = mt l[i] then (dancestudiolaw13_MeterTiles.l0 k l t (tot l) bt.2.1 (wrap64 ((i : Int) + 1))) else (some false))) else (some false)) else (some false))) true := by
      refine Ev.bind (measure_in g hlt) ?_
      simp only [if_true, if_neg (show ¬ tot (l.take (i + 1)) ≤ tot (l.take i) by omega)]
      rw [w64 (n := tot (l.take (i + 1)) - tot (l.take i)) (by omega) (by omega)]
      simp only [if_pos (show tot (l.take (i + 1)) - tot (l.take i) = mt l[i] by omega)]
      rw [wnat (n := 128) (i := i) (by omega) (by omega)]
      exact ih (i + 1) (by omega)
    refine Ev.step (fun k => ?_) this
    simp only [dancestudiolaw13_MeterTiles.l0]
    rw [if_pos (by omega), rd_at hlt, e3]
    simp only [if_pos (show (0 : Int) ≤ (i : Int) by omega)]
/-- MeterTiles returns true, for every list and tick. -/
theorem pure_MeterTiles (l : List S45) (_ : l.length * 16 ≤ 140737488351232) (t : Int) (_ : (Lit.int .i64 t).wf = true) : ∃ k, dancestudiolaw13_MeterTiles.f k l t = some true := by
  refine Ev.rounds (g := fun k => dancestudiolaw13_MeterTiles.f k l t) ?_
  unfold dancestudiolaw13_MeterTiles.f
  by_cases h : chk l = 0
  · have g := chk_good h
    refine Ev.bind (length_good g) ?_
    simp only [if_true]
    have := tiles_loop g t l.length 0 (by omega)
    simpa only [List.take_zero, tot, Int.natCast_zero] using this
  · refine Ev.bind (length_bad h) ?_
    simp only [if_neg h, if_true]
    refine Ev.bind (check_ev l) ?_
    simp only [if_true]
    exact Ev.bind awake_ev (Ev.now _)
end Go.Proofs.Ytepocdjaedddcaa.PMeterTiles
