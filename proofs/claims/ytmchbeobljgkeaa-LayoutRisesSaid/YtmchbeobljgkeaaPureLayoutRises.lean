/- Plain lemmas on the functions that the law LayoutRises reaches: no memory and no Go in them. -/
import Derived.Test.YtmchbeobljgkeaaPLayoutRisesx
set_option linter.unusedVariables false
namespace Go.Proofs.Ytmchbeobljgkeaa.PLayoutRises
open Go.RowKit Go.Proofs.YtmchbeobljgkeaaW.PrintWords Go.Proofs.YtmchbeobljgkeaaW.PrintLast Go.Proofs.YtmchbeobljgkeaaW.PrintMore
/-! ### numbers and lists -/
theorem w64 {n : Int} (h : -9223372036854775808 ≤ n) (h2 : n ≤ 9223372036854775807) : wrap64 n = n := by unfold wrap64; omega
theorem wnat {i n : Nat} (h : i < n) (hn : n ≤ 9223372036854775807) : wrap64 ((i : Int) + 1) = ((i + 1 : Nat) : Int) := by unfold wrap64; omega
def mt (m : S54) : Int := m.f0 * m.f1
def okm (m : S54) : Prop := 1 ≤ m.f0 ∧ m.f0 ≤ 16 ∧ 1 ≤ m.f1 ∧ m.f1 ≤ 96
instance (m : S54) : Decidable (okm m) := by unfold okm; infer_instance
theorem mt_bd {m : S54} (h : okm m) : 1 ≤ mt m ∧ mt m ≤ 1536 := by
  obtain ⟨h1, h2, h3, h4⟩ := h
  unfold mt
  obtain h | h | h | h | h | h | h | h | h | h | h | h | h | h | h | h : m.f0 = 1 ∨ m.f0 = 2 ∨ m.f0 = 3 ∨ m.f0 = 4 ∨ m.f0 = 5 ∨ m.f0 = 6 ∨ m.f0 = 7 ∨ m.f0 = 8 ∨ m.f0 = 9 ∨ m.f0 = 10 ∨ m.f0 = 11 ∨ m.f0 = 12 ∨ m.f0 = 13 ∨ m.f0 = 14 ∨ m.f0 = 15 ∨ m.f0 = 16 := by omega
  all_goals rw [h]; omega
def tot : List S54 → Int
  | [] => 0
  | m :: l => mt m + tot l
theorem tot_append (a b : List S54) : tot (a ++ b) = tot a + tot b := by
  induction a with
  | nil => simp [tot]
  | cons m a ih => simp [tot, ih]; omega
theorem tot_bd {l : List S54} (h : ∀ m ∈ l, okm m) : (l.length : Int) ≤ tot l ∧ tot l ≤ 1536 * l.length := by
  induction l with
  | nil => simp [tot]
  | cons m l ih =>
    have h1 := mt_bd (h m (by simp))
    have h2 := ih (fun x hx => h x (by simp [hx]))
    simp only [tot, List.length_cons]
    omega
theorem rd_at {l : List S54} {i : Nat} (h : i < l.length) : rd_T54 l (i : Int) = l[i] := by
  unfold rd_T54
  simp [List.getD_eq_getElem?_getD, h]
theorem drop_at {l : List S54} {i : Nat} (h : i < l.length) : l.drop i = l[i] :: l.drop (i + 1) := List.drop_eq_getElem_cons h
theorem take_at {l : List S54} {i : Nat} (h : i < l.length) : l.take (i + 1) = l.take i ++ [l[i]] := by
  rw [List.take_succ_eq_append_getElem h]
theorem tot_take_succ {l : List S54} {i : Nat} (h : i < l.length) : tot (l.take (i + 1)) = tot (l.take i) + mt l[i] := by
  rw [take_at h, tot_append]; simp [tot]
theorem ok_take {l : List S54} (h : ∀ m ∈ l, okm m) (i : Nat) : ∀ m ∈ l.take i, okm m := fun m hm => h m (List.mem_of_mem_take hm)
theorem tot_take_bd {l : List S54} (h : ∀ m ∈ l, okm m) (hl : l.length ≤ 128) (i : Nat) : 0 ≤ tot (l.take i) ∧ tot (l.take i) ≤ 196608 := by
  have h1 := tot_bd (ok_take h i)
  have h2 := List.length_take_le i l
  have h3 : (l.take i).length ≤ l.length := List.length_take_le' i l
  omega
theorem tot_take_le {l : List S54} (h : ∀ m ∈ l, okm m) (i : Nat) : tot (l.take i) ≤ tot l := by
  have h1 := tot_append (l.take i) (l.drop i)
  rw [List.take_append_drop] at h1
  have h2 := tot_bd (l := l.drop i) (fun m hm => h m (List.mem_of_mem_drop hm))
  omega
theorem tot_take_mono {l : List S54} (h : ∀ m ∈ l, okm m) {i j : Nat} (hij : i ≤ j) : tot (l.take i) ≤ tot (l.take j) := by
  have := tot_take_le (ok_take h j) i
  rwa [List.take_take, Nat.min_eq_left hij] at this

/-! ### Check -/
/-- what Check says of a list -/
def chk (l : List S54) : Int :=
  if l.length = 0 then 4 else if 128 < l.length then 3 else if ∀ m ∈ l, okm m then (if 8192 < tot l then 3 else 0) else 1
/-- a list that Check lets by -/
structure Good (l : List S54) : Prop where
  pos : 0 < l.length
  len : l.length ≤ 128
  ok : ∀ m ∈ l, okm m
  tot : tot l ≤ 8192
theorem chk_good {l : List S54} (h : chk l = 0) : Good l := by
  unfold chk at h
  by_cases h1 : l.length = 0
  · rw [if_pos h1] at h; omega
  · rw [if_neg h1] at h
    by_cases h2 : 128 < l.length
    · rw [if_pos h2] at h; omega
    · rw [if_neg h2] at h
      by_cases h3 : ∀ m ∈ l, okm m
      · rw [if_pos h3] at h
        by_cases h4 : 8192 < tot l
        · rw [if_pos h4] at h; omega
        · exact ⟨by omega, by omega, h3, by omega⟩
      · rw [if_neg h3] at h; omega
theorem good_chk {l : List S54} (g : Good l) : chk l = 0 := by
  have := g.pos; have := g.len; have := g.tot
  unfold chk
  rw [if_neg (by omega), if_neg (by omega), if_pos g.ok, if_neg (by omega)]
theorem not_good {l : List S54} (h : chk l ≠ 0) : ¬ Good l := fun g => h (good_chk g)
theorem ok_all_drop {l : List S54} {i : Nat} (h : i < l.length) : (∀ m ∈ l.drop i, okm m) ↔ okm l[i] ∧ ∀ m ∈ l.drop (i + 1), okm m := by
  rw [drop_at h, List.forall_mem_cons]
/-- a bad element decides -/
theorem bad_split {m : S54} (h : ¬ okm m) : m.f0 < 1 ∨ (¬ m.f0 < 1 ∧ m.f0 > 16) ∨ (¬ m.f0 < 1 ∧ ¬ m.f0 > 16 ∧ m.f1 < 1) ∨ (¬ m.f0 < 1 ∧ ¬ m.f0 > 16 ∧ ¬ m.f1 < 1 ∧ m.f1 > 96) := by
  unfold okm at h; omega

theorem check_loop (l : List S54) (hl : l.length ≤ 128) (d : Nat) : ∀ (i : Nat) (acc : Int), i + d = l.length → 0 ≤ acc → acc ≤ 1536 * i →
    Ev (fun k => meter_Check.l0 k acc l (l.length : Int) (i : Int)) (if ∀ m ∈ l.drop i, okm m then (if 8192 < acc + tot (l.drop i) then 3 else 0) else 1) := by
  induction d with
  | zero =>
    intro i acc hi h0 h1
    rw [show l.drop i = [] from by rw [List.drop_eq_nil_iff]; omega]
    refine Ev.step (f := fun _ => some (if 8192 < acc then 3 else 0)) (fun k => ?_) ?_
    · simp only [meter_Check.l0]
      rw [if_neg (by omega)]
      by_cases h : 8192 < acc
      · rw [if_pos h, if_pos h]
      · rw [if_neg h, if_neg h]
    · simp only [tot]
      exact Ev.now _ |> fun h => by simpa using h
  | succ d ih =>
    intro i acc hi h0 h1
    have hlt : i < l.length := by omega
    by_cases hok : okm l[i]
    · have hb := mt_bd hok
      have := ih (i + 1) (acc + mt l[i]) (by omega) (by omega) (by push_cast; omega)
      have e1 : (∀ m ∈ l.drop i, okm m) ↔ ∀ m ∈ l.drop (i + 1), okm m := by rw [ok_all_drop hlt]; exact ⟨fun h => h.2, fun h => ⟨hok, h⟩⟩
      have e2 : acc + tot (l.drop i) = acc + mt l[i] + tot (l.drop (i + 1)) := by rw [drop_at hlt]; simp only [tot]; omega
      rw [e2]
      simp only [e1]
      refine Ev.step (fun k => ?_) this
      simp only [meter_Check.l0]
      obtain ⟨o1, o2, o3, o4⟩ := hok
      rw [rd_at hlt, if_pos (by omega), if_pos (by omega), if_pos (by omega), if_neg (by omega), if_neg (by omega), if_neg (by omega), if_neg (by omega)]
      have e3 : wrap64 (l[i].f0 * l[i].f1) = mt l[i] := by unfold mt at hb ⊢; exact w64 (by omega) (by omega)
      rw [e3, w64 (by omega) (by omega), wnat (n := 128) (by omega) (by omega)]
    · have e1 : ¬ ∀ m ∈ l.drop i, okm m := by rw [ok_all_drop hlt]; exact fun h => hok h.1
      rw [if_neg e1]
      refine Ev.step (f := fun _ => some 1) (fun k => ?_) (Ev.now 1)
      simp only [meter_Check.l0]
      rw [rd_at hlt, if_pos (by omega), if_pos (by omega), if_pos (by omega)]
      rcases bad_split hok with h | ⟨h, g⟩ | ⟨h, g, e⟩ | ⟨h, g, e, f⟩
      · rw [if_pos h]
      · rw [if_neg h, if_pos g]
      · rw [if_neg h, if_neg g, if_pos e]
      · rw [if_neg h, if_neg g, if_neg e, if_pos f]
theorem check_ev (l : List S54) : Ev (fun k => meter_Check.f k l) (chk l) := by
  unfold chk
  by_cases h1 : l.length = 0
  · rw [if_pos h1]
    refine Ev.congr (f := fun _ => some 4) (fun k => ?_) (Ev.now 4)
    unfold meter_Check.f
    rw [if_pos (by omega)]
  · rw [if_neg h1]
    by_cases h2 : 128 < l.length
    · rw [if_pos h2]
      refine Ev.congr (f := fun _ => some 3) (fun k => ?_) (Ev.now 3)
      unfold meter_Check.f
      rw [if_neg (by omega), if_pos (by omega)]
    · rw [if_neg h2]
      have := check_loop l (by omega) l.length 0 0 (by omega) (by omega) (by omega)
      simp only [List.drop_zero, Int.zero_add] at this
      refine Ev.congr (fun k => ?_) this
      unfold meter_Check.f
      rw [if_neg (by omega), if_neg (by omega)]
      rfl
/-! ### begin -/
theorem begin_loop (l : List S54) (ho : ∀ m ∈ l, okm m) (hl : l.length ≤ 128) (d : Nat) : ∀ (i : Nat) (acc : Int), i + d = l.length → 0 ≤ acc → acc ≤ 1536 * i →
    Ev (fun k => meter_begin.l0 k acc l (l.length : Int) (i : Int)) (acc + tot (l.drop i)) := by
  induction d with
  | zero =>
    intro i acc hi h0 h1
    rw [show l.drop i = [] from by rw [List.drop_eq_nil_iff]; omega]
    refine Ev.step (f := fun _ => some acc) (fun k => ?_) ?_
    · simp only [meter_begin.l0]
      rw [if_neg (by omega)]
    · simp only [tot, Int.add_zero]; exact Ev.now _
  | succ d ih =>
    intro i acc hi h0 h1
    have hlt : i < l.length := by omega
    have hb := mt_bd (ho l[i] (List.getElem_mem hlt))
    have := ih (i + 1) (acc + mt l[i]) (by omega) (by omega) (by push_cast; omega)
    have e2 : acc + tot (l.drop i) = acc + mt l[i] + tot (l.drop (i + 1)) := by rw [drop_at hlt]; simp only [tot]; omega
    rw [e2]
    refine Ev.step (fun k => ?_) this
    simp only [meter_begin.l0]
    rw [rd_at hlt, if_pos (by omega), if_pos (by omega), if_pos (by omega)]
    have e3 : wrap64 (l[i].f0 * l[i].f1) = mt l[i] := by unfold mt at hb ⊢; exact w64 (by omega) (by omega)
    rw [e3, w64 (by omega) (by omega), wnat (n := 128) (by omega) (by omega)]
theorem begin_ev (l : List S54) (ho : ∀ m ∈ l, okm m) (hl : l.length ≤ 128) (i : Nat) (hi : i ≤ l.length) : Ev (fun k => meter_begin.f k l (i : Int)) (tot (l.take i)) := by
  have h3 : (l.take i).length ≤ l.length := List.length_take_le' i l
  have := begin_loop (l.take i) (ok_take ho i) (by omega) (l.take i).length 0 0 (by omega) (by omega) (by omega)
  simp only [List.drop_zero, Int.zero_add] at this
  refine Ev.congr (fun k => ?_) this
  unfold meter_begin.f
  rw [if_pos (by omega), if_pos (by omega)]
  simp only [Option.bind_some, Int.toNat_natCast]
  rfl
theorem length_good {l : List S54} (g : Good l) : Ev (fun k => meter_Length.f k l) (tot l, 0) := by
  have h1 := check_ev l
  rw [good_chk g] at h1
  have h2 := begin_ev l g.ok g.len l.length (Nat.le_refl _)
  rw [List.take_length] at h2
  unfold meter_Length.f
  refine Ev.bind h1 ?_
  simp only [if_true]
  exact Ev.bind h2 (Ev.now _)
theorem length_bad {l : List S54} (h : chk l ≠ 0) : Ev (fun k => meter_Length.f k l) (0, chk l) := by
  unfold meter_Length.f
  refine Ev.bind (check_ev l) ?_
  simp only [if_neg h]
  exact Ev.now _
/-! ### Measure -/
theorem measure_bad {l : List S54} (h : chk l ≠ 0) (i : Int) : Ev (fun k => meter_Measure.f k l i) (0, 0, chk l) := by
  unfold meter_Measure.f
  refine Ev.bind (check_ev l) ?_
  simp only [if_neg h]
  exact Ev.now _
theorem measure_out {l : List S54} (g : Good l) {i : Int} (h : i < 0 ∨ (l.length : Int) ≤ i) : Ev (fun k => meter_Measure.f k l i) (0, 0, 32) := by
  have h1 := check_ev l
  rw [good_chk g] at h1
  unfold meter_Measure.f
  refine Ev.bind h1 ?_
  simp only [if_true]
  have hj : Ev (fun k => meter_Measure.j0 k l i true) (0, 0, 32) := Ev.step (f := fun _ => some (0, 0, 32)) (fun k => by simp only [meter_Measure.j0]; rw [if_pos trivial]) (Ev.now _)
  by_cases hn : i < 0
  · simp only [if_pos hn]
    exact hj
  · simp only [if_neg hn]
    rw [show decide (i ≥ (l.length : Int)) = true from decide_eq_true (by omega)]
    exact hj
theorem measure_in {l : List S54} (g : Good l) {i : Nat} (h : i < l.length) : Ev (fun k => meter_Measure.f k l (i : Int)) (tot (l.take i), tot (l.take (i + 1)), 0) := by
  have h1 := check_ev l
  rw [good_chk g] at h1
  have hl := g.len
  unfold meter_Measure.f
  refine Ev.bind h1 ?_
  simp only [if_true]
  simp only [if_neg (show ¬ ((i : Int) < 0) by omega)]
  rw [show decide ((i : Int) ≥ (l.length : Int)) = false from decide_eq_false (by omega)]
  have h2 := Ev.bind (f := fun k t => (meter_begin.f k l (wrap64 ((i : Int) + 1))).bind fun u => some (t, u, (0 : Int))) (begin_ev l g.ok g.len i (by omega)) (by
    rw [wnat (n := 128) (i := i) (by omega) (by omega)]
    exact Ev.bind (begin_ev l g.ok g.len (i + 1) (by omega)) (Ev.now _))
  exact Ev.step (fun k => by simp only [meter_Measure.j0]; rw [if_neg (by decide)]) h2
/-! ### the measure of a tick -/
theorem find_measure (l : List S54) (ho : ∀ m ∈ l, okm m) {t : Int} (h0 : 0 ≤ t) (h1 : t < tot l) : ∃ i, ∃ h : i < l.length, tot (l.take i) ≤ t ∧ t < tot (l.take i) + mt l[i] := by
  induction l generalizing t with
  | nil => simp [tot] at h1; omega
  | cons m l ih =>
    simp only [tot] at h1
    by_cases hm : t < mt m
    · exact ⟨0, by simp, by simpa [tot] using h0, by simpa [tot] using hm⟩
    · obtain ⟨i, h, a, b⟩ := ih (fun x hx => ho x (by simp [hx])) (t := t - mt m) (by omega) (by omega)
      exact ⟨i + 1, by simpa using h, by simp only [List.take_succ_cons, tot]; omega, by simp only [List.take_succ_cons, tot, List.getElem_cons_succ]; omega⟩
/-- quotient and remainder of a tick in its measure -/
theorem qr {a u b : Int} (h0 : 0 ≤ a) (hu : 1 ≤ u) (h : a < b * u) : 0 ≤ a / u ∧ a / u < b ∧ 0 ≤ a % u ∧ a % u < u ∧ a / u * u + a % u = a := by
  refine ⟨Int.ediv_nonneg h0 (by omega), Int.ediv_lt_of_lt_mul (by omega) h, Int.emod_nonneg _ (by omega), Int.emod_lt_of_pos _ (by omega), ?_⟩
  have := Int.mul_ediv_add_emod a u
  rw [Int.mul_comm] at this
  omega
/-! ### Where -/
/-- the beats of a measure that end before the tick are passed -/
theorem where_pass (l : List S54) (x10 x11 j len u f L : Int) (hu : 1 ≤ u) (hu2 : u ≤ 96) (hf : f ≤ 16) (hL : f * u ≤ L) (hL2 : L ≤ 8192) (r : Int × Int × Int × Int)
    (hn : Ev (fun k => meter_Where.l0 k x10 x11 (L - f * u) l len (wrap64 (j + 1))) r) (d : Nat) : ∀ b : Int, 0 ≤ b → b + d = f → Ev (fun k => meter_Where.l1 k x10 x11 (L - b * u) j l len j f b f u) r := by
  induction d with
  | zero =>
    intro b h0 hb
    obtain rfl : b = f := by omega
    exact Ev.step (fun k => by simp only [meter_Where.l1]; rw [if_neg (by omega)]) hn
  | succ d ih =>
    intro b h0 hb
    have h1 : (b + 1) * u ≤ f * u := Int.mul_le_mul_of_nonneg_right (by omega) (by omega)
    have h2 : (b + 1) * u = b * u + u := by rw [Int.add_mul]; omega
    have h3 : 0 ≤ b * u := Int.mul_nonneg h0 (by omega)
    have := ih (b + 1) (by omega) (by omega)
    refine Ev.step (fun k => ?_) this
    simp only [meter_Where.l1]
    rw [if_pos (by omega), if_neg (by omega), w64 (by omega) (by omega), w64 (n := b + 1) (by omega) (by omega), h2]
    rw [show L - b * u - u = L - (b * u + u) by omega]
/-- the beat that has the tick is found -/
theorem where_stop (l : List S54) (x10 x11 j len u f L : Int) (hu : 1 ≤ u) (hu2 : u ≤ 96) (hf : f ≤ 16) (h0 : 0 ≤ L) (hL : L < f * u) (hL2 : L ≤ 8192) (d : Nat) :
    ∀ b : Int, 0 ≤ b → b + d = L / u → Ev (fun k => meter_Where.l1 k x10 x11 (L - b * u) j l len j f b f u) (j, L / u, L % u, 0) := by
  obtain ⟨q0, q1, r0, r1, e⟩ := qr h0 hu hL
  induction d with
  | zero =>
    intro b hb0 hb
    obtain rfl : b = L / u := by omega
    refine Ev.step (f := fun _ => some (j, L / u, L % u, 0)) (fun k => ?_) (Ev.now _)
    simp only [meter_Where.l1]
    rw [if_pos (by omega), if_pos (by omega), show L - L / u * u = L % u by omega]
  | succ d ih =>
    intro b hb0 hb
    have h1 : (b + 1) * u ≤ L / u * u := Int.mul_le_mul_of_nonneg_right (by omega) (by omega)
    have h2 : (b + 1) * u = b * u + u := by rw [Int.add_mul]; omega
    have h3 : 0 ≤ b * u := Int.mul_nonneg hb0 (by omega)
    have := ih (b + 1) (by omega) (by omega)
    refine Ev.step (fun k => ?_) this
    simp only [meter_Where.l1]
    rw [if_pos (by omega), if_neg (by omega), w64 (by omega) (by omega), w64 (n := b + 1) (by omega) (by omega), h2]
    rw [show L - b * u - u = L - (b * u + u) by omega]
theorem where_loop {l : List S54} (g : Good l) {t : Int} {i : Nat} (hi : i < l.length) (h1 : tot (l.take i) ≤ t) (h2 : t < tot (l.take i) + mt l[i]) (ht : t ≤ 8192) (d : Nat) :
    ∀ j : Nat, j + d = i → Ev (fun k => meter_Where.l0 k 0 0 (t - tot (l.take j)) l (l.length : Int) (j : Int)) ((i : Int), (t - tot (l.take i)) / l[i].f1, (t - tot (l.take i)) % l[i].f1, 0) := by
  have hl := g.len
  induction d with
  | zero =>
    intro j hj
    obtain rfl : j = i := by omega
    obtain ⟨o1, o2, o3, o4⟩ := g.ok l[j] (List.getElem_mem hi)
    have hb := (tot_take_bd g.ok g.len j).1
    have := where_stop l 0 0 (j : Int) (l.length : Int) l[j].f1 l[j].f0 (t - tot (l.take j)) o3 o4 o2 (by omega) (by unfold mt at h2; omega) (by omega) ((t - tot (l.take j)) / l[j].f1).toNat 0 (by omega)
      (by have := (qr (a := t - tot (l.take j)) (u := l[j].f1) (b := l[j].f0) (by omega) o3 (by unfold mt at h2; omega)).1; omega)
    simp only [Int.zero_mul, Int.sub_zero] at this
    refine Ev.step (fun k => ?_) this
    simp only [meter_Where.l0]
    rw [if_pos (by omega), if_pos (by omega), if_pos (by omega), rd_at hi]
  | succ d ih =>
    intro j hj
    have hlt : j < l.length := by omega
    obtain ⟨o1, o2, o3, o4⟩ := g.ok l[j] (List.getElem_mem hlt)
    have hb := (tot_take_bd g.ok g.len j).1
    have hs := tot_take_succ hlt
    have hm := tot_take_mono g.ok (i := j + 1) (j := i) (by omega)
    have hn := ih (j + 1) (by omega)
    have := where_pass l 0 0 (j : Int) (l.length : Int) l[j].f1 l[j].f0 (t - tot (l.take j)) o3 o4 o2 (by unfold mt at hs; omega) (by omega) _ (by
      rw [wnat (n := 128) (i := j) (by omega) (by omega), show t - tot (l.take j) - l[j].f0 * l[j].f1 = t - tot (l.take (j + 1)) by unfold mt at hs; omega]
      exact hn) l[j].f0.toNat 0 (by omega) (by omega)
    simp only [Int.zero_mul, Int.sub_zero] at this
    refine Ev.step (fun k => ?_) this
    simp only [meter_Where.l0]
    rw [if_pos (by omega), if_pos (by omega), if_pos (by omega), rd_at hlt]
theorem where_bad {l : List S54} (h : chk l ≠ 0) (t : Int) : Ev (fun k => meter_Where.f k l t) (0, 0, 0, chk l) := by
  unfold meter_Where.f
  refine Ev.bind (length_bad h) ?_
  simp only [if_neg h]
  exact Ev.now _
theorem where_out {l : List S54} (g : Good l) {t : Int} (h : t < 0 ∨ tot l ≤ t) : Ev (fun k => meter_Where.f k l t) (0, 0, 0, 1) := by
  unfold meter_Where.f
  refine Ev.bind (length_good g) ?_
  simp only [if_true]
  have hj : Ev (fun k => meter_Where.j0 k l t true) (0, 0, 0, 1) := Ev.step (f := fun _ => some (0, 0, 0, 1)) (fun k => by simp only [meter_Where.j0]; rw [if_pos trivial]) (Ev.now _)
  by_cases hn : t < 0
  · simp only [if_pos hn]
    exact hj
  · simp only [if_neg hn]
    rw [show decide (t ≥ tot l) = true from decide_eq_true (by omega)]
    exact hj
theorem where_in {l : List S54} (g : Good l) {t : Int} {i : Nat} (hi : i < l.length) (h1 : tot (l.take i) ≤ t) (h2 : t < tot (l.take i) + mt l[i]) :
    Ev (fun k => meter_Where.f k l t) ((i : Int), (t - tot (l.take i)) / l[i].f1, (t - tot (l.take i)) % l[i].f1, 0) := by
  have hs := tot_take_succ hi
  have hm := tot_take_le g.ok (i + 1)
  have hb := (tot_take_bd g.ok g.len i).1
  have ht := g.tot
  have := where_loop g hi h1 h2 (by omega) i 0 (by omega)
  simp only [List.take_zero, tot, Int.sub_zero, Int.natCast_zero] at this
  unfold meter_Where.f
  refine Ev.bind (length_good g) ?_
  simp only [if_true]
  simp only [if_neg (show ¬ (t < 0) by omega)]
  rw [show decide (t ≥ tot l) = false from decide_eq_false (by omega)]
  exact Ev.step (fun k => by simp only [meter_Where.j0]; rw [if_neg (by decide)]) this
/-! ### sheets and pages -/
/-- what Check says of a sheet -/
def shc (t c h : Int) : Int := if 1 ≤ t ∧ t ≤ 64 ∧ 4 ≤ c ∧ c ≤ 1000 ∧ 1 ≤ h ∧ h ≤ 100000 then 0 else 35
theorem shc_zero {t c h : Int} (e : shc t c h = 0) : 1 ≤ t ∧ t ≤ 64 ∧ 4 ≤ c ∧ c ≤ 1000 ∧ 1 ≤ h ∧ h ≤ 100000 := by
  unfold shc at e
  by_cases g : 1 ≤ t ∧ t ≤ 64 ∧ 4 ≤ c ∧ c ≤ 1000 ∧ 1 ≤ h ∧ h ≤ 100000
  · exact g
  · rw [if_neg g] at e; omega
theorem lcheck_eq (t c h : Int) : layout_Check.f t c h = some (shc t c h) := by
  unfold layout_Check.f shc
  by_cases h1 : t < 1
  · rw [if_pos h1, if_neg (by omega)]
  · by_cases h2 : t > 64
    · rw [if_neg h1, if_pos h2, if_neg (by omega)]
    · by_cases h3 : c < 4
      · rw [if_neg h1, if_neg h2, if_pos h3, if_neg (by omega)]
      · by_cases h4 : c > 1000
        · rw [if_neg h1, if_neg h2, if_neg h3, if_pos h4, if_neg (by omega)]
        · by_cases h5 : h < 1
          · rw [if_neg h1, if_neg h2, if_neg h3, if_neg h4, if_pos h5, if_neg (by omega)]
          · by_cases h6 : h > 100000
            · rw [if_neg h1, if_neg h2, if_neg h3, if_neg h4, if_neg h5, if_pos h6, if_neg (by omega)]
            · rw [if_neg h1, if_neg h2, if_neg h3, if_neg h4, if_neg h5, if_neg h6, if_pos (by omega)]
/-- the height of the measures from a to b - 1 -/
def Ht (l : List S54) (t : Int) (a b : Nat) : Int := (tot (l.take b) - tot (l.take a)) * t
theorem Ht_mono {l : List S54} (ho : ∀ m ∈ l, okm m) {t : Int} (ht : 0 ≤ t) {a b a' b' : Nat} (h1 : a' ≤ a) (h2 : b ≤ b') : Ht l t a b ≤ Ht l t a' b' := by
  have e1 := tot_take_mono ho h1
  have e2 := tot_take_mono ho h2
  exact Int.mul_le_mul_of_nonneg_right (by omega) ht
theorem Ht_self (l : List S54) (t : Int) (a : Nat) : Ht l t a a = 0 := by unfold Ht; rw [Int.sub_self, Int.zero_mul]
theorem Ht_succ {l : List S54} {t : Int} {a b : Nat} (h : b < l.length) : Ht l t a (b + 1) = Ht l t a b + mt l[b] * t := by
  unfold Ht
  rw [tot_take_succ h, ← Int.add_mul]
  congr 1
  omega
theorem Ht_one {l : List S54} {t : Int} {b : Nat} (h : b < l.length) : Ht l t b (b + 1) = mt l[b] * t := by rw [Ht_succ h, Ht_self]; omega
theorem mul_bd {x t : Int} (h0 : 0 ≤ x) (h1 : x ≤ 200000) (t0 : 1 ≤ t) (t1 : t ≤ 64) : 0 ≤ x * t ∧ x * t ≤ 12800000 :=
  ⟨Int.mul_nonneg h0 (by omega), Int.le_trans (Int.mul_le_mul h1 t1 (by omega) (by omega)) (by omega)⟩
theorem Ht_bd {l : List S54} (ho : ∀ m ∈ l, okm m) (hl : l.length ≤ 128) {t : Int} (t0 : 1 ≤ t) (t1 : t ≤ 64) {a b : Nat} (h : a ≤ b) : 0 ≤ Ht l t a b ∧ Ht l t a b ≤ 12800000 := by
  have e1 := tot_take_mono ho h
  have e2 := tot_take_bd ho hl a
  have e3 := tot_take_bd ho hl b
  exact mul_bd (by omega) (by omega) t0 t1
/-- a page from a to b - 1: as many measures as fit -/
structure Gr (l : List S54) (t h : Int) (a b : Nat) : Prop where
  lt : a < b
  le : b ≤ l.length
  fit : Ht l t a b ≤ h
  full : b < l.length → h < Ht l t a (b + 1)
/-- the pages from the measure a on -/
inductive Pg (l : List S54) (t h : Int) : Nat → List S46 → Prop
  | nil : Pg l t h l.length []
  | cons {a b : Nat} {ps : List S46} : Gr l t h a b → Pg l t h b ps → Pg l t h a (⟨(a : Int), (b : Int)⟩ :: ps)
theorem Gr.uniq {l : List S54} (ho : ∀ m ∈ l, okm m) {t h : Int} (ht : 0 ≤ t) {a b c : Nat} (h1 : Gr l t h a b) (h2 : Gr l t h a c) : b = c := by
  rcases Nat.lt_trichotomy b c with e | e | e
  · have g1 := h1.full (by have := h2.le; omega)
    have g2 := Ht_mono ho ht (Nat.le_refl a) (show b + 1 ≤ c by omega)
    have g3 := h2.fit
    omega
  · exact e
  · have g1 := h2.full (by have := h1.le; omega)
    have g2 := Ht_mono ho ht (Nat.le_refl a) (show c + 1 ≤ b by omega)
    have g3 := h1.fit
    omega
theorem Pg.uniq {l : List S54} (ho : ∀ m ∈ l, okm m) {t h : Int} (ht : 0 ≤ t) {a : Nat} {ps qs : List S46} (h1 : Pg l t h a ps) (h2 : Pg l t h a qs) : ps = qs := by
  induction h1 generalizing qs with
  | nil =>
    cases h2 with
    | nil => rfl
    | cons g _ => have := g.lt; have := g.le; omega
  | cons g _ ih =>
    cases h2 with
    | nil => have := g.lt; have := g.le; omega
    | cons g' p' =>
      obtain rfl := g.uniq ho ht g'
      rw [ih p']
/-- no measure is higher than a page -/
def Fits (l : List S54) (t h : Int) : Prop := ∀ m ∈ l, mt m * t ≤ h
instance (l : List S54) (t h : Int) : Decidable (Fits l t h) := by unfold Fits; infer_instance
theorem Gr.exists {l : List S54} {t h : Int} (hf : Fits l t h) {a : Nat} (ha : a < l.length) : ∃ b, Gr l t h a b := by
  have key : ∀ d b, a < b → b ≤ l.length → l.length - b = d → Ht l t a b ≤ h → ∃ b, Gr l t h a b := by
    intro d
    induction d with
    | zero => intro b h1 h2 h3 h4; exact ⟨b, h1, h2, h4, fun h => by omega⟩
    | succ d ih =>
      intro b h1 h2 h3 h4
      by_cases e : Ht l t a (b + 1) ≤ h
      · exact ih (b + 1) (by omega) (by omega) (by omega) e
      · exact ⟨b, h1, h2, h4, fun _ => by omega⟩
  exact key _ (a + 1) (by omega) (by omega) rfl (by rw [Ht_one ha]; exact hf _ (List.getElem_mem ha))
theorem Pg.exists {l : List S54} {t h : Int} (hf : Fits l t h) (d : Nat) : ∀ a, a ≤ l.length → l.length - a ≤ d → ∃ ps, Pg l t h a ps := by
  induction d with
  | zero =>
    intro a h1 h2
    obtain rfl : a = l.length := by omega
    exact ⟨[], .nil⟩
  | succ d ih =>
    intro a h1 h2
    by_cases e : a = l.length
    · subst e; exact ⟨[], .nil⟩
    · obtain ⟨b, g⟩ := Gr.exists hf (a := a) (by omega)
      have := g.lt
      obtain ⟨ps, p⟩ := ih b g.le (by omega)
      exact ⟨_, .cons g p⟩
theorem Pg.length {l : List S54} {t h : Int} {a : Nat} {ps : List S46} (p : Pg l t h a ps) : ps.length + a ≤ l.length := by
  induction p with
  | nil => simp
  | cons g _ ih => have := g.lt; simp only [List.length_cons]; omega
/-! ### Pages -/
theorem height_eq {m : S54} (hm : okm m) {t : Int} (t0 : 1 ≤ t) (t1 : t ≤ 64) (c h : Int) : layout_height.f t c h m.f0 m.f1 = some (mt m * t) := by
  have hb := mt_bd hm
  have := mul_bd (x := mt m) (by omega) (by omega) t0 t1
  unfold layout_height.f
  have e : wrap64 (m.f0 * m.f1) = mt m := by unfold mt at hb ⊢; exact w64 (by omega) (by omega)
  rw [e, w64 (by omega) (by omega)]
theorem pages_fill {l : List S54} (g : Good l) {t c h : Int} (t0 : 1 ≤ t) (t1 : t ≤ 64) (hh : h ≤ 100000) {a e : Nat} (hg : Gr l t h a e) (out : List S46) (ho : out.length ≤ 128) (r : List S46 × Int)
    (hn : Ev (fun k => layout_Pages.l1 k l (out ++ [⟨(a : Int), (e : Int)⟩]) (e : Int) t c h) r) (d : Nat) :
    ∀ b : Nat, a ≤ b → b + d = e → Ev (fun k => layout_Pages.l2 k l out (a : Int) (b : Int) (Ht l t a b) t c h) r := by
  have hl := g.len
  have hle := hg.le
  induction d with
  | zero =>
    intro b h1 h2
    obtain rfl : b = e := by omega
    refine Ev.step (fun k => ?_) hn
    simp only [layout_Pages.l2]
    by_cases hb : b = l.length
    · rw [if_pos (by omega), if_pos (by omega)]
    · have hlt : b < l.length := by omega
      have hf := hg.full hlt
      have hbd := Ht_bd g.ok g.len t0 t1 (a := a) (b := b + 1) (by omega)
      rw [Ht_succ hlt] at hf hbd
      rw [if_neg (by omega), if_pos (by omega), if_pos (by omega), rd_at hlt, height_eq (g.ok _ (List.getElem_mem hlt)) t0 t1]
      simp only [Option.bind_some]
      rw [w64 (by omega) (by omega), if_pos (by omega), if_pos (by omega)]
  | succ d ih =>
    intro b h1 h2
    have hlt : b < l.length := by omega
    have := ih (b + 1) (by omega) (by omega)
    have hm := Ht_mono g.ok (t := t) (by omega) (Nat.le_refl a) (show b + 1 ≤ e by omega)
    have hfit := hg.fit
    have hbd := Ht_bd g.ok g.len t0 t1 (a := a) (b := b + 1) (by omega)
    rw [Ht_succ hlt] at hm hbd this
    refine Ev.step (fun k => ?_) this
    simp only [layout_Pages.l2]
    rw [if_neg (by omega), if_pos (by omega), if_pos (by omega), rd_at hlt, height_eq (g.ok _ (List.getElem_mem hlt)) t0 t1]
    simp only [Option.bind_some]
    rw [w64 (by omega) (by omega), if_neg (by omega), wnat (n := 128) (i := b) (by omega) (by omega)]
theorem pages_walk {l : List S54} (g : Good l) {t c h : Int} (t0 : 1 ≤ t) (t1 : t ≤ 64) (hh : h ≤ 100000) {a : Nat} {ps : List S46} (p : Pg l t h a ps) :
    ∀ out : List S46, out.length ≤ a → Ev (fun k => layout_Pages.l1 k l out (a : Int) t c h) (out ++ ps, 0) := by
  have hl := g.len
  induction p with
  | nil =>
    intro out ho
    rw [List.append_nil]
    refine Ev.step (f := fun _ => some (out, 0)) (fun k => ?_) (Ev.now _)
    simp only [layout_Pages.l1]
    rw [if_neg (by omega)]
  | @cons a b ps hg p ih =>
    intro out ho
    have h1 := hg.lt
    have h2 := hg.le
    have := ih (out ++ [⟨(a : Int), (b : Int)⟩]) (by simp; omega)
    rw [List.append_assoc, List.singleton_append] at this
    have := pages_fill g t0 t1 hh hg out (by omega) _ this (b - a) a (Nat.le_refl a) (by omega)
    rw [Ht_self] at this
    refine Ev.step (fun k => ?_) this
    simp only [layout_Pages.l1]
    rw [if_pos (by omega)]
theorem pages_scan {l : List S54} (g : Good l) {t c h : Int} (t0 : 1 ≤ t) (t1 : t ≤ 64) (hf : Fits l t h) (r : List S46 × Int) (hn : Ev (fun k => layout_Pages.l1 k l [] 0 t c h) r) (d : Nat) :
    ∀ i : Nat, i + d = l.length → Ev (fun k => layout_Pages.l0 k l l (l.length : Int) (i : Int) t c h) r := by
  have hl := g.len
  induction d with
  | zero =>
    intro i hi
    refine Ev.step (fun k => ?_) hn
    simp only [layout_Pages.l0]
    rw [if_neg (by omega)]
  | succ d ih =>
    intro i hi
    have hlt : i < l.length := by omega
    have hm := hf _ (List.getElem_mem hlt)
    refine Ev.step (fun k => ?_) (ih (i + 1) (by omega))
    simp only [layout_Pages.l0]
    rw [if_pos (by omega), if_pos (by omega), if_pos (by omega), rd_at hlt, height_eq (g.ok _ (List.getElem_mem hlt)) t0 t1]
    simp only [Option.bind_some]
    rw [if_neg (by omega), wnat (n := 128) (i := i) (by omega) (by omega)]
theorem pages_high {l : List S54} (g : Good l) {t c h : Int} (t0 : 1 ≤ t) (t1 : t ≤ 64) (d : Nat) :
    ∀ i : Nat, i + d = l.length → ¬ Fits (l.drop i) t h → Ev (fun k => layout_Pages.l0 k l l (l.length : Int) (i : Int) t c h) ([], 35) := by
  have hl := g.len
  induction d with
  | zero =>
    intro i hi hf
    rw [show l.drop i = [] from by rw [List.drop_eq_nil_iff]; omega] at hf
    exact absurd (fun m hm => by cases hm) hf
  | succ d ih =>
    intro i hi hf
    have hlt : i < l.length := by omega
    by_cases hm : mt l[i] * t ≤ h
    · have := ih (i + 1) (by omega) (by
        intro h'
        apply hf
        rw [drop_at hlt]
        intro m hm'
        rcases List.mem_cons.1 hm' with rfl | h''
        · exact hm
        · exact h' m h'')
      refine Ev.step (fun k => ?_) this
      simp only [layout_Pages.l0]
      rw [if_pos (by omega), if_pos (by omega), if_pos (by omega), rd_at hlt, height_eq (g.ok _ (List.getElem_mem hlt)) t0 t1]
      simp only [Option.bind_some]
      rw [if_neg (by omega), wnat (n := 128) (i := i) (by omega) (by omega)]
    · refine Ev.step (f := fun _ => some ([], 35)) (fun k => ?_) (Ev.now _)
      simp only [layout_Pages.l0]
      rw [if_pos (by omega), if_pos (by omega), if_pos (by omega), rd_at hlt, height_eq (g.ok _ (List.getElem_mem hlt)) t0 t1]
      simp only [Option.bind_some]
      rw [if_pos (by omega)]
/-- what Pages says of a sheet with meters -/
def perr (t c h : Int) (l : List S54) : Int := if shc t c h ≠ 0 then shc t c h else if chk l ≠ 0 then chk l else if Fits l t h then 0 else 35
/-- a sheet with meters that Pages lets by -/
structure Well (t c h : Int) (l : List S54) : Prop where
  t0 : 1 ≤ t
  t1 : t ≤ 64
  c0 : 4 ≤ c
  c1 : c ≤ 1000
  h0 : 1 ≤ h
  h1 : h ≤ 100000
  good : Good l
  fits : Fits l t h
theorem perr_well {t c h : Int} {l : List S54} (e : perr t c h l = 0) : Well t c h l := by
  unfold perr at e
  by_cases h1 : shc t c h ≠ 0
  · rw [if_pos h1] at e; exact absurd e h1
  · rw [if_neg h1] at e
    by_cases h2 : chk l ≠ 0
    · rw [if_pos h2] at e; exact absurd e h2
    · rw [if_neg h2] at e
      by_cases h3 : Fits l t h
      · obtain ⟨a, b, c', d, e', f⟩ := shc_zero (by omega : shc t c h = 0)
        exact ⟨a, b, c', d, e', f, chk_good (by omega), h3⟩
      · rw [if_neg h3] at e; omega
theorem well_shc {t c h : Int} {l : List S54} (w : Well t c h l) : shc t c h = 0 := by
  obtain ⟨a, b, c', d, e', f, _, _⟩ := w
  unfold shc
  rw [if_pos ⟨a, b, c', d, e', f⟩]
theorem well_perr {t c h : Int} {l : List S54} (w : Well t c h l) : perr t c h l = 0 := by
  have h1 := well_shc w
  have h2 := good_chk w.good
  unfold perr
  rw [if_neg (by omega), if_neg (by omega), if_pos w.fits]
theorem pages_bad {t c h : Int} {l : List S54} (e : perr t c h l ≠ 0) : Ev (fun k => layout_Pages.f k t c h l) ([], perr t c h l) := by
  unfold perr at *
  unfold layout_Pages.f
  rw [lcheck_eq]
  simp only [Option.bind_some]
  by_cases h1 : shc t c h ≠ 0
  · rw [if_pos h1]
    simp only [if_neg h1]
    exact Ev.now _
  · rw [if_neg h1] at e ⊢
    simp only [if_pos (show shc t c h = 0 by omega)]
    refine Ev.bind (check_ev l) ?_
    by_cases h2 : chk l ≠ 0
    · rw [if_pos h2]
      simp only [if_neg h2]
      exact Ev.now _
    · rw [if_neg h2] at e ⊢
      simp only [if_pos (show chk l = 0 by omega)]
      by_cases h3 : Fits l t h
      · rw [if_pos h3] at e; exact absurd rfl e
      · rw [if_neg h3]
        obtain ⟨a, b, _, _, _, _⟩ := shc_zero (by omega : shc t c h = 0)
        have := pages_high (c := c) (chk_good (by omega : chk l = 0)) a b l.length 0 (by omega) (by simpa using h3)
        simpa only [Int.natCast_zero] using this
theorem pages_well {t c h : Int} {l : List S54} (w : Well t c h l) {ps : List S46} (p : Pg l t h 0 ps) : Ev (fun k => layout_Pages.f k t c h l) (ps, 0) := by
  have h1 := well_shc w
  have h2 := check_ev l
  rw [good_chk w.good] at h2
  unfold layout_Pages.f
  rw [lcheck_eq]
  simp only [Option.bind_some, if_pos h1]
  refine Ev.bind h2 ?_
  simp only [if_true]
  have h3 := pages_walk w.good (c := c) w.t0 w.t1 w.h1 p [] (by simp)
  simp only [Int.natCast_zero, List.nil_append] at h3
  have h4 := pages_scan w.good w.t0 w.t1 w.fits _ h3 l.length 0 (by omega)
  simpa only [Int.natCast_zero] using h4
theorem well_pages {t c h : Int} {l : List S54} (w : Well t c h l) : ∃ ps, Pg l t h 0 ps := Pg.exists w.fits l.length 0 (by omega) (by omega)
/-! ### the page of a tick -/
theorem rd_page {ps : List S46} {i : Nat} (h : i < ps.length) : rd_T46 ps (i : Int) = ps[i] := by
  unfold rd_T46
  simp [List.getD_eq_getElem?_getD, h]
/-- the first tick of a page, and the tick after its last one -/
def fst_ (l : List S54) (p : S46) : Int := tot (l.take p.f0.toNat)
def lst_ (l : List S54) (p : S46) : Int := tot (l.take p.f1.toNat)
def plc (l : List S54) (t x : Int) : List S46 → Int → Int × Int × Int
  | [], _ => (0, 0, 1)
  | p :: ps, i => if fst_ l p ≤ x ∧ x < lst_ l p then (i, (x - fst_ l p) * t, 0) else plc l t x ps (i + 1)
theorem Pg.mem {l : List S54} {t h : Int} {a : Nat} {ps : List S46} (p : Pg l t h a ps) : ∀ q ∈ ps, ∃ u v : Nat, q = ⟨(u : Int), (v : Int)⟩ ∧ Gr l t h u v := by
  induction p with
  | nil => intro q hq; cases hq
  | cons g _ ih =>
    intro q hq
    rcases List.mem_cons.1 hq with rfl | hq
    · exact ⟨_, _, rfl, g⟩
    · exact ih q hq
theorem ticks_ev {l : List S54} (g : Good l) {q : S46} {t h : Int} (hq : ∃ u v : Nat, q = ⟨(u : Int), (v : Int)⟩ ∧ Gr l t h u v) : Ev (fun k => layout_ticks.f k l q.f0 q.f1) (fst_ l q, lst_ l q) := by
  obtain ⟨u, v, rfl, gr⟩ := hq
  have h1 := gr.lt
  have h2 := gr.le
  have hl := g.len
  unfold layout_ticks.f fst_ lst_
  simp only [Int.toNat_natCast]
  refine Ev.bind (measure_in g (i := u) (by omega)) ?_
  rw [show wrap64 ((v : Int) - 1) = ((v - 1 : Nat) : Int) by rw [w64 (by omega) (by omega)]; omega]
  have := measure_in g (i := v - 1) (by omega)
  rw [show v - 1 + 1 = v by omega] at this
  exact Ev.bind this (Ev.now _)
theorem page_bd {l : List S54} (g : Good l) {q : S46} {t h : Int} (hq : ∃ u v : Nat, q = ⟨(u : Int), (v : Int)⟩ ∧ Gr l t h u v) : 0 ≤ fst_ l q ∧ fst_ l q < lst_ l q ∧ lst_ l q ≤ tot l := by
  obtain ⟨u, v, rfl, gr⟩ := hq
  have h1 := gr.lt
  have h2 := gr.le
  unfold fst_ lst_
  simp only [Int.toNat_natCast]
  have e0 := (tot_take_bd g.ok g.len u).1
  have e1 := tot_take_succ (l := l) (i := u) (by omega)
  have e2 := mt_bd (g.ok _ (List.getElem_mem (show u < l.length by omega)))
  have e3 := tot_take_mono g.ok (show u + 1 ≤ v by omega)
  have e4 := tot_take_le g.ok v
  omega
theorem place_loop {l : List S54} (g : Good l) {t c h : Int} (t0 : 1 ≤ t) (t1 : t ≤ 64) (x : Int) (ps : List S46) (hl : ps.length ≤ 128) (hm : ∀ q ∈ ps, ∃ u v : Nat, q = ⟨(u : Int), (v : Int)⟩ ∧ Gr l t h u v) (d : Nat) :
    ∀ i : Nat, i + d = ps.length → Ev (fun k => layout_Place.l0 k l x ps (ps.length : Int) (i : Int) t c h) (plc l t x (ps.drop i) (i : Int)) := by
  have ht := g.tot
  induction d with
  | zero =>
    intro i hi
    rw [show ps.drop i = [] from by rw [List.drop_eq_nil_iff]; omega]
    refine Ev.step (f := fun _ => some (0, 0, 1)) (fun k => ?_) (Ev.now _)
    simp only [layout_Place.l0]
    rw [if_neg (by omega)]
  | succ d ih =>
    intro i hi
    have hlt : i < ps.length := by omega
    have hq := hm _ (List.getElem_mem hlt)
    have hb := page_bd g hq
    rw [List.drop_eq_getElem_cons hlt, plc]
    have e1 : Ev (fun k => (layout_ticks.f k l ps[i].f0 ps[i].f1).bind fun bt => if x ≥ bt.1 then (if x < bt.2 then some ((i : Int), wrap64 (wrap64 (x - bt.1) * t), (0 : Int)) else layout_Place.l0 k l x ps (ps.length : Int) ((i + 1 : Nat) : Int) t c h) else layout_Place.l0 k l x ps (ps.length : Int) ((i + 1 : Nat) : Int) t c h)
        (if fst_ l ps[i] ≤ x ∧ x < lst_ l ps[i] then ((i : Int), (x - fst_ l ps[i]) * t, 0) else plc l t x (ps.drop (i + 1)) ((i : Int) + 1)) := by
      refine Ev.bind (ticks_ev g hq) ?_
      by_cases h1 : fst_ l ps[i] ≤ x
      · by_cases h2 : x < lst_ l ps[i]
        · have hmb := mul_bd (x := x - fst_ l ps[i]) (by omega) (by omega) t0 t1
          simp only [if_pos (show x ≥ fst_ l ps[i] by omega), if_pos h2]
          rw [if_pos ⟨h1, h2⟩, w64 (n := x - fst_ l ps[i]) (by omega) (by omega), w64 (by omega) (by omega)]
          exact Ev.now _
        · simp only [if_pos (show x ≥ fst_ l ps[i] by omega), if_neg h2]
          rw [if_neg (fun h => h2 h.2)]
          exact ih (i + 1) (by omega)
      · simp only [if_neg (show ¬ x ≥ fst_ l ps[i] by omega)]
        rw [if_neg (fun h => h1 h.1)]
        exact ih (i + 1) (by omega)
    refine Ev.step (fun k => ?_) e1
    simp only [layout_Place.l0]
    rw [if_pos (by omega), if_pos (by omega), if_pos (by omega), rd_page hlt, wnat (n := 128) (i := i) (by omega) (by omega)]
theorem place_bad {t c h : Int} {l : List S54} (e : perr t c h l ≠ 0) (x : Int) : Ev (fun k => layout_Place.f k t c h l x) (0, 0, perr t c h l) := by
  unfold layout_Place.f
  refine Ev.bind (pages_bad e) ?_
  simp only [if_neg e]
  exact Ev.now _
theorem place_well {t c h : Int} {l : List S54} (w : Well t c h l) {ps : List S46} (p : Pg l t h 0 ps) (x : Int) : Ev (fun k => layout_Place.f k t c h l x) (plc l t x ps 0) := by
  unfold layout_Place.f
  refine Ev.bind (pages_well w p) ?_
  simp only [if_true]
  have := place_loop w.good (c := c) w.t0 w.t1 x ps (by have := p.length; have := w.good.len; omega) p.mem ps.length 0 (by omega)
  simpa only [Int.natCast_zero, List.drop_zero] using this
/-! ### the tick of a place -/
def tck (l : List S54) (t : Int) (ps : List S46) (n y : Int) : Int × Int :=
  if 0 ≤ n ∧ n < ps.length then
    (if 0 ≤ y ∧ y % t = 0 ∧ y < (lst_ l (rd_T46 ps n) - fst_ l (rd_T46 ps n)) * t then (fst_ l (rd_T46 ps n) + y / t, 0) else (0, 1))
  else (0, 35)
theorem wf_bd {n : Int} (h : (Lit.int .i64 n).wf = true) : -9223372036854775808 ≤ n ∧ n ≤ 9223372036854775807 := by
  simp [Lit.wf, IntKind.min, IntKind.max, IntKind.signed, IntKind.bits] at h
  omega
theorem tick_bad {t c h : Int} {l : List S54} (e : perr t c h l ≠ 0) (n y : Int) : Ev (fun k => layout_Tick.f k t c h l n y) (0, perr t c h l) := by
  unfold layout_Tick.f
  refine Ev.bind (pages_bad e) ?_
  simp only [if_neg e]
  exact Ev.now _
theorem tick_well {t c h : Int} {l : List S54} (w : Well t c h l) {ps : List S46} (p : Pg l t h 0 ps) (n : Int) {y : Int} (hyb : -9223372036854775808 ≤ y ∧ y ≤ 9223372036854775807) : Ev (fun k => layout_Tick.f k t c h l n y) (tck l t ps n y) := by
  have t0 := w.t0
  have t1 := w.t1
  unfold layout_Tick.f tck
  refine Ev.bind (pages_well w p) ?_
  simp only [if_true]
  have hj : Ev (fun k => layout_Tick.j0 k l n y ps true t c h) (0, 35) := Ev.step (f := fun _ => some (0, 35)) (fun k => by simp only [layout_Tick.j0]; rw [if_pos trivial]) (Ev.now _)
  by_cases hn : n < 0
  · simp only [if_pos hn]
    rw [if_neg (by omega)]
    exact hj
  · simp only [if_neg hn]
    by_cases hn2 : n ≥ (ps.length : Int)
    · rw [decide_eq_true hn2, if_neg (by omega)]
      exact hj
    · rw [decide_eq_false hn2, if_pos (by omega)]
      obtain ⟨i, rfl⟩ : ∃ i : Nat, n = i := ⟨n.toNat, by omega⟩
      have hlt : i < ps.length := by omega
      rw [rd_page hlt]
      have hq := p.mem _ (List.getElem_mem hlt)
      have hb := page_bd w.good hq
      have ht := w.good.tot
      have hmb := mul_bd (x := lst_ l ps[i] - fst_ l ps[i]) (by omega) (by omega) t0 t1
      have e1 : Ev (fun k => (layout_ticks.f k l ps[i].f0 ps[i].f1).bind fun bt => if y < 0 then some ((0 : Int), (1 : Int)) else if t = 0 then none else if Int.tmod y t = 0 then (if y ≥ wrap64 (wrap64 (bt.2 - bt.1) * t) then some (0, 1) else some (wrap64 (bt.1 + wrap64 (Int.tdiv y t)), 0)) else some (0, 1))
          (if 0 ≤ y ∧ y % t = 0 ∧ y < (lst_ l ps[i] - fst_ l ps[i]) * t then (fst_ l ps[i] + y / t, 0) else (0, 1)) := by
        refine Ev.bind (ticks_ev w.good hq) ?_
        by_cases h0 : y < 0
        · simp only [if_pos h0]
          rw [if_neg (by omega)]
          exact Ev.now _
        · simp only [if_neg h0, if_neg (show ¬ t = 0 by omega)]
          rw [Int.tmod_eq_emod_of_nonneg (by omega), Int.tdiv_eq_ediv_of_nonneg (by omega), w64 (n := lst_ l ps[i] - fst_ l ps[i]) (by omega) (by omega), w64 (n := (lst_ l ps[i] - fst_ l ps[i]) * t) (by omega) (by omega)]
          by_cases h1 : y % t = 0
          · simp only [if_pos h1]
            by_cases h2 : y ≥ (lst_ l ps[i] - fst_ l ps[i]) * t
            · simp only [if_pos h2]
              rw [if_neg (by omega)]
              exact Ev.now _
            · simp only [if_neg h2]
              rw [if_pos ⟨by omega, h1, by omega⟩]
              have hd : 0 ≤ y / t ∧ y / t ≤ y := ⟨Int.ediv_nonneg (by omega) (by omega), Int.ediv_le_self _ (by omega)⟩
              rw [w64 (n := y / t) (by omega) (by omega), w64 (by omega) (by omega)]
              exact Ev.now _
          · simp only [if_neg h1]
            rw [if_neg (fun h => h1 h.2.1)]
            exact Ev.now _
      refine Ev.step (fun k => ?_) e1
      simp only [layout_Tick.j0]
      rw [if_neg (by decide), if_pos (by omega), if_pos (by omega), rd_page hlt]
/-! ### which page is found -/
theorem Pg.ge {l : List S54} (ho : ∀ m ∈ l, okm m) {t h : Int} {a : Nat} {ps : List S46} (p : Pg l t h a ps) : ∀ q ∈ ps, tot (l.take a) ≤ fst_ l q := by
  induction p with
  | nil => intro q hq; cases hq
  | @cons a b ps g p ih =>
    intro q hq
    rcases List.mem_cons.1 hq with rfl | hq
    · unfold fst_; simp
    · have h1 := ih q hq
      have h2 := tot_take_mono ho (show a ≤ b by have := g.lt; omega)
      omega
theorem plc_at {l : List S54} (ho : ∀ m ∈ l, okm m) {t h x : Int} {a : Nat} {ps : List S46} (p : Pg l t h a ps) : ∀ (j : Nat) (i : Int) (hj : j < ps.length), fst_ l ps[j] ≤ x → x < lst_ l ps[j] → plc l t x ps i = (i + j, (x - fst_ l ps[j]) * t, 0) := by
  induction p with
  | nil => intro j i hj; simp at hj
  | @cons a b ps g p ih =>
    intro j i hj h1 h2
    cases j with
    | zero =>
      simp only [List.getElem_cons_zero] at h1 h2 ⊢
      rw [plc, if_pos ⟨h1, h2⟩]
      simp
    | succ j =>
      simp only [List.getElem_cons_succ] at h1 h2 ⊢
      have h3 := p.ge ho _ (List.getElem_mem (by simpa using hj : j < ps.length))
      rw [plc, if_neg (fun hh => by have := hh.2; unfold lst_ at this; simp at this; omega), ih j (i + 1) (by simpa using hj) h1 h2]
      simp only [Prod.mk.injEq, and_true]
      push_cast
      omega
theorem plc_find {l : List S54} {t h x : Int} (h1 : x < tot l) {a : Nat} {ps : List S46} (p : Pg l t h a ps) : tot (l.take a) ≤ x → ∃ j, ∃ hj : j < ps.length, fst_ l ps[j] ≤ x ∧ x < lst_ l ps[j] := by
  induction p with
  | nil => intro h0; rw [List.take_length] at h0; omega
  | @cons a b ps g p ih =>
    intro h0
    by_cases hb : x < tot (l.take b)
    · exact ⟨0, by simp, by unfold fst_; simpa using h0, by unfold lst_; simpa using hb⟩
    · obtain ⟨j, hj, a1, a2⟩ := ih (by omega)
      exact ⟨j + 1, by simpa using hj, by simpa using a1, by simpa using a2⟩
theorem plc_none {l : List S54} {t x : Int} : ∀ (ps : List S46) (i : Int), (∀ q ∈ ps, ¬ (fst_ l q ≤ x ∧ x < lst_ l q)) → plc l t x ps i = (0, 0, 1)
  | [], _, _ => rfl
  | p :: ps, i, h => by
    rw [plc, if_neg (h p (by simp))]
    exact plc_none ps (i + 1) (fun q hq => h q (by simp [hq]))
theorem plc_out {l : List S54} (g : Good l) {t h x : Int} {ps : List S46} (p : Pg l t h 0 ps) (hx : x < 0 ∨ tot l ≤ x) (i : Int) : plc l t x ps i = (0, 0, 1) :=
  plc_none ps i (fun q hq hh => by have := page_bd g (p.mem q hq); omega)
/-- the place of a tick, and the tick of that place -/
theorem plc_tck {l : List S54} (g : Good l) {t h x : Int} (t0 : 1 ≤ t) (t1 : t ≤ 64) {ps : List S46} (p : Pg l t h 0 ps) (h0 : 0 ≤ x) (h1 : x < tot l) :
    ∃ n y : Int, plc l t x ps 0 = (n, y, 0) ∧ tck l t ps n y = (x, 0) ∧ 0 ≤ y ∧ y ≤ 12800000 ∧ 0 ≤ n ∧ n < ps.length := by
  obtain ⟨j, hj, a1, a2⟩ := plc_find h1 p (by simpa [tot] using h0)
  have hb := page_bd g (p.mem _ (List.getElem_mem hj))
  have ht := g.tot
  have hm := mul_bd (x := x - fst_ l ps[j]) (by omega) (by omega) t0 t1
  refine ⟨j, (x - fst_ l ps[j]) * t, by rw [plc_at g.ok p j 0 hj a1 a2, Int.zero_add], ?_, hm.1, hm.2, by omega, by omega⟩
  unfold tck
  have hlt : (x - fst_ l ps[j]) * t < (lst_ l ps[j] - fst_ l ps[j]) * t := Int.mul_lt_mul_of_pos_right (by omega) (by omega)
  rw [if_pos (by omega), rd_page hj, if_pos ⟨hm.1, Int.mul_emod_left _ _, hlt⟩, Int.mul_ediv_cancel _ (by omega)]
  simp only [Prod.mk.injEq, and_true]
  omega
/-- the tick of a place, and the place of that tick -/
theorem tck_plc {l : List S54} (g : Good l) {t h n y x : Int} (t0 : 1 ≤ t) (t1 : t ≤ 64) {ps : List S46} (p : Pg l t h 0 ps) (e : tck l t ps n y = (x, 0)) : plc l t x ps 0 = (n, y, 0) := by
  unfold tck at e
  by_cases hn : 0 ≤ n ∧ n < (ps.length : Int)
  · rw [if_pos hn] at e
    obtain ⟨j, rfl⟩ : ∃ j : Nat, n = j := ⟨n.toNat, by omega⟩
    have hj : j < ps.length := by omega
    rw [rd_page hj] at e
    by_cases hy : 0 ≤ y ∧ y % t = 0 ∧ y < (lst_ l ps[j] - fst_ l ps[j]) * t
    · rw [if_pos hy] at e
      simp only [Prod.mk.injEq, and_true] at e
      have h1 : 0 ≤ y / t := Int.ediv_nonneg hy.1 (by omega)
      have h2 : y / t < lst_ l ps[j] - fst_ l ps[j] := Int.ediv_lt_of_lt_mul (by omega) hy.2.2
      have h3 : y / t * t = y := Int.ediv_mul_cancel_of_emod_eq_zero hy.2.1
      rw [plc_at g.ok p j 0 hj (x := x) (by omega) (by omega), Int.zero_add, show x - fst_ l ps[j] = y / t by omega, h3]
    · rw [if_neg hy] at e; simp at e
  · rw [if_neg hn] at e; simp at e
theorem tck_zero {l : List S54} {t n y : Int} {ps : List S46} : (tck l t ps n y).2 = 0 ∨ (tck l t ps n y).1 = 0 := by
  unfold tck
  by_cases hn : 0 ≤ n ∧ n < (ps.length : Int)
  · rw [if_pos hn]
    by_cases hy : 0 ≤ y ∧ y % t = 0 ∧ y < (lst_ l (rd_T46 ps n) - fst_ l (rd_T46 ps n)) * t
    · rw [if_pos hy]; exact Or.inl rfl
    · rw [if_neg hy]; exact Or.inr rfl
  · rw [if_neg hn]; exact Or.inr rfl
/-! ### the chapter's examples -/
theorem awake_ev : Ev (fun k => dancestudiolaw40_awake.f k) true := Ev.of (fun k => dancestudiolaw40_awake.mono k) (k := 60) (by kernel_rfl)
theorem Pg.rises {l : List S54} (ho : ∀ m ∈ l, okm m) {t h : Int} {a : Nat} {ps : List S46} (p : Pg l t h a ps) : ∀ (i j : Nat) (hi : i < ps.length) (hj : j < ps.length), i < j → lst_ l ps[i] ≤ fst_ l ps[j] := by
  induction p with
  | nil => intro i j hi hj h; simp at hi
  | @cons a b ps g p ih =>
    intro i j hi hj hij
    cases j with
    | zero => omega
    | succ j =>
      cases i with
      | zero =>
        have := p.ge ho _ (List.getElem_mem (by simpa using hj : j < ps.length))
        simp only [List.getElem_cons_zero, List.getElem_cons_succ]
        unfold lst_
        simpa using this
      | succ i =>
        simp only [List.getElem_cons_succ]
        exact ih i j (by simpa using hi) (by simpa using hj) (by omega)
theorem rises_j1 {t c h : Int} {l : List S54} (w : Well t c h l) {ps : List S46} (p : Pg l t h 0 ps) {x y : Int} {i : Nat} (hi : i < ps.length) (h1 : fst_ l ps[i] ≤ x) (h2 : x < lst_ l ps[i]) :
    Ev (fun k => dancestudiolaw40_LayoutRises.j1 k l (i : Int) false t c h x y) true := by
  have hq := p.mem _ (List.getElem_mem hi)
  have hb := page_bd w.good hq
  obtain ⟨u, v, e, gr⟩ := hq
  obtain ⟨m, hm, a1, a2⟩ := find_measure l w.good.ok (t := x) (by omega) (by omega)
  have hs := tot_take_succ hm
  have e1 : fst_ l ps[i] = tot (l.take u) := by rw [e]; unfold fst_; simp
  have e2 : lst_ l ps[i] = tot (l.take v) := by rw [e]; unfold lst_; simp
  have hu : u ≤ m := by
    rcases Nat.lt_or_ge m u with hlt | hge
    · have := tot_take_mono w.good.ok (show m + 1 ≤ u by omega); omega
    · exact hge
  have hv : m < v := by
    rcases Nat.lt_or_ge m v with hlt | hge
    · exact hlt
    · have := tot_take_mono w.good.ok hge; omega
  refine Ev.step (fun k => by simp only [dancestudiolaw40_LayoutRises.j1]; rw [if_neg (by decide)]) (Ev.bind (pages_well w p) (Ev.bind (where_in w.good hm a1 a2) ?_))
  rw [rd_page hi, e]
  simp only [if_true, if_pos (show (i : Int) ≥ 0 by omega), if_pos (show (i : Int) < (ps.length : Int) by omega), if_pos (show (u : Int) ≤ (m : Int) by omega), if_pos (show (m : Int) < (v : Int) by omega)]
  exact Ev.bind awake_ev (Ev.now _)
/-- LayoutRises returns true, for every sheet, list and two ticks. -/
theorem pure_LayoutRises (t : Int) (_ : (Lit.int .i64 t).wf = true) (c : Int) (_ : (Lit.int .i64 c).wf = true) (h : Int) (_ : (Lit.int .i64 h).wf = true) (l : List S54) (_ : l.length * 16 ≤ 140737488351232)
    (x : Int) (_ : (Lit.int .i64 x).wf = true) (y : Int) (_ : (Lit.int .i64 y).wf = true) : ∃ k, dancestudiolaw40_LayoutRises.f k t c h l x y = some true := by
  refine Ev.rounds (g := fun k => dancestudiolaw40_LayoutRises.f k t c h l x y) ?_
  have haw : ∀ a b c' d, Ev (fun k => dancestudiolaw40_LayoutRises.j0 k l a b c' d true t c h x y) true := by
    intro a b c' d
    refine Ev.step (f := fun k => (dancestudiolaw40_awake.f k).bind fun b => some b) (fun k => ?_) (Ev.bind awake_ev (Ev.now _))
    simp only [dancestudiolaw40_LayoutRises.j0]
    rw [if_pos trivial]
  unfold dancestudiolaw40_LayoutRises.f
  by_cases e : perr t c h l = 0
  · have w := perr_well e
    obtain ⟨ps, p⟩ := well_pages w
    have t0 := w.t0
    refine Ev.bind (place_well w p x) (Ev.bind (place_well w p y) ?_)
    by_cases hx : 0 ≤ x ∧ x < tot l
    · obtain ⟨i, hi, a1, a2⟩ := plc_find hx.2 p (by simpa [tot] using hx.1)
      rw [plc_at w.good.ok p i 0 hi a1 a2]
      simp only [if_true, Int.zero_add]
      by_cases hy : 0 ≤ y ∧ y < tot l
      · obtain ⟨j, hj, b1, b2⟩ := plc_find hy.2 p (by simpa [tot] using hy.1)
        rw [plc_at w.good.ok p j 0 hj b1 b2]
        simp only [Int.zero_add, bne_self_eq_false]
        have hj1 := rises_j1 w p (y := y) hi a1 a2
        have : Ev (fun k => if x < y then (if (i : Int) < (j : Int) then dancestudiolaw40_LayoutRises.j1 k l (i : Int) (!true) t c h x y else if (i : Int) = (j : Int) then dancestudiolaw40_LayoutRises.j1 k l (i : Int) (!(decide ((x - fst_ l ps[i]) * t < (y - fst_ l ps[j]) * t))) t c h x y else dancestudiolaw40_LayoutRises.j1 k l (i : Int) (!false) t c h x y) else dancestudiolaw40_LayoutRises.j1 k l (i : Int) false t c h x y) true := by
          by_cases hxy : x < y
          · simp only [if_pos hxy]
            rcases Nat.lt_trichotomy i j with hij | hij | hij
            · simp only [if_pos (show (i : Int) < (j : Int) by omega)]
              exact hj1
            · subst hij
              simp only [if_neg (show ¬ (i : Int) < (i : Int) by omega), if_true]
              rw [decide_eq_true (show (x - fst_ l ps[i]) * t < (y - fst_ l ps[i]) * t from Int.mul_lt_mul_of_pos_right (by omega) (by omega))]
              exact hj1
            · have := p.rises w.good.ok j i hj hi hij
              omega
          · simp only [if_neg hxy]
            exact hj1
        exact Ev.step (fun k => by simp only [dancestudiolaw40_LayoutRises.j0]; rw [if_neg (by decide)]) this
      · rw [plc_out w.good p (x := y) (by omega)]
        exact haw _ _ _ _
    · rw [plc_out w.good p (x := x) (by omega)]
      simp only [if_neg (show ¬ ((1 : Int) = 0) by decide)]
      exact haw _ _ _ _
  · refine Ev.bind (place_bad e x) (Ev.bind (place_bad e y) ?_)
    simp only [if_neg e]
    exact haw _ _ _ _
end Go.Proofs.Ytmchbeobljgkeaa.PLayoutRises
