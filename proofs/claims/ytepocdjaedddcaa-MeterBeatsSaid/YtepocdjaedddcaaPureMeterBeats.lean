/- Plain lemmas on the functions that the law MeterBeats reaches: no memory and no Go in them. -/
import Derived.Test.YtepocdjaedddcaaPMeterBeatsx
set_option linter.unusedVariables false
namespace Go.Proofs.Ytepocdjaedddcaa.PMeterBeats
open Go.RowKit Go.Proofs.YtepocdjaedddcaaW.PrintWords Go.Proofs.YtepocdjaedddcaaW.PrintLast Go.Proofs.YtepocdjaedddcaaW.PrintMore
/-! ### numbers and lists -/
theorem w64 {n : Int} (h : -9223372036854775808 ≤ n) (h2 : n ≤ 9223372036854775807) : wrap64 n = n := by unfold wrap64; omega
theorem wnat {i n : Nat} (h : i < n) (hn : n ≤ 9223372036854775807) : wrap64 ((i : Int) + 1) = ((i + 1 : Nat) : Int) := by unfold wrap64; omega
def mt (m : S45) : Int := m.f0 * m.f1
def okm (m : S45) : Prop := 1 ≤ m.f0 ∧ m.f0 ≤ 16 ∧ 1 ≤ m.f1 ∧ m.f1 ≤ 96
instance (m : S45) : Decidable (okm m) := by unfold okm; infer_instance
theorem mt_bd {m : S45} (h : okm m) : 1 ≤ mt m ∧ mt m ≤ 1536 := by
  obtain ⟨h1, h2, h3, h4⟩ := h
  unfold mt
  obtain h | h | h | h | h | h | h | h | h | h | h | h | h | h | h | h : m.f0 = 1 ∨ m.f0 = 2 ∨ m.f0 = 3 ∨ m.f0 = 4 ∨ m.f0 = 5 ∨ m.f0 = 6 ∨ m.f0 = 7 ∨ m.f0 = 8 ∨ m.f0 = 9 ∨ m.f0 = 10 ∨ m.f0 = 11 ∨ m.f0 = 12 ∨ m.f0 = 13 ∨ m.f0 = 14 ∨ m.f0 = 15 ∨ m.f0 = 16 := by omega
  all_goals rw [h]; omega
def tot : List S45 → Int
  | [] => 0
  | m :: l => mt m + tot l
theorem tot_append (a b : List S45) : tot (a ++ b) = tot a + tot b := by
  induction a with
  | nil => simp [tot]
  | cons m a ih => simp [tot, ih]; omega
theorem tot_bd {l : List S45} (h : ∀ m ∈ l, okm m) : (l.length : Int) ≤ tot l ∧ tot l ≤ 1536 * l.length := by
  induction l with
  | nil => simp [tot]
  | cons m l ih =>
    have h1 := mt_bd (h m (by simp))
    have h2 := ih (fun x hx => h x (by simp [hx]))
    simp only [tot, List.length_cons]
    omega
theorem rd_at {l : List S45} {i : Nat} (h : i < l.length) : rd_T45 l (i : Int) = l[i] := by
  unfold rd_T45
  simp [List.getD_eq_getElem?_getD, h]
theorem drop_at {l : List S45} {i : Nat} (h : i < l.length) : l.drop i = l[i] :: l.drop (i + 1) := List.drop_eq_getElem_cons h
theorem take_at {l : List S45} {i : Nat} (h : i < l.length) : l.take (i + 1) = l.take i ++ [l[i]] := by
  rw [List.take_succ_eq_append_getElem h]
theorem tot_take_succ {l : List S45} {i : Nat} (h : i < l.length) : tot (l.take (i + 1)) = tot (l.take i) + mt l[i] := by
  rw [take_at h, tot_append]; simp [tot]
theorem ok_take {l : List S45} (h : ∀ m ∈ l, okm m) (i : Nat) : ∀ m ∈ l.take i, okm m := fun m hm => h m (List.mem_of_mem_take hm)
theorem tot_take_bd {l : List S45} (h : ∀ m ∈ l, okm m) (hl : l.length ≤ 128) (i : Nat) : 0 ≤ tot (l.take i) ∧ tot (l.take i) ≤ 196608 := by
  have h1 := tot_bd (ok_take h i)
  have h2 := List.length_take_le i l
  have h3 : (l.take i).length ≤ l.length := List.length_take_le' i l
  omega
theorem tot_take_le {l : List S45} (h : ∀ m ∈ l, okm m) (i : Nat) : tot (l.take i) ≤ tot l := by
  have h1 := tot_append (l.take i) (l.drop i)
  rw [List.take_append_drop] at h1
  have h2 := tot_bd (l := l.drop i) (fun m hm => h m (List.mem_of_mem_drop hm))
  omega
theorem tot_take_mono {l : List S45} (h : ∀ m ∈ l, okm m) {i j : Nat} (hij : i ≤ j) : tot (l.take i) ≤ tot (l.take j) := by
  have := tot_take_le (ok_take h j) i
  rwa [List.take_take, Nat.min_eq_left hij] at this

/-! ### Check -/
/-- what Check says of a list -/
def chk (l : List S45) : Int :=
  if l.length = 0 then 4 else if 128 < l.length then 3 else if ∀ m ∈ l, okm m then (if 8192 < tot l then 3 else 0) else 1
/-- a list that Check lets by -/
structure Good (l : List S45) : Prop where
  pos : 0 < l.length
  len : l.length ≤ 128
  ok : ∀ m ∈ l, okm m
  tot : tot l ≤ 8192
theorem chk_good {l : List S45} (h : chk l = 0) : Good l := by
  unfold chk at h
  by_cases h1 : l.length = 0
  · rw [if_pos h1] at h; omega
  · rw [if_neg h1] at h
    by_cases h2 : 128 < l.length
    · rw [if_pos h2] at h; omega
    · rw [if_neg h2] at h
      by_cases h3 : ∀ m ∈ l, okm m
      · rw [if_pos h3] at h
        by_cases h4 : 8192 < tot l
        · rw [if_pos h4] at h; omega
        · exact ⟨by omega, by omega, h3, by omega⟩
      · rw [if_neg h3] at h; omega
theorem good_chk {l : List S45} (g : Good l) : chk l = 0 := by
  have := g.pos; have := g.len; have := g.tot
  unfold chk
  rw [if_neg (by omega), if_neg (by omega), if_pos g.ok, if_neg (by omega)]
theorem not_good {l : List S45} (h : chk l ≠ 0) : ¬ Good l := fun g => h (good_chk g)
theorem ok_all_drop {l : List S45} {i : Nat} (h : i < l.length) : (∀ m ∈ l.drop i, okm m) ↔ okm l[i] ∧ ∀ m ∈ l.drop (i + 1), okm m := by
  rw [drop_at h, List.forall_mem_cons]
/-- a bad element decides -/
theorem bad_split {m : S45} (h : ¬ okm m) : m.f0 < 1 ∨ (¬ m.f0 < 1 ∧ m.f0 > 16) ∨ (¬ m.f0 < 1 ∧ ¬ m.f0 > 16 ∧ m.f1 < 1) ∨ (¬ m.f0 < 1 ∧ ¬ m.f0 > 16 ∧ ¬ m.f1 < 1 ∧ m.f1 > 96) := by
  unfold okm at h; omega

theorem check_loop (l : List S45) (hl : l.length ≤ 128) (d : Nat) : ∀ (i : Nat) (acc : Int), i + d = l.length → 0 ≤ acc → acc ≤ 1536 * i →
    Ev (fun k => meter_Check.l0 k acc l (l.length : Int) (i : Int)) (if ∀ m ∈ l.drop i, okm m then (if 8192 < acc + tot (l.drop i) then 3 else 0) else 1) := by
  induction d with
  | zero =>
    intro i acc hi h0 h1
    rw [show l.drop i = [] from by rw [List.drop_eq_nil_iff]; omega]
    refine Ev.step (f := fun _ => some (if 8192 < acc then 3 else 0)) (fun k => ?_) ?_
    · simp only [meter_Check.l0]
      rw [if_neg (by omega)]
      by_cases h : 8192 < acc
      · rw [if_pos h, if_pos h]
      · rw [if_neg h, if_neg h]
    · simp only [tot]
      exact Ev.now _ |> fun h => by simpa using h
  | succ d ih =>
    intro i acc hi h0 h1
    have hlt : i < l.length := by omega
    by_cases hok : okm l[i]
    · have hb := mt_bd hok
      have := ih (i + 1) (acc + mt l[i]) (by omega) (by omega) (by push_cast; omega)
      have e1 : (∀ m ∈ l.drop i, okm m) ↔ ∀ m ∈ l.drop (i + 1), okm m := by rw [ok_all_drop hlt]; exact ⟨fun h => h.2, fun h => ⟨hok, h⟩⟩
      have e2 : acc + tot (l.drop i) = acc + mt l[i] + tot (l.drop (i + 1)) := by rw [drop_at hlt]; simp only [tot]; omega
      rw [e2]
      simp only [e1]
      refine Ev.step (fun k => ?_) this
      simp only [meter_Check.l0]
      obtain ⟨o1, o2, o3, o4⟩ := hok
      rw [rd_at hlt, if_pos (by omega), if_pos (by omega), if_pos (by omega), if_neg (by omega), if_neg (by omega), if_neg (by omega), if_neg (by omega)]
      have e3 : wrap64 (l[i].f0 * l[i].f1) = mt l[i] := by unfold mt at hb ⊢; exact w64 (by omega) (by omega)
      rw [e3, w64 (by omega) (by omega), wnat (n := 128) (by omega) (by omega)]
    · have e1 : ¬ ∀ m ∈ l.drop i, okm m := by rw [ok_all_drop hlt]; exact fun h => hok h.1
      rw [if_neg e1]
      refine Ev.step (f := fun _ => some 1) (fun k => ?_) (Ev.now 1)
      simp only [meter_Check.l0]
      rw [rd_at hlt, if_pos (by omega), if_pos (by omega), if_pos (by omega)]
      rcases bad_split hok with h | ⟨h, g⟩ | ⟨h, g, e⟩ | ⟨h, g, e, f⟩
      · rw [if_pos h]
      · rw [if_neg h, if_pos g]
      · rw [if_neg h, if_neg g, if_pos e]
      · rw [if_neg h, if_neg g, if_neg e, if_pos f]
theorem check_ev (l : List S45) : Ev (fun k => meter_Check.f k l) (chk l) := by
  unfold chk
  by_cases h1 : l.length = 0
  · rw [if_pos h1]
    refine Ev.congr (f := fun _ => some 4) (fun k => ?_) (Ev.now 4)
    unfold meter_Check.f
    rw [if_pos (by omega)]
  · rw [if_neg h1]
    by_cases h2 : 128 < l.length
    · rw [if_pos h2]
      refine Ev.congr (f := fun _ => some 3) (fun k => ?_) (Ev.now 3)
      unfold meter_Check.f
      rw [if_neg (by omega), if_pos (by omega)]
    · rw [if_neg h2]
      have := check_loop l (by omega) l.length 0 0 (by omega) (by omega) (by omega)
      simp only [List.drop_zero, Int.zero_add] at this
      refine Ev.congr (fun k => ?_) this
      unfold meter_Check.f
      rw [if_neg (by omega), if_neg (by omega)]
      rfl
/-! ### begin, Length -/
theorem begin_loop (l : List S45) (ho : ∀ m ∈ l, okm m) (hl : l.length ≤ 128) (d : Nat) : ∀ (i : Nat) (acc : Int), i + d = l.length → 0 ≤ acc → acc ≤ 1536 * i →
    Ev (fun k => meter_begin.l0 k acc l (l.length : Int) (i : Int)) (acc + tot (l.drop i)) := by
  induction d with
  | zero =>
    intro i acc hi h0 h1
    rw [show l.drop i = [] from by rw [List.drop_eq_nil_iff]; omega]
    refine Ev.step (f := fun _ => some acc) (fun k => ?_) ?_
    · simp only [meter_begin.l0]
      rw [if_neg (by omega)]
    · simp only [tot, Int.add_zero]; exact Ev.now _
  | succ d ih =>
    intro i acc hi h0 h1
    have hlt : i < l.length := by omega
    have hb := mt_bd (ho l[i] (List.getElem_mem hlt))
    have := ih (i + 1) (acc + mt l[i]) (by omega) (by omega) (by push_cast; omega)
    have e2 : acc + tot (l.drop i) = acc + mt l[i] + tot (l.drop (i + 1)) := by rw [drop_at hlt]; simp only [tot]; omega
    rw [e2]
    refine Ev.step (fun k => ?_) this
    simp only [meter_begin.l0]
    rw [rd_at hlt, if_pos (by omega), if_pos (by omega), if_pos (by omega)]
    have e3 : wrap64 (l[i].f0 * l[i].f1) = mt l[i] := by unfold mt at hb ⊢; exact w64 (by omega) (by omega)
    rw [e3, w64 (by omega) (by omega), wnat (n := 128) (by omega) (by omega)]
theorem begin_ev (l : List S45) (ho : ∀ m ∈ l, okm m) (hl : l.length ≤ 128) (i : Nat) (hi : i ≤ l.length) : Ev (fun k => meter_begin.f k l (i : Int)) (tot (l.take i)) := by
  have h3 : (l.take i).length ≤ l.length := List.length_take_le' i l
  have := begin_loop (l.take i) (ok_take ho i) (by omega) (l.take i).length 0 0 (by omega) (by omega) (by omega)
  simp only [List.drop_zero, Int.zero_add] at this
  refine Ev.congr (fun k => ?_) this
  unfold meter_begin.f
  rw [if_pos (by omega), if_pos (by omega)]
  simp only [Option.bind_some, Int.toNat_natCast]
  rfl
theorem length_good {l : List S45} (g : Good l) : Ev (fun k => meter_Length.f k l) (tot l, 0) := by
  have h1 := check_ev l
  rw [good_chk g] at h1
  have h2 := begin_ev l g.ok g.len l.length (Nat.le_refl _)
  rw [List.take_length] at h2
  unfold meter_Length.f
  refine Ev.bind h1 ?_
  simp only [if_true]
  exact Ev.bind h2 (Ev.now _)
theorem length_bad {l : List S45} (h : chk l ≠ 0) : Ev (fun k => meter_Length.f k l) (0, chk l) := by
  unfold meter_Length.f
  refine Ev.bind (check_ev l) ?_
  simp only [if_neg h]
  exact Ev.now _
/-! ### the measure of a tick -/
theorem find_measure (l : List S45) (ho : ∀ m ∈ l, okm m) {t : Int} (h0 : 0 ≤ t) (h1 : t < tot l) : ∃ i, ∃ h : i < l.length, tot (l.take i) ≤ t ∧ t < tot (l.take i) + mt l[i] := by
  induction l generalizing t with
  | nil => simp [tot] at h1; omega
  | cons m l ih =>
    simp only [tot] at h1
    by_cases hm : t < mt m
    · exact ⟨0, by simp, by simpa [tot] using h0, by simpa [tot] using hm⟩
    · obtain ⟨i, h, a, b⟩ := ih (fun x hx => ho x (by simp [hx])) (t := t - mt m) (by omega) (by omega)
      exact ⟨i + 1, by simpa using h, by simp only [List.take_succ_cons, tot]; omega, by simp only [List.take_succ_cons, tot, List.getElem_cons_succ]; omega⟩
/-- quotient and remainder of a tick in its measure -/
theorem qr {a u b : Int} (h0 : 0 ≤ a) (hu : 1 ≤ u) (h : a < b * u) : 0 ≤ a / u ∧ a / u < b ∧ 0 ≤ a % u ∧ a % u < u ∧ a / u * u + a % u = a := by
  refine ⟨Int.ediv_nonneg h0 (by omega), Int.ediv_lt_of_lt_mul (by omega) h, Int.emod_nonneg _ (by omega), Int.emod_lt_of_pos _ (by omega), ?_⟩
  have := Int.mul_ediv_add_emod a u
  rw [Int.mul_comm] at this
  omega
/-! ### Where -/
/-- the beats of a measure that end before the tick are passed -/
theorem where_pass (l : List S45) (x10 x11 j len u f L : Int) (hu : 1 ≤ u) (hu2 : u ≤ 96) (hf : f ≤ 16) (hL : f * u ≤ L) (hL2 : L ≤ 8192) (r : Int × Int × Int × Int)
    (hn : Ev (fun k => meter_Where.l0 k x10 x11 (L - f * u) l len (wrap64 (j + 1))) r) (d : Nat) : ∀ b : Int, 0 ≤ b → b + d = f → Ev (fun k => meter_Where.l1 k x10 x11 (L - b * u) j l len j f b f u) r := by
  induction d with
  | zero =>
    intro b h0 hb
    obtain rfl : b = f := by omega
    exact Ev.step (fun k => by simp only [meter_Where.l1]; rw [if_neg (by omega)]) hn
  | succ d ih =>
    intro b h0 hb
    have h1 : (b + 1) * u ≤ f * u := Int.mul_le_mul_of_nonneg_right (by omega) (by omega)
    have h2 : (b + 1) * u = b * u + u := by rw [Int.add_mul]; omega
    have h3 : 0 ≤ b * u := Int.mul_nonneg h0 (by omega)
    have := ih (b + 1) (by omega) (by omega)
    refine Ev.step (fun k => ?_) this
    simp only [meter_Where.l1]
    rw [if_pos (by omega), if_neg (by omega), w64 (by omega) (by omega), w64 (n := b + 1) (by omega) (by omega), h2]
    rw [show L - b * u - u = L - (b * u + u) by omega]
/-- the beat that has the tick is found -/
theorem where_stop (l : List S45) (x10 x11 j len u f L : Int) (hu : 1 ≤ u) (hu2 : u ≤ 96) (hf : f ≤ 16) (h0 : 0 ≤ L) (hL : L < f * u) (hL2 : L ≤ 8192) (d : Nat) :
    ∀ b : Int, 0 ≤ b → b + d = L / u → Ev (fun k => meter_Where.l1 k x10 x11 (L - b * u) j l len j f b f u) (j, L / u, L % u, 0) := by
  obtain ⟨q0, q1, r0, r1, e⟩ := qr h0 hu hL
  induction d with
  | zero =>
    intro b hb0 hb
    obtain rfl : b = L / u := by omega
    refine Ev.step (f := fun _ => some (j, L / u, L % u, 0)) (fun k => ?_) (Ev.now _)
    simp only [meter_Where.l1]
    rw [if_pos (by omega), if_pos (by omega), show L - L / u * u = L % u by omega]
  | succ d ih =>
    intro b hb0 hb
    have h1 : (b + 1) * u ≤ L / u * u := Int.mul_le_mul_of_nonneg_right (by omega) (by omega)
    have h2 : (b + 1) * u = b * u + u := by rw [Int.add_mul]; omega
    have h3 : 0 ≤ b * u := Int.mul_nonneg hb0 (by omega)
    have := ih (b + 1) (by omega) (by omega)
    refine Ev.step (fun k => ?_) this
    simp only [meter_Where.l1]
    rw [if_pos (by omega), if_neg (by omega), w64 (by omega) (by omega), w64 (n := b + 1) (by omega) (by omega), h2]
    rw [show L - b * u - u = L - (b * u + u) by omega]
theorem where_loop {l : List S45} (g : Good l) {t : Int} {i : Nat} (hi : i < l.length) (h1 : tot (l.take i) ≤ t) (h2 : t < tot (l.take i) + mt l[i]) (ht : t ≤ 8192) (d : Nat) :
    ∀ j : Nat, j + d = i → Ev (fun k => meter_Where.l0 k 0 0 (t - tot (l.take j)) l (l.length : Int) (j : Int)) ((i : Int), (t - tot (l.take i)) / l[i].f1, (t - tot (l.take i)) % l[i].f1, 0) := by
  have hl := g.len
  induction d with
  | zero =>
    intro j hj
    obtain rfl : j = i := by omega
    obtain ⟨o1, o2, o3, o4⟩ := g.ok l[j] (List.getElem_mem hi)
    have hb := (tot_take_bd g.ok g.len j).1
    have := where_stop l 0 0 (j : Int) (l.length : Int) l[j].f1 l[j].f0 (t - tot (l.take j)) o3 o4 o2 (by omega) (by unfold mt at h2; omega) (by omega) ((t - tot (l.take j)) / l[j].f1).toNat 0 (by omega)
      (by have := (qr (a := t - tot (l.take j)) (u := l[j].f1) (b := l[j].f0) (by omega) o3 (by unfold mt at h2; omega)).1; omega)
    simp only [Int.zero_mul, Int.sub_zero] at this
    refine Ev.step (fun k => ?_) this
    simp only [meter_Where.l0]
    rw [if_pos (by omega), if_pos (by omega), if_pos (by omega), rd_at hi]
  | succ d ih =>
    intro j hj
    have hlt : j < l.length := by omega
    obtain ⟨o1, o2, o3, o4⟩ := g.ok l[j] (List.getElem_mem hlt)
    have hb := (tot_take_bd g.ok g.len j).1
    have hs := tot_take_succ hlt
    have hm := tot_take_mono g.ok (i := j + 1) (j := i) (by omega)
    have hn := ih (j + 1) (by omega)
    have := where_pass l 0 0 (j : Int) (l.length : Int) l[j].f1 l[j].f0 (t - tot (l.take j)) o3 o4 o2 (by unfold mt at hs; omega) (by omega) _ (by
      rw [wnat (n := 128) (i := j) (by omega) (by omega), show t - tot (l.take j) - l[j].f0 * l[j].f1 = t - tot (l.take (j + 1)) by unfold mt at hs; omega]
      exact hn) l[j].f0.toNat 0 (by omega) (by omega)
    simp only [Int.zero_mul, Int.sub_zero] at this
    refine Ev.step (fun k => ?_) this
    simp only [meter_Where.l0]
    rw [if_pos (by omega), if_pos (by omega), if_pos (by omega), rd_at hlt]
theorem where_bad {l : List S45} (h : chk l ≠ 0) (t : Int) : Ev (fun k => meter_Where.f k l t) (0, 0, 0, chk l) := by
  unfold meter_Where.f
  refine Ev.bind (length_bad h) ?_
  simp only [if_neg h]
  exact Ev.now _
theorem where_out {l : List S45} (g : Good l) {t : Int} (h : t < 0 ∨ tot l ≤ t) : Ev (fun k => meter_Where.f k l t) (0, 0, 0, 1) := by
  unfold meter_Where.f
  refine Ev.bind (length_good g) ?_
  simp only [if_true]
  have hj : Ev (fun k => meter_Where.j0 k l t true) (0, 0, 0, 1) := Ev.step (f := fun _ => some (0, 0, 0, 1)) (fun k => by simp only [meter_Where.j0]; rw [if_pos trivial]) (Ev.now _)
  by_cases hn : t < 0
  · simp only [if_pos hn]
    exact hj
  · simp only [if_neg hn]
    rw [show decide (t ≥ tot l) = true from decide_eq_true (by omega)]
    exact hj
theorem where_in {l : List S45} (g : Good l) {t : Int} {i : Nat} (hi : i < l.length) (h1 : tot (l.take i) ≤ t) (h2 : t < tot (l.take i) + mt l[i]) :
    Ev (fun k => meter_Where.f k l t) ((i : Int), (t - tot (l.take i)) / l[i].f1, (t - tot (l.take i)) % l[i].f1, 0) := by
  have hs := tot_take_succ hi
  have hm := tot_take_le g.ok (i + 1)
  have hb := (tot_take_bd g.ok g.len i).1
  have ht := g.tot
  have := where_loop g hi h1 h2 (by omega) i 0 (by omega)
  simp only [List.take_zero, tot, Int.sub_zero, Int.natCast_zero] at this
  unfold meter_Where.f
  refine Ev.bind (length_good g) ?_
  simp only [if_true]
  simp only [if_neg (show ¬ (t < 0) by omega)]
  rw [show decide (t ≥ tot l) = false from decide_eq_false (by omega)]
  exact Ev.step (fun k => by simp only [meter_Where.j0]; rw [if_neg (by decide)]) this
/-! ### Beats -/
def run : Nat → Int → Int → List Int
  | 0, _, _ => []
  | n + 1, a, u => a :: run n (a + u) u
/-- the ticks at which the beats of a list begin, the first measure at a -/
def bts : List S45 → Int → List Int
  | [], _ => []
  | m :: l, a => run m.f0.toNat a m.f1 ++ bts l (a + mt m)
def cutp (s e : Int) (l : List Int) : List Int := l.filter fun t => decide (s ≤ t ∧ t < e)
theorem run_length (n : Nat) : ∀ a u, (run n a u).length = n := by
  induction n with
  | zero => intro a u; rfl
  | succ n ih => intro a u; simp [run, ih]
theorem bts_length {l : List S45} (ho : ∀ m ∈ l, okm m) : ∀ a, (bts l a).length ≤ 16 * l.length := by
  induction l with
  | nil => intro a; simp [bts]
  | cons m l ih =>
    intro a
    have h1 := ih (fun x hx => ho x (by simp [hx])) (a + mt m)
    obtain ⟨o1, o2, o3, o4⟩ := ho m (by simp)
    simp only [bts, List.length_append, run_length, List.length_cons]
    omega
theorem cutp_length (s e : Int) (l : List Int) : (cutp s e l).length ≤ l.length := List.length_filter_le _ _
theorem cutp_append (s e : Int) (a b : List Int) : cutp s e (a ++ b) = cutp s e a ++ cutp s e b := List.filter_append ..
theorem cutp_in {s e t : Int} (h : s ≤ t ∧ t < e) (l : List Int) : cutp s e (t :: l) = t :: cutp s e l := by
  unfold cutp; rw [List.filter_cons_of_pos (by simpa using h)]
theorem cutp_off {s e t : Int} (h : ¬ (s ≤ t ∧ t < e)) (l : List Int) : cutp s e (t :: l) = cutp s e l := by
  unfold cutp; rw [List.filter_cons_of_neg (by simpa using h)]
theorem beats_round (l : List S45) (hl : l.length ≤ 128) (i : Nat) (s e u f : Int) (hu : 1 ≤ u) (hu2 : u ≤ 96) (hf : f ≤ 16) (r : List Int × Int) (d : Nat) :
    ∀ (acc : List Int) (a b : Int), 0 ≤ a → a + d * u ≤ 8192 → 0 ≤ b → b + d = f → acc.length ≤ 10000 - d →
      Ev (fun k => meter_Beats.l0 k (acc ++ cutp s e (run d a u)) (a + d * u) l (l.length : Int) (wrap64 ((i : Int) + 1)) s e) r →
      Ev (fun k => meter_Beats.l1 k acc a l (l.length : Int) (i : Int) f b s e f u) r := by
  induction d with
  | zero =>
    intro acc a b h0 h1 h2 h3 h4 hn
    obtain rfl : b = f := by omega
    simp only [run, cutp, List.filter_nil, List.append_nil, Int.natCast_zero, Int.zero_mul, Int.add_zero] at hn
    exact Ev.step (fun k => by simp only [meter_Beats.l1]; rw [if_neg (by omega)]) hn
  | succ d ih =>
    intro acc a b h0 h1 h2 h3 h4 hn
    have h5 : ((d + 1 : Nat) : Int) * u = d * u + u := by rw [Int.natCast_add, Int.add_mul]; simp
    have h6 : (0 : Int) ≤ d * u := Int.mul_nonneg (by omega) (by omega)
    rw [h5] at h1 hn
    rw [show a + (↑d * u + u) = a + u + ↑d * u by omega] at hn
    by_cases hc : s ≤ a ∧ a < e
    · rw [run, cutp_in hc, List.append_cons] at hn
      have := ih (acc ++ [a]) (a + u) (b + 1) (by omega) (by omega) (by omega) (by omega) (by simp; omega) hn
      refine Ev.step (fun k => ?_) this
      simp only [meter_Beats.l1]
      rw [if_pos (by omega), if_pos (by omega), if_pos (by omega), if_pos (by omega), w64 (n := a + u) (by omega) (by omega), w64 (n := b + 1) (by omega) (by omega)]
    · rw [run, cutp_off hc] at hn
      have := ih acc (a + u) (b + 1) (by omega) (by omega) (by omega) (by omega) (by omega) hn
      refine Ev.step (fun k => ?_) this
      simp only [meter_Beats.l1]
      rw [if_pos (by omega), w64 (n := a + u) (by omega) (by omega), w64 (n := b + 1) (by omega) (by omega)]
      by_cases hs : a ≥ s
      · rw [if_pos hs, if_neg (by omega)]
      · rw [if_neg hs]
theorem beats_loop {l : List S45} (g : Good l) (s e : Int) (d : Nat) : ∀ (i : Nat) (acc : List Int), i + d = l.length → acc.length ≤ 16 * i →
    Ev (fun k => meter_Beats.l0 k acc (tot (l.take i)) l (l.length : Int) (i : Int) s e) (acc ++ cutp s e (bts (l.drop i) (tot (l.take i))), 0) := by
  have hl := g.len
  induction d with
  | zero =>
    intro i acc hi ha
    rw [show l.drop i = [] from by rw [List.drop_eq_nil_iff]; omega]
    simp only [bts, cutp, List.filter_nil, List.append_nil]
    refine Ev.step (f := fun _ => some (acc, 0)) (fun k => ?_) (Ev.now _)
    simp only [meter_Beats.l0]
    rw [if_neg (by omega)]
  | succ d ih =>
    intro i acc hi ha
    have hlt : i < l.length := by omega
    obtain ⟨o1, o2, o3, o4⟩ := g.ok l[i] (List.getElem_mem hlt)
    have hs := tot_take_succ hlt
    have hm := tot_take_le g.ok (i + 1)
    have ht := g.tot
    have hb := (tot_take_bd g.ok g.len i).1
    have hcl := cutp_length s e (run l[i].f0.toNat (tot (l.take i)) l[i].f1)
    rw [run_length] at hcl
    have := ih (i + 1) (acc ++ cutp s e (run l[i].f0.toNat (tot (l.take i)) l[i].f1)) (by omega) (by simp only [List.length_append]; omega)
    rw [hs] at this
    rw [drop_at hlt, bts, cutp_append, ← List.append_assoc]
    have hmt : ((l[i].f0.toNat : Nat) : Int) * l[i].f1 = mt l[i] := by unfold mt; rw [Int.toNat_of_nonneg (by omega)]
    have := beats_round l hl i s e l[i].f1 l[i].f0 o3 o4 o2 _ l[i].f0.toNat acc (tot (l.take i)) 0 hb (by rw [hmt]; omega) (by omega) (by omega) (by omega) (by rw [hmt, wnat (n := 128) (i := i) (by omega) (by omega)]; exact this)
    refine Ev.step (fun k => ?_) this
    simp only [meter_Beats.l0]
    rw [if_pos (by omega), if_pos (by omega), if_pos (by omega), rd_at hlt]
theorem beats_bad {l : List S45} (h : chk l ≠ 0) (s e : Int) : Ev (fun k => meter_Beats.f k l s e) ([], chk l) := by
  unfold meter_Beats.f
  refine Ev.bind (length_bad h) ?_
  simp only [if_neg h]
  exact Ev.now _
theorem beats_out {l : List S45} (g : Good l) {s e : Int} (h : s < 0 ∨ e < s ∨ tot l < e) : Ev (fun k => meter_Beats.f k l s e) ([], 1) := by
  unfold meter_Beats.f
  refine Ev.bind (length_good g) ?_
  simp only [if_true]
  have hj : Ev (fun k => meter_Beats.j0 k l true s e) ([], 1) := Ev.step (f := fun _ => some ([], 1)) (fun k => by simp only [meter_Beats.j0]; rw [if_pos trivial]) (Ev.now _)
  by_cases h1 : s < 0
  · simp only [if_pos h1]
    exact hj
  · by_cases h2 : s > e
    · simp only [if_neg h1, if_pos h2]
      exact hj
    · simp only [if_neg h1, if_neg h2]
      rw [show decide (e > tot l) = true from decide_eq_true (by omega)]
      exact hj
theorem beats_in {l : List S45} (g : Good l) {s e : Int} (h0 : 0 ≤ s) (h1 : s ≤ e) (h2 : e ≤ tot l) : Ev (fun k => meter_Beats.f k l s e) (cutp s e (bts l 0), 0) := by
  unfold meter_Beats.f
  refine Ev.bind (length_good g) ?_
  simp only [if_true]
  have := beats_loop g s e l.length 0 [] (by omega) (by simp)
  simp only [List.drop_zero, List.take_zero, tot, List.nil_append, Int.natCast_zero] at this
  simp only [if_neg (show ¬ (s < 0) by omega), if_neg (show ¬ (s > e) by omega)]
  rw [show decide (e > tot l) = false from decide_eq_false (by omega)]
  exact Ev.step (fun k => by simp only [meter_Beats.j0]; rw [if_neg (by decide)]) this
/-! ### which ticks begin a beat -/
theorem run_mem (n : Nat) : ∀ (a u x : Int), x ∈ run n a u ↔ ∃ q : Nat, q < n ∧ x = a + q * u := by
  induction n with
  | zero => intro a u x; simp [run]
  | succ n ih =>
    intro a u x
    rw [run, List.mem_cons, ih]
    constructor
    · rintro (rfl | ⟨q, hq, rfl⟩)
      · exact ⟨0, by omega, by simp⟩
      · exact ⟨q + 1, by omega, by rw [Int.natCast_add, Int.add_mul]; simp; omega⟩
    · rintro ⟨q, hq, rfl⟩
      cases q with
      | zero => left; simp
      | succ q => right; exact ⟨q, by omega, by rw [Int.natCast_add, Int.add_mul]; simp; omega⟩
theorem bts_mem (l : List S45) (ho : ∀ m ∈ l, okm m) : ∀ (a x : Int), x ∈ bts l a ↔ ∃ i, ∃ h : i < l.length, ∃ q : Nat, (q : Int) < l[i].f0 ∧ x = a + tot (l.take i) + q * l[i].f1 := by
  induction l with
  | nil => intro a x; simp [bts]
  | cons m l ih =>
    intro a x
    obtain ⟨o1, o2, o3, o4⟩ := ho m (by simp)
    rw [bts, List.mem_append, run_mem, ih (fun x hx => ho x (by simp [hx]))]
    constructor
    · rintro (⟨q, hq, rfl⟩ | ⟨i, h, q, hq, rfl⟩)
      · exact ⟨0, by simp, q, by simp only [List.getElem_cons_zero]; omega, by simp [tot]⟩
      · exact ⟨i + 1, by simpa using h, q, by simpa using hq, by simp only [List.take_succ_cons, tot, List.getElem_cons_succ]; omega⟩
    · rintro ⟨i, h, q, hq, rfl⟩
      cases i with
      | zero => left; exact ⟨q, by simp only [List.getElem_cons_zero] at hq; omega, by simp [tot]⟩
      | succ i => right; exact ⟨i, by simpa using h, q, by simpa using hq, by simp only [List.take_succ_cons, tot, List.getElem_cons_succ]; omega⟩
theorem bts_bd {l : List S45} (ho : ∀ m ∈ l, okm m) {a x : Int} (h : x ∈ bts l a) : a ≤ x ∧ x < a + tot l := by
  obtain ⟨i, hi, q, hq, rfl⟩ := (bts_mem l ho a x).1 h
  obtain ⟨o1, o2, o3, o4⟩ := ho l[i] (List.getElem_mem hi)
  have h1 := tot_take_succ hi
  have h2 := tot_take_le ho (i + 1)
  have h3 := (tot_bd (ok_take ho i)).1
  have h4 : (0 : Int) ≤ q * l[i].f1 := Int.mul_nonneg (by omega) (by omega)
  have h5 : (q : Int) * l[i].f1 + l[i].f1 ≤ mt l[i] := by
    have : ((q : Int) + 1) * l[i].f1 ≤ l[i].f0 * l[i].f1 := Int.mul_le_mul_of_nonneg_right (by omega) (by omega)
    rw [Int.add_mul] at this
    unfold mt
    omega
  omega
theorem run_sorted (n : Nat) : ∀ (a u : Int), 1 ≤ u → (run n a u).Pairwise (· < ·) := by
  induction n with
  | zero => intro a u hu; exact List.Pairwise.nil
  | succ n ih =>
    intro a u hu
    rw [run, List.pairwise_cons]
    refine ⟨fun x hx => ?_, ih _ _ hu⟩
    obtain ⟨q, hq, rfl⟩ := (run_mem n _ _ _).1 hx
    have : (0 : Int) ≤ q * u := Int.mul_nonneg (by omega) (by omega)
    omega
theorem bts_sorted (l : List S45) (ho : ∀ m ∈ l, okm m) : ∀ a : Int, (bts l a).Pairwise (· < ·) := by
  induction l with
  | nil => intro a; exact List.Pairwise.nil
  | cons m l ih =>
    intro a
    obtain ⟨o1, o2, o3, o4⟩ := ho m (by simp)
    rw [bts, List.pairwise_append]
    refine ⟨run_sorted _ _ _ o3, ih (fun x hx => ho x (by simp [hx])) _, fun x hx y hy => ?_⟩
    obtain ⟨q, hq, rfl⟩ := (run_mem _ _ _ _).1 hx
    have h1 := (bts_bd (fun x hx => ho x (by simp [hx])) hy).1
    have h2 : ((q : Int) + 1) * m.f1 ≤ m.f0 * m.f1 := Int.mul_le_mul_of_nonneg_right (by omega) (by omega)
    rw [Int.add_mul] at h2
    unfold mt at h1
    omega
def sumb : List S45 → Int
  | [] => 0
  | m :: l => m.f0 + sumb l
theorem bts_count (l : List S45) (ho : ∀ m ∈ l, okm m) : ∀ a : Int, ((bts l a).length : Int) = sumb l := by
  induction l with
  | nil => intro a; rfl
  | cons m l ih =>
    intro a
    obtain ⟨o1, o2, o3, o4⟩ := ho m (by simp)
    have := ih (fun x hx => ho x (by simp [hx])) (a + mt m)
    simp only [bts, List.length_append, run_length, sumb]
    omega
theorem cutp_mem {s e x : Int} {l : List Int} : x ∈ cutp s e l ↔ x ∈ l ∧ s ≤ x ∧ x < e := by unfold cutp; simp
theorem cutp_all {l : List S45} (ho : ∀ m ∈ l, okm m) : cutp 0 (tot l) (bts l 0) = bts l 0 := by
  unfold cutp
  rw [List.filter_eq_self]
  intro x hx
  have := bts_bd ho hx
  simp; omega
/-- Where at a tick at which a beat begins -/
theorem where_beat {l : List S45} (g : Good l) {x : Int} (h : x ∈ bts l 0) : ∃ i b : Int, Ev (fun k => meter_Where.f k l x) (i, b, 0, 0) := by
  obtain ⟨i, hi, q, hq, rfl⟩ := (bts_mem l g.ok 0 x).1 h
  obtain ⟨o1, o2, o3, o4⟩ := g.ok l[i] (List.getElem_mem hi)
  have h4 : (0 : Int) ≤ q * l[i].f1 := Int.mul_nonneg (by omega) (by omega)
  have h5 : (q : Int) * l[i].f1 + l[i].f1 ≤ mt l[i] := by
    have : ((q : Int) + 1) * l[i].f1 ≤ l[i].f0 * l[i].f1 := Int.mul_le_mul_of_nonneg_right (by omega) (by omega)
    rw [Int.add_mul] at this
    unfold mt
    omega
  have := where_in g (t := 0 + tot (l.take i) + q * l[i].f1) hi (by omega) (by omega)
  rw [show 0 + tot (l.take i) + q * l[i].f1 - tot (l.take i) = q * l[i].f1 by omega, Int.mul_emod_left] at this
  exact ⟨_, _, this⟩
/-- Where at any tick: it tells whether a beat begins there -/
theorem where_tells {l : List S45} (g : Good l) (x : Int) : ∃ i b r e : Int, Ev (fun k => meter_Where.f k l x) (i, b, r, e) ∧ ((e = 0 ∧ r = 0) ↔ x ∈ bts l 0) := by
  by_cases ht : 0 ≤ x ∧ x < tot l
  · obtain ⟨i, hi, a, b⟩ := find_measure l g.ok ht.1 ht.2
    refine ⟨_, _, _, _, where_in g hi a b, ?_⟩
    obtain ⟨o1, o2, o3, o4⟩ := g.ok l[i] (List.getElem_mem hi)
    obtain ⟨q0, q1, r0, r1, e⟩ := qr (a := x - tot (l.take i)) (u := l[i].f1) (b := l[i].f0) (by omega) o3 (by unfold mt at b; omega)
    constructor
    · rintro ⟨_, h⟩
      refine (bts_mem l g.ok 0 x).2 ⟨i, hi, ((x - tot (l.take i)) / l[i].f1).toNat, by omega, ?_⟩
      rw [Int.toNat_of_nonneg q0]
      omega
    · intro h
      obtain ⟨i', b', h'⟩ := where_beat g h
      have := where_in g hi a b
      obtain ⟨K1, k1⟩ := h'
      obtain ⟨K2, k2⟩ := this
      have e1 := k1 (K1 + K2) (by omega)
      have e2 := k2 (K1 + K2) (by omega)
      rw [e1] at e2
      simp only [Option.some.injEq, Prod.mk.injEq] at e2
      exact ⟨rfl, e2.2.2.1.symm⟩
  · refine ⟨_, _, _, _, where_out g (by omega), ?_⟩
    constructor
    · rintro ⟨h, _⟩; omega
    · intro h
      have := bts_bd g.ok h
      omega
/-! ### the chapter's examples -/
theorem awake_ev : Ev (fun k => dancestudiolaw13_awake.f k) true := Ev.of (fun k => dancestudiolaw13_awake.mono k) (k := 60) (by kernel_rfl)
theorem rd_int {l : List Int} {i : Nat} (h : i < l.length) : rd l (i : Int) = l[i] := by
  unfold rd
  simp [List.getD_eq_getElem?_getD, h]
theorem sum_loop {l : List S45} (g : Good l) (all : List Int) (ha : (all.length : Int) = sumb l) (d : Nat) : ∀ (i : Nat) (acc : Int), i + d = l.length → 0 ≤ acc → acc ≤ 16 * i → acc + sumb (l.drop i) = sumb l →
    Ev (fun k => dancestudiolaw13_MeterBeats.l1 k l 0 all acc (i : Int)) true := by
  have hl := g.len
  induction d with
  | zero =>
    intro i acc hi h0 h1 h2
    rw [show l.drop i = [] from by rw [List.drop_eq_nil_iff]; omega] at h2
    simp only [sumb] at h2
    have : Ev (fun k => (dancestudiolaw13_awake.f k).bind fun t => some t) true := Ev.bind awake_ev (Ev.now _)
    refine Ev.step (fun k => ?_) this
    simp only [dancestudiolaw13_MeterBeats.l1]
    rw [if_neg (by omega), if_pos trivial, if_pos (by omega)]
  | succ d ih =>
    intro i acc hi h0 h1 h2
    have hlt : i < l.length := by omega
    obtain ⟨o1, o2, o3, o4⟩ := g.ok l[i] (List.getElem_mem hlt)
    rw [drop_at hlt] at h2
    simp only [sumb] at h2
    have := ih (i + 1) (acc + l[i].f0) (by omega) (by omega) (by push_cast; omega) (by omega)
    refine Ev.step (fun k => ?_) this
    simp only [dancestudiolaw13_MeterBeats.l1]
    rw [if_pos (by omega), if_pos (by omega), rd_at hlt, w64 (by omega) (by omega), wnat (n := 128) (i := i) (by omega) (by omega)]
theorem beats_j2 {l : List S45} (g : Good l) : Ev (fun k => dancestudiolaw13_MeterBeats.j2 k l (tot l) false) true := by
  have ht := (tot_bd g.ok).1
  have := beats_in g (s := 0) (e := tot l) (by omega) (by omega) (by omega)
  rw [cutp_all g.ok] at this
  have h2 := sum_loop g (bts l 0) (bts_count l g.ok 0) l.length 0 0 (by omega) (by omega) (by omega) (by simp)
  simp only [Int.natCast_zero] at h2
  exact Ev.step (fun k => by simp only [dancestudiolaw13_MeterBeats.j2]; rw [if_neg (by decide)]) (Ev.bind this h2)
theorem beats_law_loop {l : List S45} (g : Good l) (x s e : Int) (B : List Int) (hB : B = cutp s e (bts l 0)) (d : Nat) :
    ∀ (i : Nat) (found : Bool), i + d = B.length → (found = true ↔ x ∈ B.take i) → Ev (fun k => dancestudiolaw13_MeterBeats.l0 k l x B (tot l) found (i : Int) s e) true := by
  have hlen : B.length ≤ 16 * l.length := by rw [hB]; exact Nat.le_trans (cutp_length _ _ _) (bts_length g.ok 0)
  have hl := g.len
  have hso : B.Pairwise (· < ·) := by rw [hB]; exact (bts_sorted l g.ok 0).filter _
  induction d with
  | zero =>
    intro i found hi hf
    rw [List.take_of_length_le (by omega), hB, cutp_mem] at hf
    obtain ⟨i', b', r', e', hw, hiff⟩ := where_tells g x
    have : Ev (fun k => (meter_Where.f k l x).bind fun bt => (if bt.2.2.2 = 0 then (if bt.2.2.1 = 0 then (if x ≥ s then (dancestudiolaw13_MeterBeats.j2 k l (tot l) ((decide (x < e)) != found)) else (dancestudiolaw13_MeterBeats.j2 k l (tot l) (false != found))) else (dancestudiolaw13_MeterBeats.j2 k l (tot l) (false != found))) else (dancestudiolaw13_MeterBeats.j2 k l (tot l) (false != found)))) true := by
      refine Ev.bind hw ?_
      have hneg : ¬ (x ∈ bts l 0 ∧ s ≤ x ∧ x < e) → (false != found) = false := by
        intro h
        have : found = false := by
          cases found with
          | false => rfl
          | true => exact absurd (hf.1 rfl) h
        rw [this]; rfl
      by_cases h1 : e' = 0
      · by_cases h2 : r' = 0
        · have hx := hiff.1 ⟨h1, h2⟩
          by_cases h3 : x ≥ s
          · have : ((decide (x < e)) != found) = false := by
              by_cases h4 : x < e
              · rw [hf.2 ⟨hx, h3, h4⟩, decide_eq_true h4]; rfl
              · have := hneg (by omega)
                rw [decide_eq_false h4]; exact this
            simp only [if_pos h1, if_pos h2, if_pos h3, this]
            exact beats_j2 g
          · simp only [if_pos h1, if_pos h2, if_neg h3, hneg (by omega)]
            exact beats_j2 g
        · simp only [if_pos h1, if_neg h2, hneg (fun h => h2 (hiff.2 h.1).2)]
          exact beats_j2 g
      · simp only [if_neg h1, hneg (fun h => h1 (hiff.2 h.1).1)]
        exact beats_j2 g
    refine Ev.step (fun k => ?_) this
    simp only [dancestudiolaw13_MeterBeats.l0]
    rw [if_neg (by omega)]
  | succ d ih =>
    intro i found hi hf
    have hlt : i < B.length := by omega
    have hm : B[i] ∈ cutp s e (bts l 0) := by rw [← hB]; exact List.getElem_mem hlt
    obtain ⟨m1, m2, m3⟩ := cutp_mem.1 hm
    obtain ⟨i', b', hw⟩ := where_beat g m1
    have hnext : ∀ f' : Bool, (f' = true ↔ (found = true ∨ B[i] = x)) → Ev (fun k => dancestudiolaw13_MeterBeats.l0 k l x B (tot l) f' (wrap64 ((i : Int) + 1)) s e) true := by
      intro f' h
      rw [wnat (n := B.length) (by omega) (by omega)]
      refine ih (i + 1) f' (by omega) ?_
      rw [h, hf, List.take_succ_eq_append_getElem hlt, List.mem_append, List.mem_singleton]
      exact ⟨fun h => h.imp id Eq.symm, fun h => h.imp id Eq.symm⟩
    have hor : Ev (fun k => if found = true then (dancestudiolaw13_MeterBeats.l0 k l x B (tot l) true (wrap64 ((i : Int) + 1)) s e) else (dancestudiolaw13_MeterBeats.l0 k l x B (tot l) (B[i] == x) (wrap64 ((i : Int) + 1)) s e)) true := by
      by_cases h : found = true
      · simp only [if_pos h]
        exact hnext true (by simp [h])
      · simp only [if_neg h]
        exact hnext _ (by simp [h])
    have : Ev (fun k => (meter_Where.f k l B[i]).bind fun bt => if bt.2.2.2 = 0 then (if bt.2.2.1 = 0 then (if found = true then (dancestudiolaw13_MeterBeats.l0 k l x B (tot l) true (wrap64 ((i : Int) + 1)) s e) else (dancestudiolaw13_MeterBeats.l0 k l x B (tot l) (B[i] == x) (wrap64 ((i : Int) + 1)) s e)) else some false) else some false) true := by
      refine Ev.bind hw ?_
      simp only [if_true]
      exact hor
    refine Ev.step (fun k => ?_) this
    simp only [dancestudiolaw13_MeterBeats.l0]
    rw [if_pos (by omega), if_pos (by omega), rd_int hlt]
    simp only [if_neg (show ¬ B[i] < s by omega), if_neg (show ¬ B[i] ≥ e by omega)]
    by_cases h0 : i = 0
    · simp only [if_neg (show ¬ ((i : Int) > 0) by omega)]
    · have hp : B[i - 1] < B[i] := List.pairwise_iff_getElem.1 hso (i - 1) i (by omega) hlt (by omega)
      have e1 : wrap64 ((i : Int) - 1) = ((i - 1 : Nat) : Int) := by rw [w64 (by omega) (by omega)]; omega
      rw [e1, rd_int (by omega)]
      simp only [if_pos (show (i : Int) > 0 by omega), if_pos (show (0 : Int) ≤ ((i - 1 : Nat) : Int) by omega), if_pos (show ((i - 1 : Nat) : Int) < (B.length : Int) by omega), if_neg (show ¬ B[i - 1] ≥ B[i] by omega)]
/-- MeterBeats returns true, for every list, span and tick. -/
theorem pure_MeterBeats (l : List S45) (_ : l.length * 16 ≤ 140737488351232) (s : Int) (_ : (Lit.int .i64 s).wf = true) (e : Int) (_ : (Lit.int .i64 e).wf = true) (x : Int) (_ : (Lit.int .i64 x).wf = true) :
    ∃ k, dancestudiolaw13_MeterBeats.f k l s e x = some true := by
  refine Ev.rounds (g := fun k => dancestudiolaw13_MeterBeats.f k l s e x) ?_
  have hbad : ∀ c : Int, c ≠ 0 → Ev (fun k => meter_Beats.f k l s e) ([], c) → Ev (fun k => dancestudiolaw13_MeterBeats.f k l s e x) true := by
    intro c hc hb
    unfold dancestudiolaw13_MeterBeats.f
    refine Ev.bind hb ?_
    simp only [if_neg hc, List.length_nil, Int.natCast_zero, if_true]
    exact Ev.bind awake_ev (Ev.now _)
  by_cases h : chk l = 0
  · have g := chk_good h
    by_cases hs : 0 ≤ s ∧ s ≤ e ∧ e ≤ tot l
    · unfold dancestudiolaw13_MeterBeats.f
      refine Ev.bind (beats_in g hs.1 hs.2.1 hs.2.2) ?_
      simp only [if_true]
      refine Ev.bind (length_good g) ?_
      simp only [if_true, if_neg (show ¬ s < 0 by omega), if_neg (show ¬ s > e by omega)]
      rw [show decide (e > tot l) = false from decide_eq_false (by omega)]
      have := beats_law_loop g x s e _ rfl (cutp s e (bts l 0)).length 0 false (by omega) (by simp)
      simp only [Int.natCast_zero] at this
      exact Ev.step (fun k => by simp only [dancestudiolaw13_MeterBeats.j0]; rw [if_neg (by decide)]) this
    · exact hbad 1 (by decide) (beats_out g (by omega))
  · exact hbad _ h (beats_bad h s e)
end Go.Proofs.Ytepocdjaedddcaa.PMeterBeats
