/- Plain lemmas on the functions that the law MeterParts reaches: no memory and no Go in them. -/
import Derived.Test.YtepocdjaedddcaaPMeterPartsx
set_option linter.unusedVariables false
namespace Go.Proofs.Ytepocdjaedddcaa.PMeterParts
open Go.RowKit Go.Proofs.YtepocdjaedddcaaW.PrintWords Go.Proofs.YtepocdjaedddcaaW.PrintLast Go.Proofs.YtepocdjaedddcaaW.PrintMore
/-! ### numbers and lists -/
theorem w64 {n : Int} (h : -9223372036854775808 ≤ n) (h2 : n ≤ 9223372036854775807) : wrap64 n = n := by unfold wrap64; omega
theorem wnat {i n : Nat} (h : i < n) (hn : n ≤ 9223372036854775807) : wrap64 ((i : Int) + 1) = ((i + 1 : Nat) : Int) := by unfold wrap64; omega
def mt (m : S45) : Int := m.f0 * m.f1
def okm (m : S45) : Prop := 1 ≤ m.f0 ∧ m.f0 ≤ 16 ∧ 1 ≤ m.f1 ∧ m.f1 ≤ 96
instance (m : S45) : Decidable (okm m) := by unfold okm; infer_instance
theorem mt_bd {m : S45} (h : okm m) : 1 ≤ mt m ∧ mt m ≤ 1536 := by
  obtain ⟨h1, h2, h3, h4⟩ := h
  unfold mt
  obtain h | h | h | h | h | h | h | h | h | h | h | h | h | h | h | h : m.f0 = 1 ∨ m.f0 = 2 ∨ m.f0 = 3 ∨ m.f0 = 4 ∨ m.f0 = 5 ∨ m.f0 = 6 ∨ m.f0 = 7 ∨ m.f0 = 8 ∨ m.f0 = 9 ∨ m.f0 = 10 ∨ m.f0 = 11 ∨ m.f0 = 12 ∨ m.f0 = 13 ∨ m.f0 = 14 ∨ m.f0 = 15 ∨ m.f0 = 16 := by omega
  all_goals rw [h]; omega
def tot : List S45 → Int
  | [] => 0
  | m :: l => mt m + tot l
theorem tot_append (a b : List S45) : tot (a ++ b) = tot a + tot b := by
  induction a with
  | nil => simp [tot]
  | cons m a ih => simp [tot, ih]; omega
theorem tot_bd {l : List S45} (h : ∀ m ∈ l, okm m) : (l.length : Int) ≤ tot l ∧ tot l ≤ 1536 * l.length := by
  induction l with
  | nil => simp [tot]
  | cons m l ih =>
    have h1 := mt_bd (h m (by simp))
    have h2 := ih (fun x hx => h x (by simp [hx]))
    simp only [tot, List.length_cons]
    omega
theorem rd_at {l : List S45} {i : Nat} (h : i < l.length) : rd_T45 l (i : Int) = l[i] := by
  unfold rd_T45
  simp [List.getD_eq_getElem?_getD, h]
theorem drop_at {l : List S45} {i : Nat} (h : i < l.length) : l.drop i = l[i] :: l.drop (i + 1) := List.drop_eq_getElem_cons h
theorem take_at {l : List S45} {i : Nat} (h : i < l.length) : l.take (i + 1) = l.take i ++ [l[i]] := by
  rw [List.take_succ_eq_append_getElem h]
theorem tot_take_succ {l : List S45} {i : Nat} (h : i < l.length) : tot (l.take (i + 1)) = tot (l.take i) + mt l[i] := by
  rw [take_at h, tot_append]; simp [tot]
theorem ok_take {l : List S45} (h : ∀ m ∈ l, okm m) (i : Nat) : ∀ m ∈ l.take i, okm m := fun m hm => h m (List.mem_of_mem_take hm)
theorem tot_take_bd {l : List S45} (h : ∀ m ∈ l, okm m) (hl : l.length ≤ 128) (i : Nat) : 0 ≤ tot (l.take i) ∧ tot (l.take i) ≤ 196608 := by
  have h1 := tot_bd (ok_take h i)
  have h2 := List.length_take_le i l
  have h3 : (l.take i).length ≤ l.length := List.length_take_le' i l
  omega
theorem tot_take_le {l : List S45} (h : ∀ m ∈ l, okm m) (i : Nat) : tot (l.take i) ≤ tot l := by
  have h1 := tot_append (l.take i) (l.drop i)
  rw [List.take_append_drop] at h1
  have h2 := tot_bd (l := l.drop i) (fun m hm => h m (List.mem_of_mem_drop hm))
  omega
theorem tot_take_mono {l : List S45} (h : ∀ m ∈ l, okm m) {i j : Nat} (hij : i ≤ j) : tot (l.take i) ≤ tot (l.take j) := by
  have := tot_take_le (ok_take h j) i
  rwa [List.take_take, Nat.min_eq_left hij] at this

/-! ### Check -/
/-- what Check says of a list -/
def chk (l : List S45) : Int :=
  if l.length = 0 then 4 else if 128 < l.length then 3 else if ∀ m ∈ l, okm m then (if 8192 < tot l then 3 else 0) else 1
/-- a list that Check lets by -/
structure Good (l : List S45) : Prop where
  pos : 0 < l.length
  len : l.length ≤ 128
  ok : ∀ m ∈ l, okm m
  tot : tot l ≤ 8192
theorem chk_good {l : List S45} (h : chk l = 0) : Good l := by
  unfold chk at h
  by_cases h1 : l.length = 0
  · rw [if_pos h1] at h; omega
  · rw [if_neg h1] at h
    by_cases h2 : 128 < l.length
    · rw [if_pos h2] at h; omega
    · rw [if_neg h2] at h
      by_cases h3 : ∀ m ∈ l, okm m
      · rw [if_pos h3] at h
        by_cases h4 : 8192 < tot l
        · rw [if_pos h4] at h; omega
        · exact ⟨by omega, by omega, h3, by omega⟩
      · rw [if_neg h3] at h; omega
theorem good_chk {l : List S45} (g : Good l) : chk l = 0 := by
  have := g.pos; have := g.len; have := g.tot
  unfold chk
  rw [if_neg (by omega), if_neg (by omega), if_pos g.ok, if_neg (by omega)]
theorem not_good {l : List S45} (h : chk l ≠ 0) : ¬ Good l := fun g => h (good_chk g)
theorem ok_all_drop {l : List S45} {i : Nat} (h : i < l.length) : (∀ m ∈ l.drop i, okm m) ↔ okm l[i] ∧ ∀ m ∈ l.drop (i + 1), okm m := by
  rw [drop_at h, List.forall_mem_cons]
/-- a bad element decides -/
theorem bad_split {m : S45} (h : ¬ okm m) : m.f0 < 1 ∨ (¬ m.f0 < 1 ∧ m.f0 > 16) ∨ (¬ m.f0 < 1 ∧ ¬ m.f0 > 16 ∧ m.f1 < 1) ∨ (¬ m.f0 < 1 ∧ ¬ m.f0 > 16 ∧ ¬ m.f1 < 1 ∧ m.f1 > 96) := by
  unfold okm at h; omega

theorem check_loop (l : List S45) (hl : l.length ≤ 128) (d : Nat) : ∀ (i : Nat) (acc : Int), i + d = l.length → 0 ≤ acc → acc ≤ 1536 * i →
    Ev (fun k => meter_Check.l0 k acc l (l.length : Int) (i : Int)) (if ∀ m ∈ l.drop i, okm m then (if 8192 < acc + tot (l.drop i) then 3 else 0) else 1) := by
  induction d with
  | zero =>
    intro i acc hi h0 h1
    rw [show l.drop i = [] from by rw [List.drop_eq_nil_iff]; omega]
    refine Ev.step (f := fun _ => some (if 8192 < acc then 3 else 0)) (fun k => ?_) ?_
    · simp only [meter_Check.l0]
      rw [if_neg (by omega)]
      by_cases h : 8192 < acc
      · rw [if_pos h, if_pos h]
      · rw [if_neg h, if_neg h]
    · simp only [tot]
      exact Ev.now _ |> fun h => by simpa using h
  | succ d ih =>
    intro i acc hi h0 h1
    have hlt : i < l.length := by omega
    by_cases hok : okm l[i]
    · have hb := mt_bd hok
      have := ih (i + 1) (acc + mt l[i]) (by omega) (by omega) (by push_cast; omega)
      have e1 : (∀ m ∈ l.drop i, okm m) ↔ ∀ m ∈ l.drop (i + 1), okm m := by rw [ok_all_drop hlt]; exact ⟨fun h => h.2, fun h => ⟨hok, h⟩⟩
      have e2 : acc + tot (l.drop i) = acc + mt l[i] + tot (l.drop (i + 1)) := by rw [drop_at hlt]; simp only [tot]; omega
      rw [e2]
      simp only [e1]
      refine Ev.step (fun k => ?_) this
      simp only [meter_Check.l0]
      obtain ⟨o1, o2, o3, o4⟩ := hok
      rw [rd_at hlt, if_pos (by omega), if_pos (by omega), if_pos (by omega), if_neg (by omega), if_neg (by omega), if_neg (by omega), if_neg (by omega)]
      have e3 : wrap64 (l[i].f0 * l[i].f1) = mt l[i] := by unfold mt at hb ⊢; exact w64 (by omega) (by omega)
      rw [e3, w64 (by omega) (by omega), wnat (n := 128) (by omega) (by omega)]
    · have e1 : ¬ ∀ m ∈ l.drop i, okm m := by rw [ok_all_drop hlt]; exact fun h => hok h.1
      rw [if_neg e1]
      refine Ev.step (f := fun _ => some 1) (fun k => ?_) (Ev.now 1)
      simp only [meter_Check.l0]
      rw [rd_at hlt, if_pos (by omega), if_pos (by omega), if_pos (by omega)]
      rcases bad_split hok with h | ⟨h, g⟩ | ⟨h, g, e⟩ | ⟨h, g, e, f⟩
      · rw [if_pos h]
      · rw [if_neg h, if_pos g]
      · rw [if_neg h, if_neg g, if_pos e]
      · rw [if_neg h, if_neg g, if_neg e, if_pos f]
theorem check_ev (l : List S45) : Ev (fun k => meter_Check.f k l) (chk l) := by
  unfold chk
  by_cases h1 : l.length = 0
  · rw [if_pos h1]
    refine Ev.congr (f := fun _ => some 4) (fun k => ?_) (Ev.now 4)
    unfold meter_Check.f
    rw [if_pos (by omega)]
  · rw [if_neg h1]
    by_cases h2 : 128 < l.length
    · rw [if_pos h2]
      refine Ev.congr (f := fun _ => some 3) (fun k => ?_) (Ev.now 3)
      unfold meter_Check.f
      rw [if_neg (by omega), if_pos (by omega)]
    · rw [if_neg h2]
      have := check_loop l (by omega) l.length 0 0 (by omega) (by omega) (by omega)
      simp only [List.drop_zero, Int.zero_add] at this
      refine Ev.congr (fun k => ?_) this
      unfold meter_Check.f
      rw [if_neg (by omega), if_neg (by omega)]
      rfl
/-! ### begin, Length -/
theorem begin_loop (l : List S45) (ho : ∀ m ∈ l, okm m) (hl : l.length ≤ 128) (d : Nat) : ∀ (i : Nat) (acc : Int), i + d = l.length → 0 ≤ acc → acc ≤ 1536 * i →
    Ev (fun k => meter_begin.l0 k acc l (l.length : Int) (i : Int)) (acc + tot (l.drop i)) := by
  induction d with
  | zero =>
    intro i acc hi h0 h1
    rw [show l.drop i = [] from by rw [List.drop_eq_nil_iff]; omega]
    refine Ev.step (f := fun _ => some acc) (fun k => ?_) ?_
    · simp only [meter_begin.l0]
      rw [if_neg (by omega)]
    · simp only [tot, Int.add_zero]; exact Ev.now _
  | succ d ih =>
    intro i acc hi h0 h1
    have hlt : i < l.length := by omega
    have hb := mt_bd (ho l[i] (List.getElem_mem hlt))
    have := ih (i + 1) (acc + mt l[i]) (by omega) (by omega) (by push_cast; omega)
    have e2 : acc + tot (l.drop i) = acc + mt l[i] + tot (l.drop (i + 1)) := by rw [drop_at hlt]; simp only [tot]; omega
    rw [e2]
    refine Ev.step (fun k => ?_) this
    simp only [meter_begin.l0]
    rw [rd_at hlt, if_pos (by omega), if_pos (by omega), if_pos (by omega)]
    have e3 : wrap64 (l[i].f0 * l[i].f1) = mt l[i] := by unfold mt at hb ⊢; exact w64 (by omega) (by omega)
    rw [e3, w64 (by omega) (by omega), wnat (n := 128) (by omega) (by omega)]
theorem begin_ev (l : List S45) (ho : ∀ m ∈ l, okm m) (hl : l.length ≤ 128) (i : Nat) (hi : i ≤ l.length) : Ev (fun k => meter_begin.f k l (i : Int)) (tot (l.take i)) := by
  have h3 : (l.take i).length ≤ l.length := List.length_take_le' i l
  have := begin_loop (l.take i) (ok_take ho i) (by omega) (l.take i).length 0 0 (by omega) (by omega) (by omega)
  simp only [List.drop_zero, Int.zero_add] at this
  refine Ev.congr (fun k => ?_) this
  unfold meter_begin.f
  rw [if_pos (by omega), if_pos (by omega)]
  simp only [Option.bind_some, Int.toNat_natCast]
  rfl
theorem length_good {l : List S45} (g : Good l) : Ev (fun k => meter_Length.f k l) (tot l, 0) := by
  have h1 := check_ev l
  rw [good_chk g] at h1
  have h2 := begin_ev l g.ok g.len l.length (Nat.le_refl _)
  rw [List.take_length] at h2
  unfold meter_Length.f
  refine Ev.bind h1 ?_
  simp only [if_true]
  exact Ev.bind h2 (Ev.now _)
theorem length_bad {l : List S45} (h : chk l ≠ 0) : Ev (fun k => meter_Length.f k l) (0, chk l) := by
  unfold meter_Length.f
  refine Ev.bind (check_ev l) ?_
  simp only [if_neg h]
  exact Ev.now _
/-! ### the reference: total, Check, Length -/
theorem rtotal_loop (l : List S45) (ho : ∀ m ∈ l, okm m) (hl : l.length ≤ 128) (d : Nat) : ∀ (i : Nat) (acc : Int), i + d = l.length → 0 ≤ acc → acc ≤ 1536 * i →
    Ev (fun k => dancestudioref13_total.l0 k l acc (i : Int)) (acc + tot (l.drop i)) := by
  induction d with
  | zero =>
    intro i acc hi h0 h1
    rw [show l.drop i = [] from by rw [List.drop_eq_nil_iff]; omega]
    refine Ev.step (f := fun _ => some acc) (fun k => ?_) ?_
    · simp only [dancestudioref13_total.l0]
      rw [if_neg (by omega)]
    · simp only [tot, Int.add_zero]; exact Ev.now _
  | succ d ih =>
    intro i acc hi h0 h1
    have hlt : i < l.length := by omega
    have hb := mt_bd (ho l[i] (List.getElem_mem hlt))
    have := ih (i + 1) (acc + mt l[i]) (by omega) (by omega) (by push_cast; omega)
    have e2 : acc + tot (l.drop i) = acc + mt l[i] + tot (l.drop (i + 1)) := by rw [drop_at hlt]; simp only [tot]; omega
    rw [e2]
    refine Ev.step (fun k => ?_) this
    simp only [dancestudioref13_total.l0]
    rw [rd_at hlt, if_pos (by omega), if_pos (by omega)]
    have e3 : wrap64 (l[i].f0 * l[i].f1) = mt l[i] := by unfold mt at hb ⊢; exact w64 (by omega) (by omega)
    rw [e3, w64 (by omega) (by omega), wnat (n := 128) (by omega) (by omega)]
theorem rtotal_ev (l : List S45) (ho : ∀ m ∈ l, okm m) (hl : l.length ≤ 128) : Ev (fun k => dancestudioref13_total.f k l) (tot l) := by
  have := rtotal_loop l ho hl l.length 0 0 (by omega) (by omega) (by omega)
  simp only [List.drop_zero, Int.zero_add] at this
  exact Ev.congr (fun k => rfl) this
theorem rtotal_take (l : List S45) (ho : ∀ m ∈ l, okm m) (hl : l.length ≤ 128) (i : Nat) : Ev (fun k => dancestudioref13_total.f k (l.take ((i : Int)).toNat)) (tot (l.take i)) := by
  have h3 : (l.take i).length ≤ l.length := List.length_take_le' i l
  rw [Int.toNat_natCast]
  exact rtotal_ev _ (ok_take ho i) (by omega)
theorem rcheck_loop (l : List S45) (hl : l.length ≤ 128) (d : Nat) : ∀ (i : Nat), i + d = l.length → (∀ m ∈ l.take i, okm m) →
    Ev (fun k => dancestudioref13_Check.l0 k l (i : Int)) (if ∀ m ∈ l.drop i, okm m then (if 8192 < tot l then 3 else 0) else 1) := by
  induction d with
  | zero =>
    intro i hi ht
    rw [List.take_of_length_le (by omega)] at ht
    rw [show l.drop i = [] from by rw [List.drop_eq_nil_iff]; omega]
    refine Ev.step (f := fun k => (dancestudioref13_total.f k l).bind fun t => (if t > 8192 then (some 3) else (some 0))) (fun k => ?_) (Ev.bind (rtotal_ev l ht hl) ?_)
    · simp only [dancestudioref13_Check.l0]
      rw [if_neg (by omega)]
    · by_cases h : 8192 < tot l
      · simp only [gt_iff_lt, if_pos h]; simpa using Ev.now (3 : Int)
      · simp only [gt_iff_lt, if_neg h]; simpa using Ev.now (0 : Int)
  | succ d ih =>
    intro i hi ht
    have hlt : i < l.length := by omega
    by_cases hok : okm l[i]
    · have := ih (i + 1) (by omega) (by
        intro m hm
        rw [take_at hlt, List.mem_append] at hm
        rcases hm with hm | hm
        · exact ht m hm
        · rw [List.mem_singleton.1 hm]; exact hok)
      have e1 : (∀ m ∈ l.drop i, okm m) ↔ ∀ m ∈ l.drop (i + 1), okm m := by rw [ok_all_drop hlt]; exact ⟨fun h => h.2, fun h => ⟨hok, h⟩⟩
      simp only [e1]
      refine Ev.step (fun k => ?_) this
      simp only [dancestudioref13_Check.l0]
      obtain ⟨o1, o2, o3, o4⟩ := hok
      rw [rd_at hlt, if_pos (by omega), if_pos (by omega), if_neg (by omega), if_neg (by omega), if_neg (by omega), if_neg (by omega)]
      rw [wnat (n := 128) (by omega) (by omega)]
    · have e1 : ¬ ∀ m ∈ l.drop i, okm m := by rw [ok_all_drop hlt]; exact fun h => hok h.1
      rw [if_neg e1]
      refine Ev.step (f := fun _ => some 1) (fun k => ?_) (Ev.now 1)
      simp only [dancestudioref13_Check.l0]
      rw [rd_at hlt, if_pos (by omega), if_pos (by omega)]
      rcases bad_split hok with h | ⟨h, g⟩ | ⟨h, g, e⟩ | ⟨h, g, e, f⟩
      · rw [if_pos h]
      · rw [if_neg h, if_pos g]
      · rw [if_neg h, if_neg g, if_pos e]
      · rw [if_neg h, if_neg g, if_neg e, if_pos f]
theorem rcheck_ev (l : List S45) : Ev (fun k => dancestudioref13_Check.f k l) (chk l) := by
  unfold chk
  by_cases h1 : l.length = 0
  · rw [if_pos h1]
    refine Ev.congr (f := fun _ => some 4) (fun k => ?_) (Ev.now 4)
    unfold dancestudioref13_Check.f
    rw [if_pos (by omega)]
  · rw [if_neg h1]
    by_cases h2 : 128 < l.length
    · rw [if_pos h2]
      refine Ev.congr (f := fun _ => some 3) (fun k => ?_) (Ev.now 3)
      unfold dancestudioref13_Check.f
      rw [if_neg (by omega), if_pos (by omega)]
    · rw [if_neg h2]
      have := rcheck_loop l (by omega) l.length 0 (by omega) (by simp)
      simp only [List.drop_zero] at this
      refine Ev.congr (fun k => ?_) this
      unfold dancestudioref13_Check.f
      rw [if_neg (by omega), if_neg (by omega)]
      rfl
/-! ### Beats -/
def run : Nat → Int → Int → List Int
  | 0, _, _ => []
  | n + 1, a, u => a :: run n (a + u) u
/-- the ticks at which the beats of a list begin, the first measure at a -/
def bts : List S45 → Int → List Int
  | [], _ => []
  | m :: l, a => run m.f0.toNat a m.f1 ++ bts l (a + mt m)
def cutp (s e : Int) (l : List Int) : List Int := l.filter fun t => decide (s ≤ t ∧ t < e)
theorem run_length (n : Nat) : ∀ a u, (run n a u).length = n := by
  induction n with
  | zero => intro a u; rfl
  | succ n ih => intro a u; simp [run, ih]
theorem bts_length {l : List S45} (ho : ∀ m ∈ l, okm m) : ∀ a, (bts l a).length ≤ 16 * l.length := by
  induction l with
  | nil => intro a; simp [bts]
  | cons m l ih =>
    intro a
    have h1 := ih (fun x hx => ho x (by simp [hx])) (a + mt m)
    obtain ⟨o1, o2, o3, o4⟩ := ho m (by simp)
    simp only [bts, List.length_append, run_length, List.length_cons]
    omega
theorem cutp_length (s e : Int) (l : List Int) : (cutp s e l).length ≤ l.length := List.length_filter_le _ _
theorem cutp_append (s e : Int) (a b : List Int) : cutp s e (a ++ b) = cutp s e a ++ cutp s e b := List.filter_append ..
theorem cutp_in {s e t : Int} (h : s ≤ t ∧ t < e) (l : List Int) : cutp s e (t :: l) = t :: cutp s e l := by
  unfold cutp; rw [List.filter_cons_of_pos (by simpa using h)]
theorem cutp_off {s e t : Int} (h : ¬ (s ≤ t ∧ t < e)) (l : List Int) : cutp s e (t :: l) = cutp s e l := by
  unfold cutp; rw [List.filter_cons_of_neg (by simpa using h)]
theorem beats_round (l : List S45) (hl : l.length ≤ 128) (i : Nat) (s e u f : Int) (hu : 1 ≤ u) (hu2 : u ≤ 96) (hf : f ≤ 16) (r : List Int × Int) (d : Nat) :
    ∀ (acc : List Int) (a b : Int), 0 ≤ a → a + d * u ≤ 8192 → 0 ≤ b → b + d = f → acc.length ≤ 10000 - d →
      Ev (fun k => meter_Beats.l0 k (acc ++ cutp s e (run d a u)) (a + d * u) l (l.length : Int) (wrap64 ((i : Int) + 1)) s e) r →
      Ev (fun k => meter_Beats.l1 k acc a l (l.length : Int) (i : Int) f b s e f u) r := by
  induction d with
  | zero =>
    intro acc a b h0 h1 h2 h3 h4 hn
    obtain rfl : b = f := by omega
    simp only [run, cutp, List.filter_nil, List.append_nil, Int.natCast_zero, Int.zero_mul, Int.add_zero] at hn
    exact Ev.step (fun k => by simp only [meter_Beats.l1]; rw [if_neg (by omega)]) hn
  | succ d ih =>
    intro acc a b h0 h1 h2 h3 h4 hn
    have h5 : ((d + 1 : Nat) : Int) * u = d * u + u := by rw [Int.natCast_add, Int.add_mul]; simp
    have h6 : (0 : Int) ≤ d * u := Int.mul_nonneg (by omega) (by omega)
    rw [h5] at h1 hn
    rw [show a + (↑d * u + u) = a + u + ↑d * u by omega] at hn
    by_cases hc : s ≤ a ∧ a < e
    · rw [run, cutp_in hc, List.append_cons] at hn
      have := ih (acc ++ [a]) (a + u) (b + 1) (by omega) (by omega) (by omega) (by omega) (by simp; omega) hn
      refine Ev.step (fun k => ?_) this
      simp only [meter_Beats.l1]
      rw [if_pos (by omega), if_pos (by omega), if_pos (by omega), if_pos (by omega), w64 (n := a + u) (by omega) (by omega), w64 (n := b + 1) (by omega) (by omega)]
    · rw [run, cutp_off hc] at hn
      have := ih acc (a + u) (b + 1) (by omega) (by omega) (by omega) (by omega) (by omega) hn
      refine Ev.step (fun k => ?_) this
      simp only [meter_Beats.l1]
      rw [if_pos (by omega), w64 (n := a + u) (by omega) (by omega), w64 (n := b + 1) (by omega) (by omega)]
      by_cases hs : a ≥ s
      · rw [if_pos hs, if_neg (by omega)]
      · rw [if_neg hs]
theorem beats_loop {l : List S45} (g : Good l) (s e : Int) (d : Nat) : ∀ (i : Nat) (acc : List Int), i + d = l.length → acc.length ≤ 16 * i →
    Ev (fun k => meter_Beats.l0 k acc (tot (l.take i)) l (l.length : Int) (i : Int) s e) (acc ++ cutp s e (bts (l.drop i) (tot (l.take i))), 0) := by
  have hl := g.len
  induction d with
  | zero =>
    intro i acc hi ha
    rw [show l.drop i = [] from by rw [List.drop_eq_nil_iff]; omega]
    simp only [bts, cutp, List.filter_nil, List.append_nil]
    refine Ev.step (f := fun _ => some (acc, 0)) (fun k => ?_) (Ev.now _)
    simp only [meter_Beats.l0]
    rw [if_neg (by omega)]
  | succ d ih =>
    intro i acc hi ha
    have hlt : i < l.length := by omega
    obtain ⟨o1, o2, o3, o4⟩ := g.ok l[i] (List.getElem_mem hlt)
    have hs := tot_take_succ hlt
    have hm := tot_take_le g.ok (i + 1)
    have ht := g.tot
    have hb := (tot_take_bd g.ok g.len i).1
    have hcl := cutp_length s e (run l[i].f0.toNat (tot (l.take i)) l[i].f1)
    rw [run_length] at hcl
    have := ih (i + 1) (acc ++ cutp s e (run l[i].f0.toNat (tot (l.take i)) l[i].f1)) (by omega) (by simp only [List.length_append]; omega)
    rw [hs] at this
    rw [drop_at hlt, bts, cutp_append, ← List.append_assoc]
    have hmt : ((l[i].f0.toNat : Nat) : Int) * l[i].f1 = mt l[i] := by unfold mt; rw [Int.toNat_of_nonneg (by omega)]
    have := beats_round l hl i s e l[i].f1 l[i].f0 o3 o4 o2 _ l[i].f0.toNat acc (tot (l.take i)) 0 hb (by rw [hmt]; omega) (by omega) (by omega) (by omega) (by rw [hmt, wnat (n := 128) (i := i) (by omega) (by omega)]; exact this)
    refine Ev.step (fun k => ?_) this
    simp only [meter_Beats.l0]
    rw [if_pos (by omega), if_pos (by omega), if_pos (by omega), rd_at hlt]
theorem beats_bad {l : List S45} (h : chk l ≠ 0) (s e : Int) : Ev (fun k => meter_Beats.f k l s e) ([], chk l) := by
  unfold meter_Beats.f
  refine Ev.bind (length_bad h) ?_
  simp only [if_neg h]
  exact Ev.now _
theorem beats_out {l : List S45} (g : Good l) {s e : Int} (h : s < 0 ∨ e < s ∨ tot l < e) : Ev (fun k => meter_Beats.f k l s e) ([], 1) := by
  unfold meter_Beats.f
  refine Ev.bind (length_good g) ?_
  simp only [if_true]
  have hj : Ev (fun k => meter_Beats.j0 k l true s e) ([], 1) := Ev.step (f := fun _ => some ([], 1)) (fun k => by simp only [meter_Beats.j0]; rw [if_pos trivial]) (Ev.now _)
  by_cases h1 : s < 0
  · simp only [if_pos h1]
    exact hj
  · by_cases h2 : s > e
    · simp only [if_neg h1, if_pos h2]
      exact hj
    · simp only [if_neg h1, if_neg h2]
      rw [show decide (e > tot l) = true from decide_eq_true (by omega)]
      exact hj
theorem beats_in {l : List S45} (g : Good l) {s e : Int} (h0 : 0 ≤ s) (h1 : s ≤ e) (h2 : e ≤ tot l) : Ev (fun k => meter_Beats.f k l s e) (cutp s e (bts l 0), 0) := by
  unfold meter_Beats.f
  refine Ev.bind (length_good g) ?_
  simp only [if_true]
  have := beats_loop g s e l.length 0 [] (by omega) (by simp)
  simp only [List.drop_zero, List.take_zero, tot, List.nil_append, Int.natCast_zero] at this
  simp only [if_neg (show ¬ (s < 0) by omega), if_neg (show ¬ (s > e) by omega)]
  rw [show decide (e > tot l) = false from decide_eq_false (by omega)]
  exact Ev.step (fun k => by simp only [meter_Beats.j0]; rw [if_neg (by decide)]) this
theorem rbeats_round (l : List S45) (g : Good l) (i : Nat) (hi : i < l.length) (s e : Int) (r : List Int × Int) (d : Nat) :
    ∀ (acc : List Int) (b : Int), 0 ≤ b → b + d = l[i].f0 → acc.length ≤ 10000 - d →
      Ev (fun k => dancestudioref13_Beats.l0 k l (acc ++ cutp s e (run d (tot (l.take i) + b * l[i].f1) l[i].f1)) (wrap64 ((i : Int) + 1)) s e) r →
      Ev (fun k => dancestudioref13_Beats.l1 k l acc (i : Int) b s e) r := by
  have hl := g.len
  obtain ⟨o1, o2, o3, o4⟩ := g.ok l[i] (List.getElem_mem hi)
  have hb := tot_take_bd g.ok g.len i
  induction d with
  | zero =>
    intro acc b h2 h3 h4 hn
    obtain rfl : b = l[i].f0 := by omega
    simp only [run, cutp, List.filter_nil, List.append_nil] at hn
    exact Ev.step (fun k => by simp only [dancestudioref13_Beats.l1]; rw [if_pos (by omega), if_pos (by omega), rd_at hi, if_neg (by omega)]) hn
  | succ d ih =>
    intro acc b h2 h3 h4 hn
    have h5 : (b + 1) * l[i].f1 = b * l[i].f1 + l[i].f1 := by rw [Int.add_mul]; omega
    have h6 : 0 ≤ b * l[i].f1 := Int.mul_nonneg h2 (by omega)
    have h7 : b * l[i].f1 ≤ 16 * l[i].f1 := Int.mul_le_mul_of_nonneg_right (by omega) (by omega)
    have e1 : wrap64 (b * l[i].f1) = b * l[i].f1 := w64 (by omega) (by omega)
    have e2 : wrap64 (tot (l.take i) + b * l[i].f1) = tot (l.take i) + b * l[i].f1 := w64 (by omega) (by omega)
    by_cases hc : s ≤ tot (l.take i) + b * l[i].f1 ∧ tot (l.take i) + b * l[i].f1 < e
    · rw [run, cutp_in hc, List.append_cons] at hn
      rw [show tot (l.take i) + b * l[i].f1 + l[i].f1 = tot (l.take i) + (b + 1) * l[i].f1 by omega] at hn
      have := ih (acc ++ [tot (l.take i) + b * l[i].f1]) (b + 1) (by omega) (by omega) (by simp; omega) hn
      have e3 : Ev (fun k => (dancestudioref13_total.f k (l.take ((i : Int)).toNat)).bind fun t => if s ≤ wrap64 (t + wrap64 (b * l[i].f1)) then (if wrap64 (t + wrap64 (b * l[i].f1)) < e then (if acc.length < 17592186044416 then (dancestudioref13_Beats.l1 k l (acc ++ [wrap64 (t + wrap64 (b * l[i].f1))]) (i : Int) (wrap64 (b + 1)) s e) else none) else (dancestudioref13_Beats.l1 k l acc (i : Int) (wrap64 (b + 1)) s e)) else (dancestudioref13_Beats.l1 k l acc (i : Int) (wrap64 (b + 1)) s e)) r := by
        refine Ev.bind (rtotal_take l g.ok g.len i) ?_
        rw [e1, e2, w64 (n := b + 1) (by omega) (by omega)]
        simp only [if_pos hc.1, if_pos hc.2, if_pos (show acc.length < 17592186044416 by omega)]
        exact this
      refine Ev.step (fun k => ?_) e3
      simp only [dancestudioref13_Beats.l1]
      rw [if_pos (by omega), if_pos (by omega), rd_at hi, if_pos (by omega), if_pos (by omega)]
    · rw [run, cutp_off hc] at hn
      rw [show tot (l.take i) + b * l[i].f1 + l[i].f1 = tot (l.take i) + (b + 1) * l[i].f1 by omega] at hn
      have := ih acc (b + 1) (by omega) (by omega) (by omega) hn
      have e3 : Ev (fun k => (dancestudioref13_total.f k (l.take ((i : Int)).toNat)).bind fun t => if s ≤ wrap64 (t + wrap64 (b * l[i].f1)) then (if wrap64 (t + wrap64 (b * l[i].f1)) < e then (if acc.length < 17592186044416 then (dancestudioref13_Beats.l1 k l (acc ++ [wrap64 (t + wrap64 (b * l[i].f1))]) (i : Int) (wrap64 (b + 1)) s e) else none) else (dancestudioref13_Beats.l1 k l acc (i : Int) (wrap64 (b + 1)) s e)) else (dancestudioref13_Beats.l1 k l acc (i : Int) (wrap64 (b + 1)) s e)) r := by
        refine Ev.bind (rtotal_take l g.ok g.len i) ?_
        rw [e1, e2, w64 (n := b + 1) (by omega) (by omega)]
        by_cases hs : s ≤ tot (l.take i) + b * l[i].f1
        · simp only [if_pos hs, if_neg (show ¬ (tot (l.take i) + b * l[i].f1 < e) by omega)]
          exact this
        · simp only [if_neg hs]
          exact this
      refine Ev.step (fun k => ?_) e3
      simp only [dancestudioref13_Beats.l1]
      rw [if_pos (by omega), if_pos (by omega), rd_at hi, if_pos (by omega), if_pos (by omega)]
theorem rbeats_loop {l : List S45} (g : Good l) (s e : Int) (d : Nat) : ∀ (i : Nat) (acc : List Int), i + d = l.length → acc.length ≤ 16 * i →
    Ev (fun k => dancestudioref13_Beats.l0 k l acc (i : Int) s e) (acc ++ cutp s e (bts (l.drop i) (tot (l.take i))), 0) := by
  have hl := g.len
  induction d with
  | zero =>
    intro i acc hi ha
    rw [show l.drop i = [] from by rw [List.drop_eq_nil_iff]; omega]
    simp only [bts, cutp, List.filter_nil, List.append_nil]
    refine Ev.step (f := fun _ => some (acc, 0)) (fun k => ?_) (Ev.now _)
    simp only [dancestudioref13_Beats.l0]
    rw [if_neg (by omega)]
  | succ d ih =>
    intro i acc hi ha
    have hlt : i < l.length := by omega
    obtain ⟨o1, o2, o3, o4⟩ := g.ok l[i] (List.getElem_mem hlt)
    have hs := tot_take_succ hlt
    have hcl := cutp_length s e (run l[i].f0.toNat (tot (l.take i)) l[i].f1)
    rw [run_length] at hcl
    have := ih (i + 1) (acc ++ cutp s e (run l[i].f0.toNat (tot (l.take i)) l[i].f1)) (by omega) (by simp only [List.length_append]; omega)
    rw [hs] at this
    rw [drop_at hlt, bts, cutp_append, ← List.append_assoc]
    have := rbeats_round l g i hlt s e _ l[i].f0.toNat acc 0 (by omega) (by omega) (by omega) (by
      rw [Int.zero_mul, Int.add_zero, wnat (n := 128) (i := i) (by omega) (by omega)]; exact this)
    refine Ev.step (fun k => ?_) this
    simp only [dancestudioref13_Beats.l0]
    rw [if_pos (by omega)]
theorem rbeats_bad {l : List S45} (h : chk l ≠ 0) (s e : Int) : Ev (fun k => dancestudioref13_Beats.f k l s e) ([], chk l) := by
  unfold dancestudioref13_Beats.f
  refine Ev.bind (rcheck_ev l) ?_
  simp only [if_neg h]
  exact Ev.now _
theorem rbeats_out {l : List S45} (g : Good l) {s e : Int} (h : s < 0 ∨ e < s ∨ tot l < e) : Ev (fun k => dancestudioref13_Beats.f k l s e) ([], 1) := by
  have hc := rcheck_ev l
  rw [good_chk g] at hc
  unfold dancestudioref13_Beats.f
  refine Ev.bind hc ?_
  simp only [if_true]
  have hj : Ev (fun k => dancestudioref13_Beats.j0 k l true s e) ([], 1) := Ev.step (f := fun _ => some ([], 1)) (fun k => by simp only [dancestudioref13_Beats.j0]; rw [if_pos trivial]) (Ev.now _)
  by_cases h1 : s < 0
  · simp only [if_pos h1]
    exact hj
  · by_cases h2 : s > e
    · simp only [if_neg h1, if_pos h2]
      exact hj
    · simp only [if_neg h1, if_neg h2]
      refine Ev.bind (rtotal_ev l g.ok g.len) ?_
      rw [show decide (e > tot l) = true from decide_eq_true (by omega)]
      exact hj
theorem rbeats_in {l : List S45} (g : Good l) {s e : Int} (h0 : 0 ≤ s) (h1 : s ≤ e) (h2 : e ≤ tot l) : Ev (fun k => dancestudioref13_Beats.f k l s e) (cutp s e (bts l 0), 0) := by
  have hc := rcheck_ev l
  rw [good_chk g] at hc
  unfold dancestudioref13_Beats.f
  refine Ev.bind hc ?_
  simp only [if_true]
  have := rbeats_loop g s e l.length 0 [] (by omega) (by simp)
  simp only [List.drop_zero, List.take_zero, tot, List.nil_append, Int.natCast_zero] at this
  simp only [if_neg (show ¬ (s < 0) by omega), if_neg (show ¬ (s > e) by omega)]
  refine Ev.bind (rtotal_ev l g.ok g.len) ?_
  rw [show decide (e > tot l) = false from decide_eq_false (by omega)]
  exact Ev.step (fun k => by simp only [dancestudioref13_Beats.j0]; rw [if_neg (by decide)]) this
/-! ### Cut -/
def part (l : List S45) (s e : Int) : List S45 := (l.take e.toNat).drop s.toNat
theorem cut_bad {l : List S45} (h : chk l ≠ 0) (s e : Int) : Ev (fun k => meter_Cut.f k l s e) ([], chk l) := by
  unfold meter_Cut.f
  refine Ev.bind (check_ev l) ?_
  simp only [if_neg h]
  exact Ev.now _
theorem cut_out {l : List S45} (g : Good l) {s e : Int} (h : s < 0 ∨ e ≤ s ∨ (l.length : Int) < e) : Ev (fun k => meter_Cut.f k l s e) ([], 32) := by
  have hc := check_ev l
  rw [good_chk g] at hc
  unfold meter_Cut.f
  refine Ev.bind hc ?_
  simp only [if_true]
  by_cases h1 : s < 0
  · simp only [if_pos h1]; exact Ev.now _
  · by_cases h2 : s ≥ e
    · simp only [if_neg h1, if_pos h2]; exact Ev.now _
    · simp only [if_neg h1, if_neg h2, if_pos (show e > (l.length : Int) by omega)]; exact Ev.now _
theorem cut_in {l : List S45} (g : Good l) {s e : Int} (h0 : 0 ≤ s) (h1 : s < e) (h2 : e ≤ (l.length : Int)) : Ev (fun k => meter_Cut.f k l s e) (part l s e, 0) := by
  have hc := check_ev l
  rw [good_chk g] at hc
  have hl := g.len
  have hp : ((l.take e.toNat).drop s.toNat).length ≤ l.length := by simp; omega
  unfold meter_Cut.f
  refine Ev.bind hc ?_
  simp only [if_true, if_neg (show ¬ (s < 0) by omega), if_neg (show ¬ (s ≥ e) by omega), if_neg (show ¬ (e > (l.length : Int)) by omega), Option.bind_some, if_pos h0, if_pos (show s ≤ e by omega), if_pos h2, List.nil_append, List.length_nil, Nat.zero_add,
    if_pos (show ((l.take e.toNat).drop s.toNat).length < 8796093022208 by omega)]
  exact Ev.now _
theorem rcut_bad {l : List S45} (h : chk l ≠ 0) (s e : Int) : Ev (fun k => dancestudioref13_Cut.f k l s e) ([], chk l) := by
  unfold dancestudioref13_Cut.f
  refine Ev.bind (rcheck_ev l) ?_
  simp only [if_neg h]
  exact Ev.now _
theorem rcut_out {l : List S45} (g : Good l) {s e : Int} (h : s < 0 ∨ e ≤ s ∨ (l.length : Int) < e) : Ev (fun k => dancestudioref13_Cut.f k l s e) ([], 32) := by
  have hc := rcheck_ev l
  rw [good_chk g] at hc
  unfold dancestudioref13_Cut.f
  refine Ev.bind hc ?_
  simp only [if_true]
  by_cases h1 : s < 0
  · simp only [if_pos h1]; exact Ev.now _
  · by_cases h2 : s ≥ e
    · simp only [if_neg h1, if_pos h2]; exact Ev.now _
    · simp only [if_neg h1, if_neg h2, if_pos (show e > (l.length : Int) by omega)]; exact Ev.now _
theorem rcut_in {l : List S45} (g : Good l) {s e : Int} (h0 : 0 ≤ s) (h1 : s < e) (h2 : e ≤ (l.length : Int)) : Ev (fun k => dancestudioref13_Cut.f k l s e) (part l s e, 0) := by
  have hc := rcheck_ev l
  rw [good_chk g] at hc
  have hl := g.len
  have hp : ((l.take e.toNat).drop s.toNat).length ≤ l.length := by simp; omega
  unfold dancestudioref13_Cut.f
  refine Ev.bind hc ?_
  simp only [if_true, if_neg (show ¬ (s < 0) by omega), if_neg (show ¬ (s ≥ e) by omega), if_neg (show ¬ (e > (l.length : Int)) by omega), Option.bind_some, if_pos h0, if_pos (show s ≤ e by omega), if_pos h2, List.nil_append, List.length_nil, Nat.zero_add,
    if_pos (show ((l.take e.toNat).drop s.toNat).length < 8796093022208 by omega)]
  exact Ev.now _
/-! ### equal lists -/
theorem same_loop (l : List S45) (hl : l.length ≤ 4611686018427387904) (d : Nat) : ∀ i : Nat, i + d = l.length → Ev (fun k => dancestudioref13_Same.l0 k l l (i : Int)) true := by
  induction d with
  | zero =>
    intro i hi
    refine Ev.step (f := fun _ => some true) (fun k => ?_) (Ev.now _)
    simp only [dancestudioref13_Same.l0]
    rw [if_neg (by omega)]
  | succ d ih =>
    intro i hi
    have := ih (i + 1) (by omega)
    refine Ev.step (fun k => ?_) this
    simp only [dancestudioref13_Same.l0]
    rw [if_pos (by omega), if_pos (by omega), if_pos (by omega), wnat (n := l.length) (by omega) (by omega)]
    simp only [BEq.rfl, Bool.not_true, Bool.or_self, Bool.false_eq_true, if_false]
theorem same_ev (l : List S45) (hl : l.length ≤ 4611686018427387904) : Ev (fun k => dancestudioref13_Same.f k l l) true := by
  have := same_loop l hl l.length 0 (by omega)
  simp only [Int.natCast_zero] at this
  exact Ev.congr (fun k => by unfold dancestudioref13_Same.f; rw [if_pos rfl]) this
theorem ints_loop (l : List Int) (hl : l.length ≤ 4611686018427387904) (d : Nat) : ∀ i : Nat, i + d = l.length → Ev (fun k => dancestudioref13_Ints.l0 k l l (i : Int)) true := by
  induction d with
  | zero =>
    intro i hi
    refine Ev.step (f := fun _ => some true) (fun k => ?_) (Ev.now _)
    simp only [dancestudioref13_Ints.l0]
    rw [if_neg (by omega)]
  | succ d ih =>
    intro i hi
    have := ih (i + 1) (by omega)
    refine Ev.step (fun k => ?_) this
    simp only [dancestudioref13_Ints.l0]
    rw [if_pos (by omega), if_pos (by omega), if_pos (by omega), if_pos trivial, wnat (n := l.length) (by omega) (by omega)]
theorem ints_ev (l : List Int) (hl : l.length ≤ 4611686018427387904) : Ev (fun k => dancestudioref13_Ints.f k l l) true := by
  have := ints_loop l hl l.length 0 (by omega)
  simp only [Int.natCast_zero] at this
  exact Ev.congr (fun k => by unfold dancestudioref13_Ints.f; rw [if_pos rfl]) this
/-! ### the chapter's examples -/
theorem awake_ev : Ev (fun k => dancestudiolaw13_awake.f k) true := Ev.of (fun k => dancestudiolaw13_awake.mono k) (k := 60) (by kernel_rfl)
theorem parts_end {l : List S45} {s e u v : Int} {b : List Int × Int} {c : List S45 × Int} (hb : Ev (fun k => meter_Beats.f k l s e) b) (hb' : Ev (fun k => dancestudioref13_Beats.f k l s e) b) (lb : b.1.length ≤ 4611686018427387904)
    (hc : Ev (fun k => meter_Cut.f k l u v) c) (hc' : Ev (fun k => dancestudioref13_Cut.f k l u v) c) (lc : c.1.length ≤ 4611686018427387904) : Ev (fun k => dancestudiolaw13_MeterParts.f k l s e u v) true := by
  unfold dancestudiolaw13_MeterParts.f
  refine Ev.bind hb (Ev.bind hb' (Ev.bind hc (Ev.bind hc' (Ev.bind (ints_ev _ lb) ?_))))
  simp only [if_true]
  refine Ev.bind (same_ev _ lc) ?_
  simp only [if_true]
  exact Ev.bind awake_ev (Ev.now _)
/-- MeterParts returns true, for every list and spans. -/
theorem pure_MeterParts (l : List S45) (_ : l.length * 16 ≤ 140737488351232) (s : Int) (_ : (Lit.int .i64 s).wf = true) (e : Int) (_ : (Lit.int .i64 e).wf = true) (u : Int) (_ : (Lit.int .i64 u).wf = true) (v : Int) (_ : (Lit.int .i64 v).wf = true) :
    ∃ k, dancestudiolaw13_MeterParts.f k l s e u v = some true := by
  refine Ev.rounds (g := fun k => dancestudiolaw13_MeterParts.f k l s e u v) ?_
  by_cases h : chk l = 0
  · have g := chk_good h
    have hl := g.len
    have hb : ∃ b : List Int × Int, Ev (fun k => meter_Beats.f k l s e) b ∧ Ev (fun k => dancestudioref13_Beats.f k l s e) b ∧ b.1.length ≤ 4611686018427387904 := by
      by_cases hs : 0 ≤ s ∧ s ≤ e ∧ e ≤ tot l
      · refine ⟨_, beats_in g hs.1 hs.2.1 hs.2.2, rbeats_in g hs.1 hs.2.1 hs.2.2, ?_⟩
        have h1 := cutp_length s e (bts l 0)
        have h2 := bts_length g.ok 0
        simp only
        omega
      · exact ⟨_, beats_out g (by omega), rbeats_out g (by omega), by simp⟩
    have hc : ∃ c : List S45 × Int, Ev (fun k => meter_Cut.f k l u v) c ∧ Ev (fun k => dancestudioref13_Cut.f k l u v) c ∧ c.1.length ≤ 4611686018427387904 := by
      by_cases hs : 0 ≤ u ∧ u < v ∧ v ≤ (l.length : Int)
      · refine ⟨_, cut_in g hs.1 hs.2.1 hs.2.2, rcut_in g hs.1 hs.2.1 hs.2.2, ?_⟩
        unfold part
        simp
        omega
      · exact ⟨_, cut_out g (by omega), rcut_out g (by omega), by simp⟩
    obtain ⟨b, b1, b2, b3⟩ := hb
    obtain ⟨c, c1, c2, c3⟩ := hc
    exact parts_end b1 b2 b3 c1 c2 c3
  · exact parts_end (beats_bad h s e) (rbeats_bad h s e) (by simp) (cut_bad h u v) (rcut_bad h u v) (by simp)
end Go.Proofs.Ytepocdjaedddcaa.PMeterParts
