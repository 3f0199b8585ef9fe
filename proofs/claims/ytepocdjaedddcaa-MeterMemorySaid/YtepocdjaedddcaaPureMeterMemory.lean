/- Plain lemmas on the functions that the law MeterMemory reaches: no memory and no Go in them. -/
import Derived.Test.YtepocdjaedddcaaPMeterMemoryx
set_option linter.unusedVariables false
namespace Go.Proofs.Ytepocdjaedddcaa.PMeterMemory
open Go.RowKit Go.Proofs.YtepocdjaedddcaaW.PrintWords Go.Proofs.YtepocdjaedddcaaW.PrintLast Go.Proofs.YtepocdjaedddcaaW.PrintMore
/-! ### numbers and lists -/
theorem w64 {n : Int} (h : -9223372036854775808 ≤ n) (h2 : n ≤ 9223372036854775807) : wrap64 n = n := by unfold wrap64; omega
theorem wnat {i n : Nat} (h : i < n) (hn : n ≤ 9223372036854775807) : wrap64 ((i : Int) + 1) = ((i + 1 : Nat) : Int) := by unfold wrap64; omega
def mt (m : S45) : Int := m.f0 * m.f1
def okm (m : S45) : Prop := 1 ≤ m.f0 ∧ m.f0 ≤ 16 ∧ 1 ≤ m.f1 ∧ m.f1 ≤ 96
instance (m : S45) : Decidable (okm m) := by unfold okm; infer_instance
theorem mt_bd {m : S45} (h : okm m) : 1 ≤ mt m ∧ mt m ≤ 1536 := by
  obtain ⟨h1, h2, h3, h4⟩ := h
  unfold mt
  obtain h | h | h | h | h | h | h | h | h | h | h | h | h | h | h | h : m.f0 = 1 ∨ m.f0 = 2 ∨ m.f0 = 3 ∨ m.f0 = 4 ∨ m.f0 = 5 ∨ m.f0 = 6 ∨ m.f0 = 7 ∨ m.f0 = 8 ∨ m.f0 = 9 ∨ m.f0 = 10 ∨ m.f0 = 11 ∨ m.f0 = 12 ∨ m.f0 = 13 ∨ m.f0 = 14 ∨ m.f0 = 15 ∨ m.f0 = 16 := by omega
  all_goals rw [h]; omega
def tot : List S45 → Int
  | [] => 0
  | m :: l => mt m + tot l
theorem tot_append (a b : List S45) : tot (a ++ b) = tot a + tot b := by
  induction a with
  | nil => simp [tot]
  | cons m a ih => simp [tot, ih]; omega
theorem tot_bd {l : List S45} (h : ∀ m ∈ l, okm m) : (l.length : Int) ≤ tot l ∧ tot l ≤ 1536 * l.length := by
  induction l with
  | nil => simp [tot]
  | cons m l ih =>
    have h1 := mt_bd (h m (by simp))
    have h2 := ih (fun x hx => h x (by simp [hx]))
    simp only [tot, List.length_cons]
    omega
theorem rd_at {l : List S45} {i : Nat} (h : i < l.length) : rd_T45 l (i : Int) = l[i] := by
  unfold rd_T45
  simp [List.getD_eq_getElem?_getD, h]
theorem drop_at {l : List S45} {i : Nat} (h : i < l.length) : l.drop i = l[i] :: l.drop (i + 1) := List.drop_eq_getElem_cons h
theorem take_at {l : List S45} {i : Nat} (h : i < l.length) : l.take (i + 1) = l.take i ++ [l[i]] := by
  rw [List.take_succ_eq_append_getElem h]
theorem tot_take_succ {l : List S45} {i : Nat} (h : i < l.length) : tot (l.take (i + 1)) = tot (l.take i) + mt l[i] := by
  rw [take_at h, tot_append]; simp [tot]
theorem ok_take {l : List S45} (h : ∀ m ∈ l, okm m) (i : Nat) : ∀ m ∈ l.take i, okm m := fun m hm => h m (List.mem_of_mem_take hm)
theorem tot_take_bd {l : List S45} (h : ∀ m ∈ l, okm m) (hl : l.length ≤ 128) (i : Nat) : 0 ≤ tot (l.take i) ∧ tot (l.take i) ≤ 196608 := by
  have h1 := tot_bd (ok_take h i)
  have h2 := List.length_take_le i l
  have h3 : (l.take i).length ≤ l.length := List.length_take_le' i l
  omega
theorem tot_take_le {l : List S45} (h : ∀ m ∈ l, okm m) (i : Nat) : tot (l.take i) ≤ tot l := by
  have h1 := tot_append (l.take i) (l.drop i)
  rw [List.take_append_drop] at h1
  have h2 := tot_bd (l := l.drop i) (fun m hm => h m (List.mem_of_mem_drop hm))
  omega
theorem tot_take_mono {l : List S45} (h : ∀ m ∈ l, okm m) {i j : Nat} (hij : i ≤ j) : tot (l.take i) ≤ tot (l.take j) := by
  have := tot_take_le (ok_take h j) i
  rwa [List.take_take, Nat.min_eq_left hij] at this

/-! ### Check -/
/-- what Check says of a list -/
def chk (l : List S45) : Int :=
  if l.length = 0 then 4 else if 128 < l.length then 3 else if ∀ m ∈ l, okm m then (if 8192 < tot l then 3 else 0) else 1
/-- a list that Check lets by -/
structure Good (l : List S45) : Prop where
  pos : 0 < l.length
  len : l.length ≤ 128
  ok : ∀ m ∈ l, okm m
  tot : tot l ≤ 8192
theorem chk_good {l : List S45} (h : chk l = 0) : Good l := by
  unfold chk at h
  by_cases h1 : l.length = 0
  · rw [if_pos h1] at h; omega
  · rw [if_neg h1] at h
    by_cases h2 : 128 < l.length
    · rw [if_pos h2] at h; omega
    · rw [if_neg h2] at h
      by_cases h3 : ∀ m ∈ l, okm m
      · rw [if_pos h3] at h
        by_cases h4 : 8192 < tot l
        · rw [if_pos h4] at h; omega
        · exact ⟨by omega, by omega, h3, by omega⟩
      · rw [if_neg h3] at h; omega
theorem good_chk {l : List S45} (g : Good l) : chk l = 0 := by
  have := g.pos; have := g.len; have := g.tot
  unfold chk
  rw [if_neg (by omega), if_neg (by omega), if_pos g.ok, if_neg (by omega)]
theorem not_good {l : List S45} (h : chk l ≠ 0) : ¬ Good l := fun g => h (good_chk g)
theorem ok_all_drop {l : List S45} {i : Nat} (h : i < l.length) : (∀ m ∈ l.drop i, okm m) ↔ okm l[i] ∧ ∀ m ∈ l.drop (i + 1), okm m := by
  rw [drop_at h, List.forall_mem_cons]
/-- a bad element decides -/
theorem bad_split {m : S45} (h : ¬ okm m) : m.f0 < 1 ∨ (¬ m.f0 < 1 ∧ m.f0 > 16) ∨ (¬ m.f0 < 1 ∧ ¬ m.f0 > 16 ∧ m.f1 < 1) ∨ (¬ m.f0 < 1 ∧ ¬ m.f0 > 16 ∧ ¬ m.f1 < 1 ∧ m.f1 > 96) := by
  unfold okm at h; omega

theorem check_loop (l : List S45) (hl : l.length ≤ 128) (d : Nat) : ∀ (i : Nat) (acc : Int), i + d = l.length → 0 ≤ acc → acc ≤ 1536 * i →
    Ev (fun k => meter_Check.l0 k acc l (l.length : Int) (i : Int)) (if ∀ m ∈ l.drop i, okm m then (if 8192 < acc + tot (l.drop i) then 3 else 0) else 1) := by
  induction d with
  | zero =>
    intro i acc hi h0 h1
    rw [show l.drop i = [] from by rw [List.drop_eq_nil_iff]; omega]
    refine Ev.step (f := fun _ => some (if 8192 < acc then 3 else 0)) (fun k => ?_) ?_
    · simp only [meter_Check.l0]
      rw [if_neg (by omega)]
      by_cases h : 8192 < acc
      · rw [if_pos h, if_pos h]
      · rw [if_neg h, if_neg h]
    · simp only [tot]
      exact Ev.now _ |> fun h => by simpa using h
  | succ d ih =>
    intro i acc hi h0 h1
    have hlt : i < l.length := by omega
    by_cases hok : okm l[i]
    · have hb := mt_bd hok
      have := ih (i + 1) (acc + mt l[i]) (by omega) (by omega) (by push_cast; omega)
      have e1 : (∀ m ∈ l.drop i, okm m) ↔ ∀ m ∈ l.drop (i + 1), okm m := by rw [ok_all_drop hlt]; exact ⟨fun h => h.2, fun h => ⟨hok, h⟩⟩
      have e2 : acc + tot (l.drop i) = acc + mt l[i] + tot (l.drop (i + 1)) := by rw [drop_at hlt]; simp only [tot]; omega
      rw [e2]
      simp only [e1]
      refine Ev.step (fun k => ?_) this
      simp only [meter_Check.l0]
      obtain ⟨o1, o2, o3, o4⟩ := hok
      rw [rd_at hlt, if_pos (by omega), if_pos (by omega), if_pos (by omega), if_neg (by omega), if_neg (by omega), if_neg (by omega), if_neg (by omega)]
      have e3 : wrap64 (l[i].f0 * l[i].f1) = mt l[i] := by unfold mt at hb ⊢; exact w64 (by omega) (by omega)
      rw [e3, w64 (by omega) (by omega), wnat (n := 128) (by omega) (by omega)]
    · have e1 : ¬ ∀ m ∈ l.drop i, okm m := by rw [ok_all_drop hlt]; exact fun h => hok h.1
      rw [if_neg e1]
      refine Ev.step (f := fun _ => some 1) (fun k => ?_) (Ev.now 1)
      simp only [meter_Check.l0]
      rw [rd_at hlt, if_pos (by omega), if_pos (by omega), if_pos (by omega)]
      rcases bad_split hok with h | ⟨h, g⟩ | ⟨h, g, e⟩ | ⟨h, g, e, f⟩
      · rw [if_pos h]
      · rw [if_neg h, if_pos g]
      · rw [if_neg h, if_neg g, if_pos e]
      · rw [if_neg h, if_neg g, if_neg e, if_pos f]
theorem check_ev (l : List S45) : Ev (fun k => meter_Check.f k l) (chk l) := by
  unfold chk
  by_cases h1 : l.length = 0
  · rw [if_pos h1]
    refine Ev.congr (f := fun _ => some 4) (fun k => ?_) (Ev.now 4)
    unfold meter_Check.f
    rw [if_pos (by omega)]
  · rw [if_neg h1]
    by_cases h2 : 128 < l.length
    · rw [if_pos h2]
      refine Ev.congr (f := fun _ => some 3) (fun k => ?_) (Ev.now 3)
      unfold meter_Check.f
      rw [if_neg (by omega), if_pos (by omega)]
    · rw [if_neg h2]
      have := check_loop l (by omega) l.length 0 0 (by omega) (by omega) (by omega)
      simp only [List.drop_zero, Int.zero_add] at this
      refine Ev.congr (fun k => ?_) this
      unfold meter_Check.f
      rw [if_neg (by omega), if_neg (by omega)]
      rfl
/-! ### Cut -/
def part (l : List S45) (s e : Int) : List S45 := (l.take e.toNat).drop s.toNat
theorem cut_bad {l : List S45} (h : chk l ≠ 0) (s e : Int) : Ev (fun k => meter_Cut.f k l s e) ([], chk l) := by
  unfold meter_Cut.f
  refine Ev.bind (check_ev l) ?_
  simp only [if_neg h]
  exact Ev.now _
theorem cut_out {l : List S45} (g : Good l) {s e : Int} (h : s < 0 ∨ e ≤ s ∨ (l.length : Int) < e) : Ev (fun k => meter_Cut.f k l s e) ([], 32) := by
  have hc := check_ev l
  rw [good_chk g] at hc
  unfold meter_Cut.f
  refine Ev.bind hc ?_
  simp only [if_true]
  by_cases h1 : s < 0
  · simp only [if_pos h1]; exact Ev.now _
  · by_cases h2 : s ≥ e
    · simp only [if_neg h1, if_pos h2]; exact Ev.now _
    · simp only [if_neg h1, if_neg h2, if_pos (show e > (l.length : Int) by omega)]; exact Ev.now _
theorem cut_in {l : List S45} (g : Good l) {s e : Int} (h0 : 0 ≤ s) (h1 : s < e) (h2 : e ≤ (l.length : Int)) : Ev (fun k => meter_Cut.f k l s e) (part l s e, 0) := by
  have hc := check_ev l
  rw [good_chk g] at hc
  have hl := g.len
  have hp : ((l.take e.toNat).drop s.toNat).length ≤ l.length := by simp; omega
  unfold meter_Cut.f
  refine Ev.bind hc ?_
  simp only [if_true, if_neg (show ¬ (s < 0) by omega), if_neg (show ¬ (s ≥ e) by omega), if_neg (show ¬ (e > (l.length : Int)) by omega), Option.bind_some, if_pos h0, if_pos (show s ≤ e by omega), if_pos h2, List.nil_append, List.length_nil, Nat.zero_add,
    if_pos (show ((l.take e.toNat).drop s.toNat).length < 8796093022208 by omega)]
  exact Ev.now _
/-! ### equal lists -/
theorem same_loop (l : List S45) (hl : l.length ≤ 4611686018427387904) (d : Nat) : ∀ i : Nat, i + d = l.length → Ev (fun k => dancestudioref13_Same.l0 k l l (i : Int)) true := by
  induction d with
  | zero =>
    intro i hi
    refine Ev.step (f := fun _ => some true) (fun k => ?_) (Ev.now _)
    simp only [dancestudioref13_Same.l0]
    rw [if_neg (by omega)]
  | succ d ih =>
    intro i hi
    have := ih (i + 1) (by omega)
    refine Ev.step (fun k => ?_) this
    simp only [dancestudioref13_Same.l0]
    rw [if_pos (by omega), if_pos (by omega), if_pos (by omega), wnat (n := l.length) (by omega) (by omega)]
    simp only [BEq.rfl, Bool.not_true, Bool.or_self, Bool.false_eq_true, if_false]
theorem same_ev (l : List S45) (hl : l.length ≤ 4611686018427387904) : Ev (fun k => dancestudioref13_Same.f k l l) true := by
  have := same_loop l hl l.length 0 (by omega)
  simp only [Int.natCast_zero] at this
  exact Ev.congr (fun k => by unfold dancestudioref13_Same.f; rw [if_pos rfl]) this
/-! ### the chapter's examples -/
theorem awake_ev : Ev (fun k => dancestudiolaw13_awake.f k) true := Ev.of (fun k => dancestudiolaw13_awake.mono k) (k := 60) (by kernel_rfl)
theorem mem_loop {l x c : List S45} (hl : l.length ≤ 8796093022208) {s e ec : Int} (hx : x.length ≤ 8796093022208) (hcut : Ev (fun k => meter_Cut.f k l s e) (c, ec)) (hc : c.length ≤ 8796093022208) (d : Nat) :
    ∀ (i : Nat) (a : List S45), i + d = a.length → a.length ≤ 8796093022208 → Ev (fun k => dancestudiolaw13_MeterMemory.l0 k l l a ec c (i : Int) s e) true := by
  induction d with
  | zero =>
    intro i a hi ha
    have : Ev (fun k => (meter_Cut.f k l s e).bind fun bt => (dancestudioref13_Same.f k l l).bind fun t => if t = true then (if bt.2 = ec then ((dancestudioref13_Same.f k c bt.1).bind fun t => if t = true then ((dancestudiolaw13_awake.f k).bind fun t => some t) else some false) else some false) else some false) true := by
      refine Ev.bind hcut (Ev.bind (same_ev l (by omega)) ?_)
      simp only [if_true]
      refine Ev.bind (same_ev c (by omega)) ?_
      simp only [if_true]
      exact Ev.bind awake_ev (Ev.now _)
    refine Ev.step (fun k => ?_) this
    simp only [dancestudiolaw13_MeterMemory.l0]
    rw [if_neg (by omega)]
  | succ d ih =>
    intro i a hi ha
    have := ih (i + 1) (a.set i ⟨-1, -1⟩) (by simp; omega) (by simp; omega)
    refine Ev.step (fun k => ?_) this
    simp only [dancestudiolaw13_MeterMemory.l0, dancestudiolaw13_of.f, Option.bind_some]
    rw [if_pos (by omega), if_pos (by omega), wnat (n := a.length) (by omega) (by omega), Int.toNat_natCast]
/-- MeterMemory returns true, for every list and span. -/
theorem pure_MeterMemory (l : List S45) (hl : l.length * 16 ≤ 140737488351232) (s : Int) (_ : (Lit.int .i64 s).wf = true) (e : Int) (_ : (Lit.int .i64 e).wf = true) : ∃ k, dancestudiolaw13_MeterMemory.f k l s e = some true := by
  refine Ev.rounds (g := fun k => dancestudiolaw13_MeterMemory.f k l s e) ?_
  have hc : ∃ c : List S45 × Int, Ev (fun k => meter_Cut.f k l s e) c ∧ c.1.length ≤ 8796093022208 := by
    by_cases h : chk l = 0
    · have g := chk_good h
      have := g.len
      by_cases hs : 0 ≤ s ∧ s < e ∧ e ≤ (l.length : Int)
      · exact ⟨_, cut_in g hs.1 hs.2.1 hs.2.2, by unfold part; simp; omega⟩
      · exact ⟨_, cut_out g (by omega), by simp⟩
    · exact ⟨_, cut_bad h s e, by simp⟩
  obtain ⟨⟨c, ec⟩, h1, h2⟩ := hc
  unfold dancestudiolaw13_MeterMemory.f
  simp only [Option.bind_some, List.length_nil, Nat.zero_add, List.nil_append, if_pos (show l.length < 8796093022208 by omega)]
  refine Ev.bind h1 (Ev.bind h1 ?_)
  simp only [if_true]
  refine Ev.bind (same_ev c (by simp only at h2; omega)) ?_
  simp only [Bool.not_true]
  have := mem_loop (l := l) (x := l) (c := c) (by omega) (by omega) h1 h2 c.length 0 c (by omega) h2
  simp only [Int.natCast_zero] at this
  exact Ev.step (fun k => by simp only [dancestudiolaw13_MeterMemory.j0]; rw [if_neg (by decide)]) this
end Go.Proofs.Ytepocdjaedddcaa.PMeterMemory
