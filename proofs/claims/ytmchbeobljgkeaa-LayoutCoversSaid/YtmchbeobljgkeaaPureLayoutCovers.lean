/- Plain lemmas on the functions that the law LayoutCovers reaches: no memory and no Go in them. -/
import Derived.Test.YtmchbeobljgkeaaPLayoutCoversx
set_option linter.unusedVariables false
namespace Go.Proofs.Ytmchbeobljgkeaa.PLayoutCovers
open Go.RowKit Go.Proofs.YtmchbeobljgkeaaW.PrintWords Go.Proofs.YtmchbeobljgkeaaW.PrintLast Go.Proofs.YtmchbeobljgkeaaW.PrintMore
/-! ### numbers and lists -/
theorem w64 {n : Int} (h : -9223372036854775808 ≤ n) (h2 : n ≤ 9223372036854775807) : wrap64 n = n := by unfold wrap64; omega
theorem wnat {i n : Nat} (h : i < n) (hn : n ≤ 9223372036854775807) : wrap64 ((i : Int) + 1) = ((i + 1 : Nat) : Int) := by unfold wrap64; omega
def mt (m : S54) : Int := m.f0 * m.f1
def okm (m : S54) : Prop := 1 ≤ m.f0 ∧ m.f0 ≤ 16 ∧ 1 ≤ m.f1 ∧ m.f1 ≤ 96
instance (m : S54) : Decidable (okm m) := by unfold okm; infer_instance
theorem mt_bd {m : S54} (h : okm m) : 1 ≤ mt m ∧ mt m ≤ 1536 := by
  obtain ⟨h1, h2, h3, h4⟩ := h
  unfold mt
  obtain h | h | h | h | h | h | h | h | h | h | h | h | h | h | h | h : m.f0 = 1 ∨ m.f0 = 2 ∨ m.f0 = 3 ∨ m.f0 = 4 ∨ m.f0 = 5 ∨ m.f0 = 6 ∨ m.f0 = 7 ∨ m.f0 = 8 ∨ m.f0 = 9 ∨ m.f0 = 10 ∨ m.f0 = 11 ∨ m.f0 = 12 ∨ m.f0 = 13 ∨ m.f0 = 14 ∨ m.f0 = 15 ∨ m.f0 = 16 := by omega
  all_goals rw [h]; omega
def tot : List S54 → Int
  | [] => 0
  | m :: l => mt m + tot l
theorem tot_append (a b : List S54) : tot (a ++ b) = tot a + tot b := by
  induction a with
  | nil => simp [tot]
  | cons m a ih => simp [tot, ih]; omega
theorem tot_bd {l : List S54} (h : ∀ m ∈ l, okm m) : (l.length : Int) ≤ tot l ∧ tot l ≤ 1536 * l.length := by
  induction l with
  | nil => simp [tot]
  | cons m l ih =>
    have h1 := mt_bd (h m (by simp))
    have h2 := ih (fun x hx => h x (by simp [hx]))
    simp only [tot, List.length_cons]
    omega
theorem rd_at {l : List S54} {i : Nat} (h : i < l.length) : rd_T54 l (i : Int) = l[i] := by
  unfold rd_T54
  simp [List.getD_eq_getElem?_getD, h]
theorem drop_at {l : List S54} {i : Nat} (h : i < l.length) : l.drop i = l[i] :: l.drop (i + 1) := List.drop_eq_getElem_cons h
theorem take_at {l : List S54} {i : Nat} (h : i < l.length) : l.take (i + 1) = l.take i ++ [l[i]] := by
  rw [List.take_succ_eq_append_getElem h]
theorem tot_take_succ {l : List S54} {i : Nat} (h : i < l.length) : tot (l.take (i + 1)) = tot (l.take i) + mt l[i] := by
  rw [take_at h, tot_append]; simp [tot]
theorem ok_take {l : List S54} (h : ∀ m ∈ l, okm m) (i : Nat) : ∀ m ∈ l.take i, okm m := fun m hm => h m (List.mem_of_mem_take hm)
theorem tot_take_bd {l : List S54} (h : ∀ m ∈ l, okm m) (hl : l.length ≤ 128) (i : Nat) : 0 ≤ tot (l.take i) ∧ tot (l.take i) ≤ 196608 := by
  have h1 := tot_bd (ok_take h i)
  have h2 := List.length_take_le i l
  have h3 : (l.take i).length ≤ l.length := List.length_take_le' i l
  omega
theorem tot_take_le {l : List S54} (h : ∀ m ∈ l, okm m) (i : Nat) : tot (l.take i) ≤ tot l := by
  have h1 := tot_append (l.take i) (l.drop i)
  rw [List.take_append_drop] at h1
  have h2 := tot_bd (l := l.drop i) (fun m hm => h m (List.mem_of_mem_drop hm))
  omega
theorem tot_take_mono {l : List S54} (h : ∀ m ∈ l, okm m) {i j : Nat} (hij : i ≤ j) : tot (l.take i) ≤ tot (l.take j) := by
  have := tot_take_le (ok_take h j) i
  rwa [List.take_take, Nat.min_eq_left hij] at this

/-! ### Check -/
/-- what Check says of a list -/
def chk (l : List S54) : Int :=
  if l.length = 0 then 4 else if 128 < l.length then 3 else if ∀ m ∈ l, okm m then (if 8192 < tot l then 3 else 0) else 1
/-- a list that Check lets by -/
structure Good (l : List S54) : Prop where
  pos : 0 < l.length
  len : l.length ≤ 128
  ok : ∀ m ∈ l, okm m
  tot : tot l ≤ 8192
theorem chk_good {l : List S54} (h : chk l = 0) : Good l := by
  unfold chk at h
  by_cases h1 : l.length = 0
  · rw [if_pos h1] at h; omega
  · rw [if_neg h1] at h
    by_cases h2 : 128 < l.length
    · rw [if_pos h2] at h; omega
    · rw [if_neg h2] at h
      by_cases h3 : ∀ m ∈ l, okm m
      · rw [if_pos h3] at h
        by_cases h4 : 8192 < tot l
        · rw [if_pos h4] at h; omega
        · exact ⟨by omega, by omega, h3, by omega⟩
      · rw [if_neg h3] at h; omega
theorem good_chk {l : List S54} (g : Good l) : chk l = 0 := by
  have := g.pos; have := g.len; have := g.tot
  unfold chk
  rw [if_neg (by omega), if_neg (by omega), if_pos g.ok, if_neg (by omega)]
theorem not_good {l : List S54} (h : chk l ≠ 0) : ¬ Good l := fun g => h (good_chk g)
theorem ok_all_drop {l : List S54} {i : Nat} (h : i < l.length) : (∀ m ∈ l.drop i, okm m) ↔ okm l[i] ∧ ∀ m ∈ l.drop (i + 1), okm m := by
  rw [drop_at h, List.forall_mem_cons]
/-- a bad element decides -/
theorem bad_split {m : S54} (h : ¬ okm m) : m.f0 < 1 ∨ (¬ m.f0 < 1 ∧ m.f0 > 16) ∨ (¬ m.f0 < 1 ∧ ¬ m.f0 > 16 ∧ m.f1 < 1) ∨ (¬ m.f0 < 1 ∧ ¬ m.f0 > 16 ∧ ¬ m.f1 < 1 ∧ m.f1 > 96) := by
  unfold okm at h; omega

theorem check_loop (l : List S54) (hl : l.length ≤ 128) (d : Nat) : ∀ (i : Nat) (acc : Int), i + d = l.length → 0 ≤ acc → acc ≤ 1536 * i →
    Ev (fun k => meter_Check.l0 k acc l (l.length : Int) (i : Int)) (if ∀ m ∈ l.drop i, okm m then (if 8192 < acc + tot (l.drop i) then 3 else 0) else 1) := by
  induction d with
  | zero =>
    intro i acc hi h0 h1
    rw [show l.drop i = [] from by rw [List.drop_eq_nil_iff]; omega]
    refine Ev.step (f := fun _ => some (if 8192 < acc then 3 else 0)) (fun k => ?_) ?_
    · simp only [meter_Check.l0]
      rw [if_neg (by omega)]
      by_cases h : 8192 < acc
      · rw [if_pos h, if_pos h]
      · rw [if_neg h, if_neg h]
    · simp only [tot]
      exact Ev.now _ |> fun h => by simpa using h
  | succ d ih =>
    intro i acc hi h0 h1
    have hlt : i < l.length := by omega
    by_cases hok : okm l[i]
    · have hb := mt_bd hok
      have := ih (i + 1) (acc + mt l[i]) (by omega) (by omega) (by push_cast; omega)
      have e1 : (∀ m ∈ l.drop i, okm m) ↔ ∀ m ∈ l.drop (i + 1), okm m := by rw [ok_all_drop hlt]; exact ⟨fun h => h.2, fun h => ⟨hok, h⟩⟩
      have e2 : acc + tot (l.drop i) = acc + mt l[i] + tot (l.drop (i + 1)) := by rw [drop_at hlt]; simp only [tot]; omega
      rw [e2]
      simp only [e1]
      refine Ev.step (fun k => ?_) this
      simp only [meter_Check.l0]
      obtain ⟨o1, o2, o3, o4⟩ := hok
      rw [rd_at hlt, if_pos (by omega), if_pos (by omega), if_pos (by omega), if_neg (by omega), if_neg (by omega), if_neg (by omega), if_neg (by omega)]
      have e3 : wrap64 (l[i].f0 * l[i].f1) = mt l[i] := by unfold mt at hb ⊢; exact w64 (by omega) (by omega)
      rw [e3, w64 (by omega) (by omega), wnat (n := 128) (by omega) (by omega)]
    · have e1 : ¬ ∀ m ∈ l.drop i, okm m := by rw [ok_all_drop hlt]; exact fun h => hok h.1
      rw [if_neg e1]
      refine Ev.step (f := fun _ => some 1) (fun k => ?_) (Ev.now 1)
      simp only [meter_Check.l0]
      rw [rd_at hlt, if_pos (by omega), if_pos (by omega), if_pos (by omega)]
      rcases bad_split hok with h | ⟨h, g⟩ | ⟨h, g, e⟩ | ⟨h, g, e, f⟩
      · rw [if_pos h]
      · rw [if_neg h, if_pos g]
      · rw [if_neg h, if_neg g, if_pos e]
      · rw [if_neg h, if_neg g, if_neg e, if_pos f]
theorem check_ev (l : List S54) : Ev (fun k => meter_Check.f k l) (chk l) := by
  unfold chk
  by_cases h1 : l.length = 0
  · rw [if_pos h1]
    refine Ev.congr (f := fun _ => some 4) (fun k => ?_) (Ev.now 4)
    unfold meter_Check.f
    rw [if_pos (by omega)]
  · rw [if_neg h1]
    by_cases h2 : 128 < l.length
    · rw [if_pos h2]
      refine Ev.congr (f := fun _ => some 3) (fun k => ?_) (Ev.now 3)
      unfold meter_Check.f
      rw [if_neg (by omega), if_pos (by omega)]
    · rw [if_neg h2]
      have := check_loop l (by omega) l.length 0 0 (by omega) (by omega) (by omega)
      simp only [List.drop_zero, Int.zero_add] at this
      refine Ev.congr (fun k => ?_) this
      unfold meter_Check.f
      rw [if_neg (by omega), if_neg (by omega)]
      rfl
/-! ### sheets and pages -/
/-- what Check says of a sheet -/
def shc (t c h : Int) : Int := if 1 ≤ t ∧ t ≤ 64 ∧ 4 ≤ c ∧ c ≤ 1000 ∧ 1 ≤ h ∧ h ≤ 100000 then 0 else 35
theorem shc_zero {t c h : Int} (e : shc t c h = 0) : 1 ≤ t ∧ t ≤ 64 ∧ 4 ≤ c ∧ c ≤ 1000 ∧ 1 ≤ h ∧ h ≤ 100000 := by
  unfold shc at e
  by_cases g : 1 ≤ t ∧ t ≤ 64 ∧ 4 ≤ c ∧ c ≤ 1000 ∧ 1 ≤ h ∧ h ≤ 100000
  · exact g
  · rw [if_neg g] at e; omega
theorem lcheck_eq (t c h : Int) : layout_Check.f t c h = some (shc t c h) := by
  unfold layout_Check.f shc
  by_cases h1 : t < 1
  · rw [if_pos h1, if_neg (by omega)]
  · by_cases h2 : t > 64
    · rw [if_neg h1, if_pos h2, if_neg (by omega)]
    · by_cases h3 : c < 4
      · rw [if_neg h1, if_neg h2, if_pos h3, if_neg (by omega)]
      · by_cases h4 : c > 1000
        · rw [if_neg h1, if_neg h2, if_neg h3, if_pos h4, if_neg (by omega)]
        · by_cases h5 : h < 1
          · rw [if_neg h1, if_neg h2, if_neg h3, if_neg h4, if_pos h5, if_neg (by omega)]
          · by_cases h6 : h > 100000
            · rw [if_neg h1, if_neg h2, if_neg h3, if_neg h4, if_neg h5, if_pos h6, if_neg (by omega)]
            · rw [if_neg h1, if_neg h2, if_neg h3, if_neg h4, if_neg h5, if_neg h6, if_pos (by omega)]
/-- the height of the measures from a to b - 1 -/
def Ht (l : List S54) (t : Int) (a b : Nat) : Int := (tot (l.take b) - tot (l.take a)) * t
theorem Ht_mono {l : List S54} (ho : ∀ m ∈ l, okm m) {t : Int} (ht : 0 ≤ t) {a b a' b' : Nat} (h1 : a' ≤ a) (h2 : b ≤ b') : Ht l t a b ≤ Ht l t a' b' := by
  have e1 := tot_take_mono ho h1
  have e2 := tot_take_mono ho h2
  exact Int.mul_le_mul_of_nonneg_right (by omega) ht
theorem Ht_self (l : List S54) (t : Int) (a : Nat) : Ht l t a a = 0 := by unfold Ht; rw [Int.sub_self, Int.zero_mul]
theorem Ht_succ {l : List S54} {t : Int} {a b : Nat} (h : b < l.length) : Ht l t a (b + 1) = Ht l t a b + mt l[b] * t := by
  unfold Ht
  rw [tot_take_succ h, ← Int.add_mul]
  congr 1
  omega
theorem Ht_one {l : List S54} {t : Int} {b : Nat} (h : b < l.length) : Ht l t b (b + 1) = mt l[b] * t := by rw [Ht_succ h, Ht_self]; omega
theorem mul_bd {x t : Int} (h0 : 0 ≤ x) (h1 : x ≤ 200000) (t0 : 1 ≤ t) (t1 : t ≤ 64) : 0 ≤ x * t ∧ x * t ≤ 12800000 :=
  ⟨Int.mul_nonneg h0 (by omega), Int.le_trans (Int.mul_le_mul h1 t1 (by omega) (by omega)) (by omega)⟩
theorem Ht_bd {l : List S54} (ho : ∀ m ∈ l, okm m) (hl : l.length ≤ 128) {t : Int} (t0 : 1 ≤ t) (t1 : t ≤ 64) {a b : Nat} (h : a ≤ b) : 0 ≤ Ht l t a b ∧ Ht l t a b ≤ 12800000 := by
  have e1 := tot_take_mono ho h
  have e2 := tot_take_bd ho hl a
  have e3 := tot_take_bd ho hl b
  exact mul_bd (by omega) (by omega) t0 t1
/-- a page from a to b - 1: as many measures as fit -/
structure Gr (l : List S54) (t h : Int) (a b : Nat) : Prop where
  lt : a < b
  le : b ≤ l.length
  fit : Ht l t a b ≤ h
  full : b < l.length → h < Ht l t a (b + 1)
/-- the pages from the measure a on -/
inductive Pg (l : List S54) (t h : Int) : Nat → List S46 → Prop
  | nil : Pg l t h l.length []
  | cons {a b : Nat} {ps : List S46} : Gr l t h a b → Pg l t h b ps → Pg l t h a (⟨(a : Int), (b : Int)⟩ :: ps)
theorem Gr.uniq {l : List S54} (ho : ∀ m ∈ l, okm m) {t h : Int} (ht : 0 ≤ t) {a b c : Nat} (h1 : Gr l t h a b) (h2 : Gr l t h a c) : b = c := by
  rcases Nat.lt_trichotomy b c with e | e | e
  · have g1 := h1.full (by have := h2.le; omega)
    have g2 := Ht_mono ho ht (Nat.le_refl a) (show b + 1 ≤ c by omega)
    have g3 := h2.fit
    omega
  · exact e
  · have g1 := h2.full (by have := h1.le; omega)
    have g2 := Ht_mono ho ht (Nat.le_refl a) (show c + 1 ≤ b by omega)
    have g3 := h1.fit
    omega
theorem Pg.uniq {l : List S54} (ho : ∀ m ∈ l, okm m) {t h : Int} (ht : 0 ≤ t) {a : Nat} {ps qs : List S46} (h1 : Pg l t h a ps) (h2 : Pg l t h a qs) : ps = qs := by
  induction h1 generalizing qs with
  | nil =>
    cases h2 with
    | nil => rfl
    | cons g _ => have := g.lt; have := g.le; omega
  | cons g _ ih =>
    cases h2 with
    | nil => have := g.lt; have := g.le; omega
    | cons g' p' =>
      obtain rfl := g.uniq ho ht g'
      rw [ih p']
/-- no measure is higher than a page -/
def Fits (l : List S54) (t h : Int) : Prop := ∀ m ∈ l, mt m * t ≤ h
instance (l : List S54) (t h : Int) : Decidable (Fits l t h) := by unfold Fits; infer_instance
theorem Gr.exists {l : List S54} {t h : Int} (hf : Fits l t h) {a : Nat} (ha : a < l.length) : ∃ b, Gr l t h a b := by
  have key : ∀ d b, a < b → b ≤ l.length → l.length - b = d → Ht l t a b ≤ h → ∃ b, Gr l t h a b := by
    intro d
    induction d with
    | zero => intro b h1 h2 h3 h4; exact ⟨b, h1, h2, h4, fun h => by omega⟩
    | succ d ih =>
      intro b h1 h2 h3 h4
      by_cases e : Ht l t a (b + 1) ≤ h
      · exact ih (b + 1) (by omega) (by omega) (by omega) e
      · exact ⟨b, h1, h2, h4, fun _ => by omega⟩
  exact key _ (a + 1) (by omega) (by omega) rfl (by rw [Ht_one ha]; exact hf _ (List.getElem_mem ha))
theorem Pg.exists {l : List S54} {t h : Int} (hf : Fits l t h) (d : Nat) : ∀ a, a ≤ l.length → l.length - a ≤ d → ∃ ps, Pg l t h a ps := by
  induction d with
  | zero =>
    intro a h1 h2
    obtain rfl : a = l.length := by omega
    exact ⟨[], .nil⟩
  | succ d ih =>
    intro a h1 h2
    by_cases e : a = l.length
    · subst e; exact ⟨[], .nil⟩
    · obtain ⟨b, g⟩ := Gr.exists hf (a := a) (by omega)
      have := g.lt
      obtain ⟨ps, p⟩ := ih b g.le (by omega)
      exact ⟨_, .cons g p⟩
theorem Pg.length {l : List S54} {t h : Int} {a : Nat} {ps : List S46} (p : Pg l t h a ps) : ps.length + a ≤ l.length := by
  induction p with
  | nil => simp
  | cons g _ ih => have := g.lt; simp only [List.length_cons]; omega
/-! ### Pages -/
theorem height_eq {m : S54} (hm : okm m) {t : Int} (t0 : 1 ≤ t) (t1 : t ≤ 64) (c h : Int) : layout_height.f t c h m.f0 m.f1 = some (mt m * t) := by
  have hb := mt_bd hm
  have := mul_bd (x := mt m) (by omega) (by omega) t0 t1
  unfold layout_height.f
  have e : wrap64 (m.f0 * m.f1) = mt m := by unfold mt at hb ⊢; exact w64 (by omega) (by omega)
  rw [e, w64 (by omega) (by omega)]
theorem pages_fill {l : List S54} (g : Good l) {t c h : Int} (t0 : 1 ≤ t) (t1 : t ≤ 64) (hh : h ≤ 100000) {a e : Nat} (hg : Gr l t h a e) (out : List S46) (ho : out.length ≤ 128) (r : List S46 × Int)
    (hn : Ev (fun k => layout_Pages.l1 k l (out ++ [⟨(a : Int), (e : Int)⟩]) (e : Int) t c h) r) (d : Nat) :
    ∀ b : Nat, a ≤ b → b + d = e → Ev (fun k => layout_Pages.l2 k l out (a : Int) (b : Int) (Ht l t a b) t c h) r := by
  have hl := g.len
  have hle := hg.le
  induction d with
  | zero =>
    intro b h1 h2
    obtain rfl : b = e := by omega
    refine Ev.step (fun k => ?_) hn
    simp only [layout_Pages.l2]
    by_cases hb : b = l.length
    · rw [if_pos (by omega), if_pos (by omega)]
    · have hlt : b < l.length := by omega
      have hf := hg.full hlt
      have hbd := Ht_bd g.ok g.len t0 t1 (a := a) (b := b + 1) (by omega)
      rw [Ht_succ hlt] at hf hbd
      rw [if_neg (by omega), if_pos (by omega), if_pos (by omega), rd_at hlt, height_eq (g.ok _ (List.getElem_mem hlt)) t0 t1]
      simp only [Option.bind_some]
      rw [w64 (by omega) (by omega), if_pos (by omega), if_pos (by omega)]
  | succ d ih =>
    intro b h1 h2
    have hlt : b < l.length := by omega
    have := ih (b + 1) (by omega) (by omega)
    have hm := Ht_mono g.ok (t := t) (by omega) (Nat.le_refl a) (show b + 1 ≤ e by omega)
    have hfit := hg.fit
    have hbd := Ht_bd g.ok g.len t0 t1 (a := a) (b := b + 1) (by omega)
    rw [Ht_succ hlt] at hm hbd this
    refine Ev.step (fun k => ?_) this
    simp only [layout_Pages.l2]
    rw [if_neg (by omega), if_pos (by omega), if_pos (by omega), rd_at hlt, height_eq (g.ok _ (List.getElem_mem hlt)) t0 t1]
    simp only [Option.bind_some]
    rw [w64 (by omega) (by omega), if_neg (by omega), wnat (n := 128) (i := b) (by omega) (by omega)]
theorem pages_walk {l : List S54} (g : Good l) {t c h : Int} (t0 : 1 ≤ t) (t1 : t ≤ 64) (hh : h ≤ 100000) {a : Nat} {ps : List S46} (p : Pg l t h a ps) :
    ∀ out : List S46, out.length ≤ a → Ev (fun k => layout_Pages.l1 k l out (a : Int) t c h) (out ++ ps, 0) := by
  have hl := g.len
  induction p with
  | nil =>
    intro out ho
    rw [List.append_nil]
    refine Ev.step (f := fun _ => some (out, 0)) (fun k => ?_) (Ev.now _)
    simp only [layout_Pages.l1]
    rw [if_neg (by omega)]
  | @cons a b ps hg p ih =>
    intro out ho
    have h1 := hg.lt
    have h2 := hg.le
    have := ih (out ++ [⟨(a : Int), (b : Int)⟩]) (by simp; omega)
    rw [List.append_assoc, List.singleton_append] at this
    have := pages_fill g t0 t1 hh hg out (by omega) _ this (b - a) a (Nat.le_refl a) (by omega)
    rw [Ht_self] at this
    refine Ev.step (fun k => ?_) this
    simp only [layout_Pages.l1]
    rw [if_pos (by omega)]
theorem pages_scan {l : List S54} (g : Good l) {t c h : Int} (t0 : 1 ≤ t) (t1 : t ≤ 64) (hf : Fits l t h) (r : List S46 × Int) (hn : Ev (fun k => layout_Pages.l1 k l [] 0 t c h) r) (d : Nat) :
    ∀ i : Nat, i + d = l.length → Ev (fun k => layout_Pages.l0 k l l (l.length : Int) (i : Int) t c h) r := by
  have hl := g.len
  induction d with
  | zero =>
    intro i hi
    refine Ev.step (fun k => ?_) hn
    simp only [layout_Pages.l0]
    rw [if_neg (by omega)]
  | succ d ih =>
    intro i hi
    have hlt : i < l.length := by omega
    have hm := hf _ (List.getElem_mem hlt)
    refine Ev.step (fun k => ?_) (ih (i + 1) (by omega))
    simp only [layout_Pages.l0]
    rw [if_pos (by omega), if_pos (by omega), if_pos (by omega), rd_at hlt, height_eq (g.ok _ (List.getElem_mem hlt)) t0 t1]
    simp only [Option.bind_some]
    rw [if_neg (by omega), wnat (n := 128) (i := i) (by omega) (by omega)]
theorem pages_high {l : List S54} (g : Good l) {t c h : Int} (t0 : 1 ≤ t) (t1 : t ≤ 64) (d : Nat) :
    ∀ i : Nat, i + d = l.length → ¬ Fits (l.drop i) t h → Ev (fun k => layout_Pages.l0 k l l (l.length : Int) (i : Int) t c h) ([], 35) := by
  have hl := g.len
  induction d with
  | zero =>
    intro i hi hf
    rw [show l.drop i = [] from by rw [List.drop_eq_nil_iff]; omega] at hf
    exact absurd (fun m hm => by cases hm) hf
  | succ d ih =>
    intro i hi hf
    have hlt : i < l.length := by omega
    by_cases hm : mt l[i] * t ≤ h
    · have := ih (i + 1) (by omega) (by
        intro h'
        apply hf
        rw [drop_at hlt]
        intro m hm'
        rcases List.mem_cons.1 hm' with rfl | h''
        · exact hm
        · exact h' m h'')
      refine Ev.step (fun k => ?_) this
      simp only [layout_Pages.l0]
      rw [if_pos (by omega), if_pos (by omega), if_pos (by omega), rd_at hlt, height_eq (g.ok _ (List.getElem_mem hlt)) t0 t1]
      simp only [Option.bind_some]
      rw [if_neg (by omega), wnat (n := 128) (i := i) (by omega) (by omega)]
    · refine Ev.step (f := fun _ => some ([], 35)) (fun k => ?_) (Ev.now _)
      simp only [layout_Pages.l0]
      rw [if_pos (by omega), if_pos (by omega), if_pos (by omega), rd_at hlt, height_eq (g.ok _ (List.getElem_mem hlt)) t0 t1]
      simp only [Option.bind_some]
      rw [if_pos (by omega)]
/-- what Pages says of a sheet with meters -/
def perr (t c h : Int) (l : List S54) : Int := if shc t c h ≠ 0 then shc t c h else if chk l ≠ 0 then chk l else if Fits l t h then 0 else 35
/-- a sheet with meters that Pages lets by -/
structure Well (t c h : Int) (l : List S54) : Prop where
  t0 : 1 ≤ t
  t1 : t ≤ 64
  c0 : 4 ≤ c
  c1 : c ≤ 1000
  h0 : 1 ≤ h
  h1 : h ≤ 100000
  good : Good l
  fits : Fits l t h
theorem perr_well {t c h : Int} {l : List S54} (e : perr t c h l = 0) : Well t c h l := by
  unfold perr at e
  by_cases h1 : shc t c h ≠ 0
  · rw [if_pos h1] at e; exact absurd e h1
  · rw [if_neg h1] at e
    by_cases h2 : chk l ≠ 0
    · rw [if_pos h2] at e; exact absurd e h2
    · rw [if_neg h2] at e
      by_cases h3 : Fits l t h
      · obtain ⟨a, b, c', d, e', f⟩ := shc_zero (by omega : shc t c h = 0)
        exact ⟨a, b, c', d, e', f, chk_good (by omega), h3⟩
      · rw [if_neg h3] at e; omega
theorem well_shc {t c h : Int} {l : List S54} (w : Well t c h l) : shc t c h = 0 := by
  obtain ⟨a, b, c', d, e', f, _, _⟩ := w
  unfold shc
  rw [if_pos ⟨a, b, c', d, e', f⟩]
theorem well_perr {t c h : Int} {l : List S54} (w : Well t c h l) : perr t c h l = 0 := by
  have h1 := well_shc w
  have h2 := good_chk w.good
  unfold perr
  rw [if_neg (by omega), if_neg (by omega), if_pos w.fits]
theorem pages_bad {t c h : Int} {l : List S54} (e : perr t c h l ≠ 0) : Ev (fun k => layout_Pages.f k t c h l) ([], perr t c h l) := by
  unfold perr at *
  unfold layout_Pages.f
  rw [lcheck_eq]
  simp only [Option.bind_some]
  by_cases h1 : shc t c h ≠ 0
  · rw [if_pos h1]
    simp only [if_neg h1]
    exact Ev.now _
  · rw [if_neg h1] at e ⊢
    simp only [if_pos (show shc t c h = 0 by omega)]
    refine Ev.bind (check_ev l) ?_
    by_cases h2 : chk l ≠ 0
    · rw [if_pos h2]
      simp only [if_neg h2]
      exact Ev.now _
    · rw [if_neg h2] at e ⊢
      simp only [if_pos (show chk l = 0 by omega)]
      by_cases h3 : Fits l t h
      · rw [if_pos h3] at e; exact absurd rfl e
      · rw [if_neg h3]
        obtain ⟨a, b, _, _, _, _⟩ := shc_zero (by omega : shc t c h = 0)
        have := pages_high (c := c) (chk_good (by omega : chk l = 0)) a b l.length 0 (by omega) (by simpa using h3)
        simpa only [Int.natCast_zero] using this
theorem pages_well {t c h : Int} {l : List S54} (w : Well t c h l) {ps : List S46} (p : Pg l t h 0 ps) : Ev (fun k => layout_Pages.f k t c h l) (ps, 0) := by
  have h1 := well_shc w
  have h2 := check_ev l
  rw [good_chk w.good] at h2
  unfold layout_Pages.f
  rw [lcheck_eq]
  simp only [Option.bind_some, if_pos h1]
  refine Ev.bind h2 ?_
  simp only [if_true]
  have h3 := pages_walk w.good (c := c) w.t0 w.t1 w.h1 p [] (by simp)
  simp only [Int.natCast_zero, List.nil_append] at h3
  have h4 := pages_scan w.good w.t0 w.t1 w.fits _ h3 l.length 0 (by omega)
  simpa only [Int.natCast_zero] using h4
theorem well_pages {t c h : Int} {l : List S54} (w : Well t c h l) : ∃ ps, Pg l t h 0 ps := Pg.exists w.fits l.length 0 (by omega) (by omega)
theorem rd_page {ps : List S46} {i : Nat} (h : i < ps.length) : rd_T46 ps (i : Int) = ps[i] := by
  unfold rd_T46
  simp [List.getD_eq_getElem?_getD, h]
theorem fits_loop {l : List S54} (g : Good l) {t : Int} (t0 : 1 ≤ t) (t1 : t ≤ 64) (c h : Int) {a b : Nat} (hb : b ≤ l.length) (d : Nat) : ∀ i : Nat, a ≤ i → i + d = b →
    Ev (fun k => dancestudiolaw40_fits.l0 k l (b : Int) (Ht l t a i) (i : Int) t c h) (decide (Ht l t a b ≤ h)) := by
  have hl := g.len
  induction d with
  | zero =>
    intro i h1 h2
    obtain rfl : i = b := by omega
    refine Ev.step (f := fun _ => some (decide (Ht l t a i ≤ h))) (fun k => ?_) (Ev.now _)
    simp only [dancestudiolaw40_fits.l0]
    rw [if_neg (by omega)]
  | succ d ih =>
    intro i h1 h2
    have hlt : i < l.length := by omega
    have := ih (i + 1) (by omega) (by omega)
    have hbd := Ht_bd g.ok g.len t0 t1 (a := a) (b := i + 1) (by omega)
    rw [Ht_succ hlt] at this hbd
    have hb := mt_bd (g.ok _ (List.getElem_mem hlt))
    have hm := mul_bd (x := mt l[i]) (by omega) (by omega) t0 t1
    have e : wrap64 (l[i].f0 * l[i].f1) = mt l[i] := by unfold mt at hb ⊢; exact w64 (by omega) (by omega)
    refine Ev.step (fun k => ?_) this
    simp only [dancestudiolaw40_fits.l0]
    rw [if_pos (by omega), if_pos (by omega), if_pos (by omega), rd_at hlt, e, w64 (n := mt l[i] * t) (by omega) (by omega), w64 (by omega) (by omega), wnat (n := 128) (i := i) (by omega) (by omega)]
theorem fits_ev {l : List S54} (g : Good l) {t : Int} (t0 : 1 ≤ t) (t1 : t ≤ 64) (c h : Int) {a b : Nat} (hab : a ≤ b) (hb : b ≤ l.length) : Ev (fun k => dancestudiolaw40_fits.f k t c h l (a : Int) (b : Int)) (decide (Ht l t a b ≤ h)) := by
  have := fits_loop g t0 t1 c h hb (b - a) a (Nat.le_refl a) (by omega)
  rw [Ht_self] at this
  exact Ev.congr (fun k => rfl) this
/-! ### the chapter's examples -/
theorem awake_ev : Ev (fun k => dancestudiolaw40_awake.f k) true := Ev.of (fun k => dancestudiolaw40_awake.mono k) (k := 60) (by kernel_rfl)
theorem covers_loop {t c h : Int} {l : List S54} (w : Well t c h l) (ps : List S46) (hps : ps.length ≤ 128) {a : Nat} {qs : List S46} (q : Pg l t h a qs) : ∀ i : Nat, ps.drop i = qs → i ≤ ps.length →
    Ev (fun k => dancestudiolaw40_LayoutCovers.l0 k l ps (a : Int) (i : Int) t c h) true := by
  have hl := w.good.len
  induction q with
  | nil =>
    intro i hi hle
    have : ps.length ≤ i := by rw [List.drop_eq_nil_iff] at hi; exact hi
    refine Ev.step (f := fun k => (dancestudiolaw40_awake.f k).bind fun b => some b) (fun k => ?_) (Ev.bind awake_ev (Ev.now _))
    simp only [dancestudiolaw40_LayoutCovers.l0]
    rw [if_neg (by omega), if_pos trivial]
  | @cons a b qs g q ih =>
    intro i hi hle
    have hlt : i < ps.length := by
      rcases Nat.lt_or_ge i ps.length with h | h
      · exact h
      · rw [List.drop_eq_nil_iff.2 h] at hi; cases hi
    rw [List.drop_eq_getElem_cons hlt] at hi
    obtain ⟨e1, e2⟩ := List.cons.inj hi
    have h1 := g.lt
    have h2 := g.le
    have hn := ih (i + 1) e2 (by omega)
    have e3 : Ev (fun k => (dancestudiolaw40_fits.f k t c h l (a : Int) (b : Int)).bind fun f => if f = true then (if (b : Int) < (l.length : Int) then ((dancestudiolaw40_fits.f k t c h l (a : Int) ((b + 1 : Nat) : Int)).bind fun f => if f = true then some false else dancestudiolaw40_LayoutCovers.l0 k l ps (b : Int) ((i + 1 : Nat) : Int) t c h) else dancestudiolaw40_LayoutCovers.l0 k l ps (b : Int) ((i + 1 : Nat) : Int) t c h) else some false) true := by
      refine Ev.bind (fits_ev w.good w.t0 w.t1 c h (by omega) h2) ?_
      simp only [decide_eq_true g.fit, if_true]
      by_cases hb : b < l.length
      · simp only [if_pos (show (b : Int) < (l.length : Int) by omega)]
        refine Ev.bind (fits_ev w.good w.t0 w.t1 c h (by omega) (by omega)) ?_
        have := g.full hb
        simp only [decide_eq_false (show ¬ Ht l t a (b + 1) ≤ h by omega), Bool.false_eq_true, if_false]
        exact hn
      · simp only [if_neg (show ¬ (b : Int) < (l.length : Int) by omega)]
        exact hn
    refine Ev.step (fun k => ?_) e3
    simp only [dancestudiolaw40_LayoutCovers.l0]
    rw [if_pos (by omega), if_pos (by omega), rd_page hlt, e1]
    simp only [if_true, if_neg (show ¬ (b : Int) ≤ (a : Int) by omega), if_neg (show ¬ (b : Int) > (l.length : Int) by omega)]
    rw [wnat (n := 129) (i := b) (by omega) (by omega), wnat (n := 200) (i := i) (by omega) (by omega)]
/-- LayoutCovers returns true, for every sheet and list. -/
theorem pure_LayoutCovers (t : Int) (_ : (Lit.int .i64 t).wf = true) (c : Int) (_ : (Lit.int .i64 c).wf = true) (h : Int) (_ : (Lit.int .i64 h).wf = true) (l : List S54) (_ : l.length * 16 ≤ 140737488351232) :
    ∃ k, dancestudiolaw40_LayoutCovers.f k t c h l = some true := by
  refine Ev.rounds (g := fun k => dancestudiolaw40_LayoutCovers.f k t c h l) ?_
  unfold dancestudiolaw40_LayoutCovers.f
  by_cases e : perr t c h l = 0
  · have w := perr_well e
    obtain ⟨ps, p⟩ := well_pages w
    refine Ev.bind (pages_well w p) ?_
    rw [lcheck_eq, well_shc w]
    simp only [if_true, Option.bind_some]
    have h1 := check_ev l
    rw [good_chk w.good] at h1
    refine Ev.bind h1 ?_
    have := covers_loop (c := c) w ps (by have := p.length; have := w.good.len; omega) p 0 rfl (by omega)
    simp only [Int.natCast_zero] at this
    exact Ev.step (fun k => by simp only [dancestudiolaw40_LayoutCovers.j0]; rw [if_neg (by decide)]) this
  · refine Ev.bind (pages_bad e) ?_
    simp only [if_neg e]
    exact Ev.bind awake_ev (Ev.now _)
end Go.Proofs.Ytmchbeobljgkeaa.PLayoutCovers
