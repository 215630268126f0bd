/- The pure part of FnExactFrontMove. -/
import Derived.Test.YtiegpijhkhopgaaVFnExactFrontMovex
namespace Go.Proofs.Ytiegpijhkhopgaa.Pure
open Go.RowKit Go.Proofs.Ytiegpijhkhopgaa.PFnExactFrontMove Go.Proofs.YtiegpijhkhopgaaW.PrintWords Go.Proofs.YtiegpijhkhopgaaW.PrintLast Go.Proofs.YtiegpijhkhopgaaW.PrintMore Go.Proofs.Ytiegpijhkhopgaa.EvP
/-! what the functions on times say -/
def okT (a b : Int) : Bool := decide (0 ≤ a ∧ a ≤ 7 ∧ 0 ≤ b ∧ b ≤ 7)
def leT (a b c d : Int) : Bool := okT a b && okT c d && decide (a ≤ c ∧ b ≤ d)
theorem okT_true {a b : Int} (h : okT a b = true) : 0 ≤ a ∧ a ≤ 7 ∧ 0 ≤ b ∧ b ≤ 7 := of_decide_eq_true h
theorem leT_true {a b c d : Int} (h : leT a b c d = true) : (0 ≤ a ∧ a ≤ 7 ∧ 0 ≤ b ∧ b ≤ 7) ∧ (0 ≤ c ∧ c ≤ 7 ∧ 0 ≤ d ∧ d ≤ 7) ∧ a ≤ c ∧ b ≤ d := by simpa [leT, okT, and_assoc] using h
theorem leT_mk {a b c d : Int} (h : (0 ≤ a ∧ a ≤ 7 ∧ 0 ≤ b ∧ b ≤ 7) ∧ (0 ≤ c ∧ c ≤ 7 ∧ 0 ≤ d ∧ d ≤ 7) ∧ a ≤ c ∧ b ≤ d) : leT a b c d = true := by simpa [leT, okT, and_assoc] using h
theorem s_ok (a b : Int) : spec_TimeOk.f a b = some (okT a b) := by
  unfold spec_TimeOk.f spec_l6In.f okT
  by_cases h0 : 0 ≤ a <;> by_cases h1 : a ≤ 7 <;> by_cases h2 : 0 ≤ b <;> by_cases h3 : b ≤ 7 <;> simp [h0, h1, h2, h3]
theorem i_ok (a b : Int) : impl_TimeOk.f a b = some (okT a b) := by
  unfold impl_TimeOk.f okT
  by_cases h0 : 0 ≤ a <;> by_cases h1 : a ≤ 7 <;> by_cases h2 : 0 ≤ b <;> by_cases h3 : b ≤ 7 <;> simp [h0, h1, h2, h3]


theorem up1 {i n : Nat} (h : i < n) (hn : n ≤ 4611686018427387904) : wrap64 ((i : Int) + 1) = ((i + 1 : Nat) : Int) := by
  rw [w64 (by omega) (by omega)]; rfl

/-! lists of times -/
abbrev Tm := S26
theorem rdT_drop {xs : List Tm} {i : Nat} (h : i < xs.length) : xs.drop i = rd_T26 xs (i : Int) :: xs.drop (i + 1) := by
  unfold rd_T26
  rw [List.drop_eq_getElem_cons h, List.getD_eq_getElem?_getD, Int.toNat_natCast, List.getElem?_eq_getElem h]
  rfl

/-! the laws' own times made into the program's -/
abbrev TmA := S24
def cvT (x : TmA) : Tm := ⟨x.f0, x.f1⟩
theorem rdA_drop {xs : List TmA} {i : Nat} (h : i < xs.length) : xs.drop i = rd_T24 xs (i : Int) :: xs.drop (i + 1) := by
  unfold rd_T24
  rw [List.drop_eq_getElem_cons h, List.getD_eq_getElem?_getD, Int.toNat_natCast, List.getElem?_eq_getElem h]
  rfl
theorem toTimeS_loop (l : List TmA) (hl : l.length ≤ 1048576) (d : Nat) : ∀ (i : Nat) (out : List Tm), i + d = l.length → out.length = l.length →
    Ev (fun k => laws_toTimeS.l0 k l out (i : Int)) (out.take i ++ (l.drop i).map cvT) := by
  induction d with
  | zero =>
    intro i out hi ho
    refine Ev.step (fun k => by rw [laws_toTimeS.l0]) ?_
    refine Ev.congr (fun k => if_neg (by omega)) ?_
    rw [List.take_of_length_le (by omega), List.drop_eq_nil_of_le (by omega)]
    simpa using Ev.now out
  | succ d ih =>
    intro i out hi ho
    have hlt : i < l.length := by omega
    refine Ev.step (fun k => by rw [laws_toTimeS.l0]) ?_
    refine Ev.congr (fun k => (if_pos (by omega)).trans (if_pos (by omega))) ?_
    refine Ev.bind (Ev.now _) ?_
    refine Ev.congr (fun k => if_pos (by omega)) ?_
    rw [up1 hlt (by omega)]
    have := ih (i + 1) (out.set i (cvT (rd_T24 l (i : Int)))) (by omega) (by simpa using ho)
    rw [List.take_succ_eq_append_getElem (by simp; omega), List.getElem_set_self, List.take_set_of_le (by omega)] at this
    rw [rdA_drop hlt, List.map_cons]
    simpa [cvT] using this
theorem toTimeS_ev (l : List TmA) (hl : l.length ≤ 1048576) : Ev (fun k => laws_toTimeS.f k l) (l.map cvT) := by
  unfold laws_toTimeS.f
  refine Ev.congr (fun k => (if_pos (by omega)).trans (if_pos (by omega))) ?_
  simpa using toTimeS_loop l hl l.length 0 (List.replicate ((l.length : Int)).toNat z26) (by omega) (by simp)
theorem eqTimeS_loop (l : List Tm) (hl : l.length ≤ 1048576) (d : Nat) : ∀ i : Nat, i + d = l.length → Ev (fun k => laws_eqTimeS.l0 k l l (i : Int)) true := by
  induction d with
  | zero =>
    intro i hi
    refine Ev.step (fun k => by rw [laws_eqTimeS.l0]) ?_
    exact Ev.congr (fun k => if_neg (by omega)) (Ev.now _)
  | succ d ih =>
    intro i hi
    refine Ev.step (fun k => by rw [laws_eqTimeS.l0]) ?_
    refine Ev.congr (fun k => (if_pos (by omega)).trans ((if_pos (by omega)).trans (if_pos (by omega)))) ?_
    refine Ev.bind (a := true) ⟨0, fun k _ => by simp [laws_eqTime.f]⟩ (Ev.congr (fun k => if_pos rfl) ?_)
    rw [up1 (by omega : i < l.length) (by omega)]
    exact ih (i + 1) (by omega)
theorem eqTimeS_ev (l : List Tm) (hl : l.length ≤ 1048576) : Ev (fun k => laws_eqTimeS.f k l l) true := by
  unfold laws_eqTimeS.f
  exact Ev.congr (fun k => if_pos rfl) (eqTimeS_loop l hl l.length 0 (by omega))
theorem szTimeS_big (l : List TmA) (hm : l.length ≤ maxLen) (h : 1048576 < l.length) : laws_szTimeS.f l 1048576 = some (-1) := by
  unfold maxLen at hm
  unfold laws_szTimeS.f
  rw [w64 (by omega) (by omega), if_pos (by omega)]
theorem szTimeS_small (l : List TmA) (a : Int) (ha : a ≤ 1048576) (h : (l.length : Int) ≤ a) : laws_szTimeS.f l a = some (a - (l.length : Int)) := by
  unfold laws_szTimeS.f
  rw [w64 (by omega) (by omega), if_neg (by omega)]

/-! frontiers -/
def fOk1 (p : Tm) : List Tm → Bool
  | [] => true
  | y :: r => okT y.f0 y.f1 && (decide (p.f0 < y.f0) && decide (y.f1 < p.f1)) && fOk1 y r
def fOk : List Tm → Bool
  | [] => true
  | x :: r => okT x.f0 x.f1 && fOk1 x r
theorem sFront_loop (l : List Tm) (hl : l.length ≤ 1048576) (d : Nat) : ∀ i : Nat, i + 1 + d = l.length → Ev (fun k => spec_FrontOk.l0 k l ((i + 1 : Nat) : Int)) (fOk1 (rd_T26 l (i : Int)) (l.drop (i + 1))) := by
  induction d with
  | zero =>
    intro i hi
    refine Ev.step (fun k => by rw [spec_FrontOk.l0]) ?_
    refine Ev.congr (fun k => if_neg (by omega)) ?_
    rw [List.drop_eq_nil_of_le (by omega)]
    exact Ev.now _
  | succ d ih =>
    intro i hi
    rw [rdT_drop (by omega : i + 1 < l.length)]
    unfold fOk1
    have e : wrap64 (((i + 1 : Nat) : Int) - 1) = (i : Int) := by rw [w64 (by omega) (by omega)]; omega
    refine Ev.step (fun k => by rw [spec_FrontOk.l0]) ?_
    refine Ev.congr (fun k => (if_pos (by omega)).trans (if_pos (by omega))) ?_
    refine Ev.bind ⟨0, fun k _ => s_ok _ _⟩ ?_
    cases okT (rd_T26 l ((i + 1 : Nat) : Int)).f0 (rd_T26 l ((i + 1 : Nat) : Int)).f1 with
    | false => exact Ev.now _
    | true =>
      rw [e]
      refine Ev.congr (fun k => (if_pos rfl).trans ((if_pos (by omega)).trans ((if_pos (by omega)).trans (if_pos (by omega))))) ?_
      by_cases h1 : (rd_T26 l (i : Int)).f0 ≥ (rd_T26 l ((i + 1 : Nat) : Int)).f0
      · refine Ev.congr (fun k => if_pos h1) ?_
        rw [decide_eq_false (by omega)]
        exact Ev.now _
      · refine Ev.congr (fun k => if_neg h1) ?_
        rw [decide_eq_true (by omega)]
        by_cases h2 : (rd_T26 l (i : Int)).f1 ≤ (rd_T26 l ((i + 1 : Nat) : Int)).f1
        · refine Ev.congr (fun k => if_pos h2) ?_
          rw [decide_eq_false (by omega)]
          exact Ev.now _
        · refine Ev.congr (fun k => if_neg h2) ?_
          rw [decide_eq_true (by omega), up1 (by omega : i + 1 < l.length) (by omega)]
          exact ih (i + 1) (by omega)
theorem sFront_ev (l : List Tm) (hl : l.length ≤ 1048576) : Ev (fun k => spec_FrontOk.f k l) (fOk l) := by
  unfold spec_FrontOk.f
  cases l with
  | nil =>
    refine Ev.step (fun k => by rw [spec_FrontOk.l0]) ?_
    exact Ev.congr (fun k => if_neg (by simp)) (Ev.now _)
  | cons x r =>
    refine Ev.step (fun k => by rw [spec_FrontOk.l0]) ?_
    refine Ev.congr (fun k => (if_pos (by simp)).trans (if_pos (by omega))) ?_
    refine Ev.bind ⟨0, fun k _ => s_ok _ _⟩ ?_
    unfold fOk
    show Ev _ (okT (rd_T26 (x :: r) 0).f0 (rd_T26 (x :: r) 0).f1 && fOk1 (rd_T26 (x :: r) ((0 : Nat) : Int)) ((x :: r).drop (0 + 1)))
    cases okT (rd_T26 (x :: r) 0).f0 (rd_T26 (x :: r) 0).f1 with
    | false => exact Ev.now _
    | true =>
      refine Ev.congr (fun k => (if_pos rfl).trans (if_neg (by omega))) ?_
      have := sFront_loop (x :: r) hl r.length 0 (by simp; omega)
      simpa [w64] using this
theorem iFront_loop (l : List Tm) (hl : l.length ≤ 1048576) (d : Nat) : ∀ i : Nat, i + 1 + d = l.length → Ev (fun k => impl_FrontOk.l0 k l l (l.length : Int) ((i + 1 : Nat) : Int)) (fOk1 (rd_T26 l (i : Int)) (l.drop (i + 1))) := by
  induction d with
  | zero =>
    intro i hi
    refine Ev.step (fun k => by rw [impl_FrontOk.l0]) ?_
    refine Ev.congr (fun k => if_neg (by omega)) ?_
    rw [List.drop_eq_nil_of_le (by omega)]
    exact Ev.now _
  | succ d ih =>
    intro i hi
    rw [rdT_drop (by omega : i + 1 < l.length)]
    unfold fOk1
    have e : wrap64 (((i + 1 : Nat) : Int) - 1) = (i : Int) := by rw [w64 (by omega) (by omega)]; omega
    refine Ev.step (fun k => by rw [impl_FrontOk.l0]) ?_
    refine Ev.congr (fun k => (if_pos (by omega)).trans ((if_pos (by omega)).trans (if_pos (by omega)))) ?_
    refine Ev.bind ⟨0, fun k _ => i_ok _ _⟩ ?_
    cases okT (rd_T26 l ((i + 1 : Nat) : Int)).f0 (rd_T26 l ((i + 1 : Nat) : Int)).f1 with
    | false => exact Ev.now _
    | true =>
      rw [e]
      refine Ev.congr (fun k => (if_pos rfl).trans ((if_pos (by omega)).trans ((if_pos (by omega)).trans (if_pos (by omega))))) ?_
      by_cases h1 : (rd_T26 l (i : Int)).f0 ≥ (rd_T26 l ((i + 1 : Nat) : Int)).f0
      · refine Ev.congr (fun k => if_pos h1) ?_
        rw [decide_eq_false (by omega)]
        exact Ev.now _
      · refine Ev.congr (fun k => if_neg h1) ?_
        rw [decide_eq_true (by omega)]
        by_cases h2 : (rd_T26 l (i : Int)).f1 ≤ (rd_T26 l ((i + 1 : Nat) : Int)).f1
        · refine Ev.congr (fun k => if_pos h2) ?_
          rw [decide_eq_false (by omega)]
          exact Ev.now _
        · refine Ev.congr (fun k => if_neg h2) ?_
          rw [decide_eq_true (by omega), up1 (by omega : i + 1 < l.length) (by omega)]
          exact ih (i + 1) (by omega)
theorem iFront_ev (l : List Tm) (hl : l.length ≤ 1048576) : Ev (fun k => impl_FrontOk.f k l) (fOk l) := by
  unfold impl_FrontOk.f
  cases l with
  | nil =>
    refine Ev.step (fun k => by rw [impl_FrontOk.l0]) ?_
    exact Ev.congr (fun k => if_neg (by simp)) (Ev.now _)
  | cons x r =>
    refine Ev.step (fun k => by rw [impl_FrontOk.l0]) ?_
    refine Ev.congr (fun k => (if_pos (by simp)).trans ((if_pos (by omega)).trans (if_pos (by simp)))) ?_
    refine Ev.bind ⟨0, fun k _ => i_ok _ _⟩ ?_
    unfold fOk
    show Ev _ (okT (rd_T26 (x :: r) 0).f0 (rd_T26 (x :: r) 0).f1 && fOk1 (rd_T26 (x :: r) ((0 : Nat) : Int)) ((x :: r).drop (0 + 1)))
    cases okT (rd_T26 (x :: r) 0).f0 (rd_T26 (x :: r) 0).f1 with
    | false => exact Ev.now _
    | true =>
      refine Ev.congr (fun k => (if_pos rfl).trans (if_neg (by omega))) ?_
      have := iFront_loop (x :: r) hl r.length 0 (by simp; omega)
      simpa [w64] using this

theorem fOk1_ok {p : Tm} {l : List Tm} (h : fOk1 p l = true) : ∀ x ∈ l, okT x.f0 x.f1 = true := by
  induction l generalizing p with
  | nil => simp
  | cons y r ih =>
    simp only [fOk1, Bool.and_eq_true] at h
    intro x hx
    rcases List.mem_cons.1 hx with rfl | hx
    · exact h.1.1
    · exact ih h.2 x hx
theorem fOk_ok {l : List Tm} (h : fOk l = true) : ∀ x ∈ l, okT x.f0 x.f1 = true := by
  cases l with
  | nil => simp
  | cons y r =>
    simp only [fOk, Bool.and_eq_true] at h
    intro x hx
    rcases List.mem_cons.1 hx with rfl | hx
    · exact h.1
    · exact fOk1_ok h.2 x hx

def joT (a b c d : Int) : Int × Int := if okT a b && okT c d then (max a c, max b d) else (0, 0)
theorem s_join (a b c d : Int) : spec_TimeJoin.f a b c d = some (joT a b c d) := by
  unfold spec_TimeJoin.f joT
  rw [s_ok, s_ok, mx_def, mx_def]
  cases okT a b <;> cases okT c d <;> rfl
theorem i_join (a b c d : Int) : impl_TimeJoin.f a b c d = some (joT a b c d) := by
  unfold impl_TimeJoin.f joT
  rw [i_ok, i_ok, mx_def, mx_def]
  cases okT a b <;> cases okT c d <;> rfl

def meT (a b c d : Int) : Int × Int := if okT a b && okT c d then (min a c, min b d) else (0, 0)
theorem s_meet (a b c d : Int) : spec_TimeMeet.f a b c d = some (meT a b c d) := by
  unfold spec_TimeMeet.f meT
  rw [s_ok, s_ok, mn_def, mn_def]
  cases okT a b <;> cases okT c d <;> rfl
theorem i_meet (a b c d : Int) : impl_TimeMeet.f a b c d = some (meT a b c d) := by
  unfold impl_TimeMeet.f meT
  rw [i_ok, i_ok, mn_def, mn_def]
  cases okT a b <;> cases okT c d <;> rfl

/-! a time moved to a front -/
def mv1 (l : List Tm) (c e : Int) (a : Int × Int) : Int × Int := l.foldl (fun a x => (min a.1 (max x.f0 c), min a.2 (max x.f1 e))) a
def mvR (l : List Tm) (c e : Int) : Int × Int := match l with
  | [] => (c, e)
  | x :: r => mv1 r c e (max x.f0 c, max x.f1 e)
def mvT (l : List Tm) (c e : Int) : Int × Int := if fOk l && okT c e then mvR l c e else (0, 0)
theorem joT_ok {a b c d : Int} (h : okT a b = true) (k : okT c d = true) : joT a b c d = (max a c, max b d) := by simp [joT, h, k]
theorem meT_ok {a b c d : Int} (h : okT a b = true) (k : okT c d = true) : meT a b c d = (min a c, min b d) := by simp [meT, h, k]
theorem okT_max {a b c d : Int} (h : okT a b = true) (k : okT c d = true) : okT (max a c) (max b d) = true := by
  have := okT_true h; have := okT_true k
  exact decide_eq_true (by omega)
theorem okT_min {a b c d : Int} (h : okT a b = true) (k : okT c d = true) : okT (min a c) (min b d) = true := by
  have := okT_true h; have := okT_true k
  exact decide_eq_true (by omega)
theorem rdT_mem {l : List Tm} {i : Nat} (h : i < l.length) : rd_T26 l (i : Int) ∈ l := by
  have := rdT_drop h
  exact List.mem_of_mem_drop (this ▸ List.mem_cons_self)
theorem s_move_loop (l : List Tm) (c e : Int) (hl : l.length ≤ 1048576) (hv : ∀ x ∈ l, okT x.f0 x.f1 = true) (ht : okT c e = true) (d : Nat) : ∀ (i : Nat) (u v : Int), i + d = l.length → okT u v = true →
    Ev (fun k => spec_FrontMove.l0 k l (i : Int) c e u v) (mv1 (l.drop i) c e (u, v)) := by
  induction d with
  | zero =>
    intro i u v hi _
    rw [List.drop_eq_nil_of_le (by omega)]
    refine Ev.step (fun k => by rw [spec_FrontMove.l0]) ?_
    exact (Ev.congr (fun k => if_neg (by omega)) (Ev.now _))
  | succ d ih =>
    intro i u v hi ho
    have hx := hv _ (rdT_mem (by omega : i < l.length))
    rw [rdT_drop (by omega : i < l.length)]
    refine Ev.step (fun k => by rw [spec_FrontMove.l0]) (Ev.congr (fun k => (if_pos (by omega)).trans (if_pos (by omega))) ?_)
    refine Ev.bind ⟨0, fun k _ => (s_join _ _ _ _).trans (congrArg some (joT_ok hx ht))⟩ (Ev.bind ⟨0, fun k _ => (s_meet _ _ _ _).trans (congrArg some (meT_ok ho (okT_max hx ht)))⟩ ?_)
    rw [up1 (by omega : i < l.length) (by omega)]
    exact ih (i + 1) _ _ (by omega) (okT_min ho (okT_max hx ht))
theorem s_move (l : List Tm) (c e : Int) (hl : l.length ≤ 1048576) : Ev (fun k => spec_FrontMove.f k l c e) (mvT l c e) := by
  unfold spec_FrontMove.f mvT
  refine Ev.bind (sFront_ev l hl) ?_
  have out : Ev (fun k => spec_FrontMove.j0 k l true c e) ((0, 0) : Int × Int) := by
    refine Ev.step (fun k => by rw [spec_FrontMove.j0]) ?_
    exact Ev.congr (fun k => if_pos rfl) (Ev.now _)
  cases hf : fOk l with
  | false => exact Ev.congr (fun k => if_neg (by simp)) (by simpa using out)
  | true =>
    refine Ev.congr (fun k => if_pos rfl) (Ev.bind ⟨0, fun k _ => s_ok _ _⟩ ?_)
    cases ht : okT c e with
    | false => simpa using out
    | true =>
      have hv := fOk_ok hf
      refine Ev.step (fun k => by rw [spec_FrontMove.j0]) (Ev.congr (fun k => if_neg (by simp)) ?_)
      simp only [Bool.and_self, if_true]
      cases l with
      | nil => exact Ev.congr (fun k => if_pos rfl) (Ev.now _)
      | cons x r =>
        have hx := hv x List.mem_cons_self
        refine Ev.congr (fun k => (if_neg (by simp; omega)).trans (if_pos (by simp))) (Ev.bind ⟨0, fun k _ => (s_join _ _ _ _).trans (congrArg some (joT_ok (a := x.f0) (b := x.f1) hx ht))⟩ ?_)
        simpa [mvR] using s_move_loop (x :: r) c e hl hv ht r.length 1 _ _ (by simp; omega) (okT_max hx ht)
theorem i_move_loop (l : List Tm) (c e : Int) (hl : l.length ≤ 1048576) (hv : ∀ x ∈ l, okT x.f0 x.f1 = true) (ht : okT c e = true) (d : Nat) : ∀ (i : Nat) (u v : Int), i + d = l.length → okT u v = true →
    Ev (fun k => impl_moved.l0 k l (l.length : Int) (i : Int) c e u v) (mv1 (l.drop i) c e (u, v)) := by
  induction d with
  | zero =>
    intro i u v hi _
    rw [List.drop_eq_nil_of_le (by omega)]
    refine Ev.step (fun k => by rw [impl_moved.l0]) ?_
    exact (Ev.congr (fun k => if_neg (by omega)) (Ev.now _))
  | succ d ih =>
    intro i u v hi ho
    have hx := hv _ (rdT_mem (by omega : i < l.length))
    rw [rdT_drop (by omega : i < l.length)]
    refine Ev.step (fun k => by rw [impl_moved.l0]) (Ev.congr (fun k => (if_pos (by omega)).trans ((if_pos (by omega)).trans (if_pos (by omega)))) ?_)
    refine Ev.bind ⟨0, fun k _ => (i_join _ _ _ _).trans (congrArg some (joT_ok hx ht))⟩ (Ev.bind ⟨0, fun k _ => (i_meet _ _ _ _).trans (congrArg some (meT_ok ho (okT_max hx ht)))⟩ ?_)
    rw [up1 (by omega : i < l.length) (by omega)]
    exact ih (i + 1) _ _ (by omega) (okT_min ho (okT_max hx ht))
theorem i_moved (l : List Tm) (c e : Int) (hl : l.length ≤ 1048576) (hv : ∀ x ∈ l, okT x.f0 x.f1 = true) (ht : okT c e = true) : Ev (fun k => impl_moved.f k l c e) (mvR l c e) := by
  unfold impl_moved.f
  cases l with
  | nil => exact Ev.congr (fun k => if_pos rfl) (Ev.now _)
  | cons x r =>
    have hx := hv x List.mem_cons_self
    refine Ev.congr (fun k => (if_neg (by simp; omega)).trans (if_pos (by simp))) (Ev.bind ⟨0, fun k _ => (i_join _ _ _ _).trans (congrArg some (joT_ok (a := x.f0) (b := x.f1) hx ht))⟩ ?_)
    have := i_move_loop (x :: r) c e hl hv ht (r.length + 1) 0 _ _ (by simp) (okT_max hx ht)
    simpa [mvR, mv1] using this
theorem i_move (l : List Tm) (c e : Int) (hl : l.length ≤ 1048576) : Ev (fun k => impl_FrontMove.f k l c e) (mvT l c e) := by
  unfold impl_FrontMove.f mvT
  refine Ev.bind (iFront_ev l hl) ?_
  cases hf : fOk l with
  | false => exact Ev.now _
  | true =>
    refine Ev.congr (fun k => if_pos rfl) (Ev.bind ⟨0, fun k _ => i_ok _ _⟩ ?_)
    cases ht : okT c e with
    | false => exact Ev.now _
    | true => exact Ev.congr (fun k => if_pos rfl) (Ev.bind (i_moved l c e hl (fOk_ok hf) ht) (Ev.now _))

theorem FnExactFrontMove (l : List TmA) (hm : l.length ≤ maxLen) {P : Prop} (_ : P) (c e : Int) {Q : Prop} (_ : Q) : ∃ k, laws_FnExactFrontMove.f k l c e = some true := by
  refine Ev.rounds ?_
  unfold laws_FnExactFrontMove.f
  by_cases h : 1048576 < l.length
  · exact Ev.bind ⟨0, fun k _ => szTimeS_big l hm h⟩ (Ev.congr (fun k => if_pos (by omega)) (Ev.now _))
  · have hl : l.length ≤ 1048576 := by omega
    have hc : (l.map cvT).length ≤ 1048576 := by simpa using hl
    refine Ev.bind ⟨0, fun k _ => szTimeS_small l 1048576 (by omega) (by omega)⟩ (Ev.congr (fun k => if_neg (by omega)) ?_)
    refine Ev.bind (toTimeS_ev l hl) (Ev.bind (Ev.now (c, e)) (Ev.bind (s_move _ c e hc) (Ev.bind (toTimeS_ev l hl) (Ev.bind (Ev.now (c, e)) (Ev.bind (i_move _ c e hc) (Ev.bind (a := true) ⟨0, fun k _ => by simp [laws_eqTime.f]⟩ (Ev.congr (fun k => if_pos rfl) (Ev.bind (toTimeS_ev l hl) (Ev.bind (eqTimeS_ev _ hc) (Ev.congr (fun k => if_pos rfl) (Ev.now _)))))))))))
end Go.Proofs.Ytiegpijhkhopgaa.Pure
