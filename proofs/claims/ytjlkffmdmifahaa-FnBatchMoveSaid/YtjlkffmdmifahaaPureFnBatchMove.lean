/- The pure part of FnBatchMove. -/
import Derived.Test.YtjlkffmdmifahaaVFnBatchMovex
namespace Go.Proofs.Ytjlkffmdmifahaa.Pure
open Go.RowKit Go.Proofs.Ytjlkffmdmifahaa.PFnBatchMove Go.Proofs.YtjlkffmdmifahaaW.PrintWords Go.Proofs.YtjlkffmdmifahaaW.PrintLast Go.Proofs.YtjlkffmdmifahaaW.PrintMore Go.Proofs.Ytjlkffmdmifahaa.EvP
set_option linter.unusedVariables false
/-! the reader -/
theorem pick_p (l : List Int) (hl : ∀ x ∈ l,0 ≤ x ∧ x ≤ 255) (hn : l.length ≤ 2000) (p n : Int) (hp : 0 ≤ p) (hp2 : p ≤ 1000000000) (h1 : 1 ≤ n) :
  EvP (fun k=>spec_l6Rd_pick.f k l p n) (fun r=>0 ≤ r.1 ∧ r.1 < n ∧ r.2 = p + 1):=by
 have e1 : wrap64 (p + 1) = p + 1:=w64 (by omega) (by omega)
 have e2 : wrap64 (p + 1 - 1) = p:=by rw [Int.add_sub_cancel];exact w64 (by omega) (by omega)
 have key : ∃ v,0 ≤ v ∧ v < n ∧ spec_l6Rd_pick.f 1 l p n = some (v,p + 1):=by
  unfold spec_l6Rd_pick.f
  rw [if_neg (by omega)]
  simp only [spec_l6Rd_pick.j0,e1,e2]
  by_cases h0 : (l.length : Int) = 0
  ·refine ⟨0,by omega,by omega,?_⟩
   rw [if_pos (by simp [h0])]
  ·rw [if_neg (by simpa using h0)]
   by_cases h3 : p < (l.length : Int)
   ·have hb:=rd_byte hl p
    rw [if_pos h3,if_pos hp,if_neg (by omega),w64 (by omega) (by omega)]
    exact ⟨_,Int.tmod_nonneg _ hb.1,Int.tmod_lt_of_pos _ (by omega),rfl⟩
   ·rw [if_neg h3,if_neg h0,if_pos (Int.tmod_nonneg _ hp),if_pos (Int.tmod_lt_of_pos _ (by omega))]
    have e7 : wrap64 (p * 7) = p * 7:=w64 (by omega) (by omega)
    have e73 : wrap64 (p * 7 + 3) = p * 7 + 3:=w64 (by omega) (by omega)
    rw [e7,e73,if_pos (Int.tmod_nonneg _ (by omega)),if_pos (Int.tmod_lt_of_pos _ (by omega)),if_neg (by omega)]
    have b1:=rd_byte hl (Int.tmod p (l.length : Int))
    have b2:=rd_byte hl (Int.tmod (p * 7 + 3) (l.length : Int))
    have hd0 : 0 ≤ Int.tdiv p (l.length : Int):=Int.tdiv_nonneg hp (by omega)
    have hd1 : Int.tdiv p (l.length : Int) ≤ p:=by
     rw [Int.tdiv_eq_ediv_of_nonneg hp]
     exact Int.ediv_le_self _ hp
    generalize rd l (Int.tmod p (l.length : Int)) = u at *
    generalize rd l (Int.tmod (p * 7 + 3) (l.length : Int)) = v at *
    generalize Int.tdiv p (l.length : Int) = q at *
    have x1 : wrap64 u = u:=w64 (by omega) (by omega)
    have x2 : wrap64 v = v:=w64 (by omega) (by omega)
    have x3 : wrap64 q = q:=w64 (by omega) (by omega)
    have x4 : wrap64 (u * 131) = u * 131:=w64 (by omega) (by omega)
    have x5 : wrap64 (v * 1117) = v * 1117:=w64 (by omega) (by omega)
    have x6 : wrap64 (p * 29) = p * 29:=w64 (by omega) (by omega)
    have x7 : wrap64 (q * 53) = q * 53:=w64 (by omega) (by omega)
    have x8 : wrap64 (u * 131 + v * 1117) = u * 131 + v * 1117:=w64 (by omega) (by omega)
    have x9 : wrap64 (u * 131 + v * 1117 + p * 29) = u * 131 + v * 1117 + p * 29:=w64 (by omega) (by omega)
    have x10 : wrap64 (u * 131 + v * 1117 + p * 29 + q * 53) = u * 131 + v * 1117 + p * 29 + q * 53:=w64 (by omega) (by omega)
    rw [x1,x2,x3,x4,x5,x6,x7,x8,x9,x10]
    have hz0 : 0 ≤ u * 131 + v * 1117 + p * 29 + q * 53:=by omega
    have hz1 : u * 131 + v * 1117 + p * 29 + q * 53 < 1000000000000:=by omega
    generalize u * 131 + v * 1117 + p * 29 + q * 53 = z at *
    have y0 : 0 ≤ Int.tdiv z 64:=Int.tdiv_nonneg hz0 (by omega)
    have y1 : Int.tdiv z 64 ≤ z:=by
     rw [Int.tdiv_eq_ediv_of_nonneg hz0]
     exact Int.ediv_le_self _ hz0
    have x11 : wrap64 (Int.tdiv z 64) = Int.tdiv z 64:=w64 (by omega) (by omega)
    rw [x11]
    exact ⟨_,Int.tmod_nonneg _ (xor_nonneg _ _ hz0 (by omega) y0 (by omega)),Int.tmod_lt_of_pos _ (by omega),rfl⟩
 obtain ⟨v,h0,hv,hk⟩:=key
 exact EvP.mono_of (spec_l6Rd_pick.mono l p n) hk ⟨h0,hv,rfl⟩

theorem open_p (l : List Int) (hl : ∀ x ∈ l,0 ≤ x ∧ x ≤ 255) : ∃ l',spec_l6Open.f l = some (l',0) ∧ (∀ x ∈ l',0 ≤ x ∧ x ≤ 255) ∧ l'.length ≤ 2000:=by
 unfold spec_l6Open.f
 by_cases h : (l.length : Int) > 2000
 ·rw [if_pos h,if_pos (by omega)]
  exact ⟨_,rfl,fun x hx=>hl x (List.mem_of_mem_take hx),by rw [List.length_take];omega⟩
 ·rw [if_neg h]
  exact ⟨_,rfl,hl,by omega⟩

theorem time_p (l : List Int) (hl : ∀ x ∈ l,0 ≤ x ∧ x ≤ 255) (hn : l.length ≤ 2000) (p : Int) (hp : 0 ≤ p) (hp2 : p ≤ 900000000) :
  EvP (fun k=>spec_l71Time.f k l p) (fun r=>0 ≤ r.1 ∧ r.1 ≤ 7 ∧ 0 ≤ r.2.1 ∧ r.2.1 ≤ 7 ∧ p ≤ r.2.2 ∧ r.2.2 ≤ p + 3):=by
 unfold spec_l71Time.f
 refine EvP.bind (pick_p l hl hn p 10 hp (by omega) (by omega)) fun a ha=>EvP.ite (fun _=>?_) (fun _=>?_)
 all_goals
  refine EvP.bind (pick_p l hl hn a.2 _ (by omega) (by omega) (by omega)) fun b hb=>EvP.bind (pick_p l hl hn b.2 _ (by omega) (by omega) (by omega)) fun c hc=>EvP.ret ?_
  simp only
  omega

theorem odd_p (l : List Int) (hl : ∀ x ∈ l,0 ≤ x ∧ x ≤ 255) (hn : l.length ≤ 2000) (p : Int) (hp : 0 ≤ p) (hp2 : p ≤ 800000000) :
  EvP (fun k=>spec_l71Odd.f k l p) (fun r=>-1 ≤ r.1 ∧ r.1 ≤ 8 ∧ -1 ≤ r.2.1 ∧ r.2.1 ≤ 8 ∧ p ≤ r.2.2 ∧ r.2.2 ≤ p + 5):=by
 have two : ∀ i : Int,0 ≤ i → i < 2 → -1 ≤ rd [-1,8] i ∧ rd [-1,8] i ≤ 8:=fun i h0 h1=>by
  have : i = 0 ∨ i = 1:=by omega
  rcases this with rfl | rfl <;> decide
 unfold spec_l71Odd.f
 refine EvP.bind (time_p l hl hn p hp (by omega)) fun a ha=>EvP.bind (pick_p l hl hn a.2.2 16 (by omega) (by omega) (by omega)) fun b hb=>EvP.ite (fun _=>?_) (fun _=>EvP.ite (fun _=>?_) (fun _=>EvP.ret (by simp only;omega)))
 all_goals
  refine EvP.let_ rfl (EvP.bind (pick_p l hl hn b.2 2 (by omega) (by omega) (by omega)) fun c hc=>EvP.pos hc.1 (EvP.pos (by simpa using hc.2.1) (EvP.ret ?_)))
  have:=two c.1 hc.1 hc.2.1
  simp only
  omega


/-! what the functions on times say -/
def okT (a b : Int) : Bool:=decide (0 ≤ a ∧ a ≤ 7 ∧ 0 ≤ b ∧ b ≤ 7)
def leT (a b c d : Int) : Bool:=okT a b && okT c d && decide (a ≤ c ∧ b ≤ d)
theorem okT_true {a b : Int} (h : okT a b = true) : 0 ≤ a ∧ a ≤ 7 ∧ 0 ≤ b ∧ b ≤ 7:=of_decide_eq_true h
theorem leT_true {a b c d : Int} (h : leT a b c d = true) : (0 ≤ a ∧ a ≤ 7 ∧ 0 ≤ b ∧ b ≤ 7) ∧ (0 ≤ c ∧ c ≤ 7 ∧ 0 ≤ d ∧ d ≤ 7) ∧ a ≤ c ∧ b ≤ d:=by simpa [leT,okT,and_assoc] using h
theorem s_ok (a b : Int) : spec_TimeOk.f a b = some (okT a b):=by
 unfold spec_TimeOk.f spec_l6In.f okT
 by_cases h0 : 0 ≤ a <;> by_cases h1 : a ≤ 7 <;> by_cases h2 : 0 ≤ b <;> by_cases h3 : b ≤ 7 <;> simp [h0,h1,h2,h3]

theorem i_ok (a b : Int) : impl_TimeOk.f a b = some (okT a b):=by
 unfold impl_TimeOk.f okT
 by_cases h0 : 0 ≤ a <;> by_cases h1 : a ≤ 7 <;> by_cases h2 : 0 ≤ b <;> by_cases h3 : b ≤ 7 <;> simp [h0,h1,h2,h3]



theorem up1 {i n : Nat} (h : i < n) (hn : n ≤ 4611686018427387904) : wrap64 ((i : Int) + 1) = ((i + 1 : Nat) : Int):=by
 rw [w64 (by omega) (by omega)];rfl

/-! lists of rows -/
abbrev Rw:=S38
theorem rdR_drop {xs : List Rw} {i : Nat} (h : i < xs.length) : xs.drop i = rd_T38 xs (i : Int) :: xs.drop (i + 1):=by
 unfold rd_T38
 rw [List.drop_eq_getElem_cons h,List.getD_eq_getElem?_getD,Int.toNat_natCast,List.getElem?_eq_getElem h]
 rfl

/-! lists of items -/
abbrev It:=S83
/-! lists of times -/
abbrev Tm:=S36
theorem rdT_drop {xs : List Tm} {i : Nat} (h : i < xs.length) : xs.drop i = rd_T36 xs (i : Int) :: xs.drop (i + 1):=by
 unfold rd_T36
 rw [List.drop_eq_getElem_cons h,List.getD_eq_getElem?_getD,Int.toNat_natCast,List.getElem?_eq_getElem h]
 rfl

/-! all times -/
def allT : List Tm:=(List.range 8).flatMap fun (a : Nat)=>(List.range 8).map fun (b : Nat)=>(⟨(a : Int),(b : Int)⟩ : Tm)
theorem lwAll_ev : Ev (fun k=>laws_lwAll.f k) allT:=by
 refine Ev.of laws_lwAll.mono (k:=100) ?_
 kernel_rfl
theorem allT_len : allT.length = 64:=by decide
theorem allT_ok : ∀ x ∈ allT,0 ≤ x.f0 ∧ x.f0 ≤ 7 ∧ 0 ≤ x.f1 ∧ x.f1 ≤ 7:=by
 intro x hx
 simp only [allT,List.mem_flatMap,List.mem_map,List.mem_range] at hx
 obtain ⟨a,ha,b,hb,rfl⟩:=hx
 simp only
 omega
/-! frontiers -/
def fOk1 (p : Tm) : List Tm → Bool
 | []=>true
 | y :: r=>okT y.f0 y.f1 && (decide (p.f0 < y.f0) && decide (y.f1 < p.f1)) && fOk1 y r
def fOk : List Tm → Bool
 | []=>true
 | x :: r=>okT x.f0 x.f1 && fOk1 x r
theorem sFront_loop (l : List Tm) (hl : l.length ≤ 1048576) (d : Nat) : ∀ i : Nat,i + 1 + d = l.length → Ev (fun k=>spec_FrontOk.l0 k l ((i + 1 : Nat) : Int)) (fOk1 (rd_T36 l (i : Int)) (l.drop (i + 1))):=by
 induction d with
 | zero =>
  intro i hi
  refine Ev.step (fun k=>by rw [spec_FrontOk.l0]) ?_
  refine Ev.congr (fun k=>if_neg (by omega)) ?_
  rw [List.drop_eq_nil_of_le (by omega)]
  exact Ev.now _
 | succ d ih =>
  intro i hi
  rw [rdT_drop (by omega : i + 1 < l.length)]
  unfold fOk1
  have e : wrap64 (((i + 1 : Nat) : Int) - 1) = (i : Int):=by rw [w64 (by omega) (by omega)];omega
  refine Ev.step (fun k=>by rw [spec_FrontOk.l0]) ?_
  refine Ev.congr (fun k=>(if_pos (by omega)).trans (if_pos (by omega))) ?_
  refine Ev.bind ⟨0,fun k _=>s_ok _ _⟩ ?_
  cases okT (rd_T36 l ((i + 1 : Nat) : Int)).f0 (rd_T36 l ((i + 1 : Nat) : Int)).f1 with
  | false=>exact Ev.now _
  | true =>
   rw [e]
   refine Ev.congr (fun k=>(if_pos rfl).trans ((if_pos (by omega)).trans ((if_pos (by omega)).trans (if_pos (by omega))))) ?_
   by_cases h1 : (rd_T36 l (i : Int)).f0 ≥ (rd_T36 l ((i + 1 : Nat) : Int)).f0
   ·refine Ev.congr (fun k=>if_pos h1) ?_
    rw [decide_eq_false (by omega)]
    exact Ev.now _
   ·refine Ev.congr (fun k=>if_neg h1) ?_
    rw [decide_eq_true (by omega)]
    by_cases h2 : (rd_T36 l (i : Int)).f1 ≤ (rd_T36 l ((i + 1 : Nat) : Int)).f1
    ·refine Ev.congr (fun k=>if_pos h2) ?_
     rw [decide_eq_false (by omega)]
     exact Ev.now _
    ·refine Ev.congr (fun k=>if_neg h2) ?_
     rw [decide_eq_true (by omega),up1 (by omega : i + 1 < l.length) (by omega)]
     exact ih (i + 1) (by omega)
theorem sFront_ev (l : List Tm) (hl : l.length ≤ 1048576) : Ev (fun k=>spec_FrontOk.f k l) (fOk l):=by
 unfold spec_FrontOk.f
 cases l with
 | nil =>
  refine Ev.step (fun k=>by rw [spec_FrontOk.l0]) ?_
  exact Ev.congr (fun k=>if_neg (by simp)) (Ev.now _)
 | cons x r =>
  refine Ev.step (fun k=>by rw [spec_FrontOk.l0]) ?_
  refine Ev.congr (fun k=>(if_pos (by simp)).trans (if_pos (by omega))) ?_
  refine Ev.bind ⟨0,fun k _=>s_ok _ _⟩ ?_
  unfold fOk
  show Ev _ (okT (rd_T36 (x :: r) 0).f0 (rd_T36 (x :: r) 0).f1 && fOk1 (rd_T36 (x :: r) ((0 : Nat) : Int)) ((x :: r).drop (0 + 1)))
  cases okT (rd_T36 (x :: r) 0).f0 (rd_T36 (x :: r) 0).f1 with
  | false=>exact Ev.now _
  | true =>
   refine Ev.congr (fun k=>(if_pos rfl).trans (if_neg (by omega))) ?_
   have:=sFront_loop (x :: r) hl r.length 0 (by simp;omega)
   simpa [w64] using this
theorem iFront_loop (l : List Tm) (hl : l.length ≤ 1048576) (d : Nat) : ∀ i : Nat,i + 1 + d = l.length → Ev (fun k=>impl_FrontOk.l0 k l l (l.length : Int) ((i + 1 : Nat) : Int)) (fOk1 (rd_T36 l (i : Int)) (l.drop (i + 1))):=by
 induction d with
 | zero =>
  intro i hi
  refine Ev.step (fun k=>by rw [impl_FrontOk.l0]) ?_
  refine Ev.congr (fun k=>if_neg (by omega)) ?_
  rw [List.drop_eq_nil_of_le (by omega)]
  exact Ev.now _
 | succ d ih =>
  intro i hi
  rw [rdT_drop (by omega : i + 1 < l.length)]
  unfold fOk1
  have e : wrap64 (((i + 1 : Nat) : Int) - 1) = (i : Int):=by rw [w64 (by omega) (by omega)];omega
  refine Ev.step (fun k=>by rw [impl_FrontOk.l0]) ?_
  refine Ev.congr (fun k=>(if_pos (by omega)).trans ((if_pos (by omega)).trans (if_pos (by omega)))) ?_
  refine Ev.bind ⟨0,fun k _=>i_ok _ _⟩ ?_
  cases okT (rd_T36 l ((i + 1 : Nat) : Int)).f0 (rd_T36 l ((i + 1 : Nat) : Int)).f1 with
  | false=>exact Ev.now _
  | true =>
   rw [e]
   refine Ev.congr (fun k=>(if_pos rfl).trans ((if_pos (by omega)).trans ((if_pos (by omega)).trans (if_pos (by omega))))) ?_
   by_cases h1 : (rd_T36 l (i : Int)).f0 ≥ (rd_T36 l ((i + 1 : Nat) : Int)).f0
   ·refine Ev.congr (fun k=>if_pos h1) ?_
    rw [decide_eq_false (by omega)]
    exact Ev.now _
   ·refine Ev.congr (fun k=>if_neg h1) ?_
    rw [decide_eq_true (by omega)]
    by_cases h2 : (rd_T36 l (i : Int)).f1 ≤ (rd_T36 l ((i + 1 : Nat) : Int)).f1
    ·refine Ev.congr (fun k=>if_pos h2) ?_
     rw [decide_eq_false (by omega)]
     exact Ev.now _
    ·refine Ev.congr (fun k=>if_neg h2) ?_
     rw [decide_eq_true (by omega),up1 (by omega : i + 1 < l.length) (by omega)]
     exact ih (i + 1) (by omega)
theorem iFront_ev (l : List Tm) (hl : l.length ≤ 1048576) : Ev (fun k=>impl_FrontOk.f k l) (fOk l):=by
 unfold impl_FrontOk.f
 cases l with
 | nil =>
  refine Ev.step (fun k=>by rw [impl_FrontOk.l0]) ?_
  exact Ev.congr (fun k=>if_neg (by simp)) (Ev.now _)
 | cons x r =>
  refine Ev.step (fun k=>by rw [impl_FrontOk.l0]) ?_
  refine Ev.congr (fun k=>(if_pos (by simp)).trans ((if_pos (by omega)).trans (if_pos (by simp)))) ?_
  refine Ev.bind ⟨0,fun k _=>i_ok _ _⟩ ?_
  unfold fOk
  show Ev _ (okT (rd_T36 (x :: r) 0).f0 (rd_T36 (x :: r) 0).f1 && fOk1 (rd_T36 (x :: r) ((0 : Nat) : Int)) ((x :: r).drop (0 + 1)))
  cases okT (rd_T36 (x :: r) 0).f0 (rd_T36 (x :: r) 0).f1 with
  | false=>exact Ev.now _
  | true =>
   refine Ev.congr (fun k=>(if_pos rfl).trans (if_neg (by omega))) ?_
   have:=iFront_loop (x :: r) hl r.length 0 (by simp;omega)
   simpa [w64] using this

theorem s_less (a b c d : Int) : spec_TimeLess.f a b c d = some (leT a b c d):=by
 unfold spec_TimeLess.f leT
 rw [s_ok,s_ok]
 cases okT a b <;> cases okT c d <;> by_cases h0 : a ≤ c <;> by_cases h1 : b ≤ d <;> simp [h0,h1]

theorem fOk1_ok {p : Tm} {l : List Tm} (h : fOk1 p l = true) : ∀ x ∈ l,okT x.f0 x.f1 = true:=by
 induction l generalizing p with
 | nil=>simp
 | cons y r ih =>
  simp only [fOk1,Bool.and_eq_true] at h
  intro x hx
  rcases List.mem_cons.1 hx with rfl | hx
  ·exact h.1.1
  ·exact ih h.2 x hx
theorem fOk_ok {l : List Tm} (h : fOk l = true) : ∀ x ∈ l,okT x.f0 x.f1 = true:=by
 cases l with
 | nil=>simp
 | cons y r =>
  simp only [fOk,Bool.and_eq_true] at h
  intro x hx
  rcases List.mem_cons.1 hx with rfl | hx
  ·exact h.1
  ·exact fOk1_ok h.2 x hx
theorem s_covers_loop (l : List Tm) (c e : Int) (hl : l.length ≤ 1048576) (d : Nat) : ∀ i : Nat,i + d = l.length → Ev (fun k=>spec_FrontCovers.l0 k l (i : Int) c e) ((l.drop i).any fun x=>leT x.f0 x.f1 c e):=by
 induction d with
 | zero =>
  intro i hi
  rw [List.drop_eq_nil_of_le (by omega)]
  refine Ev.step (fun k=>by rw [spec_FrontCovers.l0]) ?_
  exact Ev.congr (fun k=>if_neg (by omega)) (Ev.now _)
 | succ d ih =>
  intro i hi
  refine Ev.step (fun k=>by rw [spec_FrontCovers.l0]) ?_
  refine Ev.congr (fun k=>(if_pos (by omega)).trans (if_pos (by omega))) ?_
  refine Ev.bind ⟨0,fun k _=>s_less _ _ _ _⟩ ?_
  rw [rdT_drop (by omega : i < l.length),List.any_cons]
  cases leT (rd_T36 l (i : Int)).f0 (rd_T36 l (i : Int)).f1 c e with
  | true=>exact Ev.now _
  | false =>
   refine Ev.congr (fun k=>if_neg (by simp)) ?_
   rw [up1 (by omega : i < l.length) (by omega)]
   exact ih (i + 1) (by omega)
/-- FrontCovers,of both. -/
def coT (l : List Tm) (c e : Int) : Bool:=fOk l && (l.any fun x=>leT x.f0 x.f1 c e)
theorem s_covers (l : List Tm) (c e : Int) (hl : l.length ≤ 1048576) : Ev (fun k=>spec_FrontCovers.f k l c e) (coT l c e):=by
 unfold spec_FrontCovers.f coT
 refine Ev.bind (sFront_ev l hl) ?_
 cases fOk l with
 | false=>exact Ev.now _
 | true=>exact Ev.congr (fun k=>if_pos rfl) (by simpa using s_covers_loop l c e hl l.length 0 (by omega))
def joT (a b c d : Int) : Int × Int:=if okT a b && okT c d then (max a c,max b d) else (0,0)
theorem s_join (a b c d : Int) : spec_TimeJoin.f a b c d = some (joT a b c d):=by
 unfold spec_TimeJoin.f joT
 rw [s_ok,s_ok,mx_def,mx_def]
 cases okT a b <;> cases okT c d <;> rfl
theorem i_join (a b c d : Int) : impl_TimeJoin.f a b c d = some (joT a b c d):=by
 unfold impl_TimeJoin.f joT
 rw [i_ok,i_ok,mx_def,mx_def]
 cases okT a b <;> cases okT c d <;> rfl

def meT (a b c d : Int) : Int × Int:=if okT a b && okT c d then (min a c,min b d) else (0,0)
theorem s_meet (a b c d : Int) : spec_TimeMeet.f a b c d = some (meT a b c d):=by
 unfold spec_TimeMeet.f meT
 rw [s_ok,s_ok,mn_def,mn_def]
 cases okT a b <;> cases okT c d <;> rfl
theorem i_meet (a b c d : Int) : impl_TimeMeet.f a b c d = some (meT a b c d):=by
 unfold impl_TimeMeet.f meT
 rw [i_ok,i_ok,mn_def,mn_def]
 cases okT a b <;> cases okT c d <;> rfl

/-! a time moved to a front -/
def mv1 (l : List Tm) (c e : Int) (a : Int × Int) : Int × Int:=l.foldl (fun a x=>(min a.1 (max x.f0 c),min a.2 (max x.f1 e))) a
def mvR (l : List Tm) (c e : Int) : Int × Int:=match l with
 | []=>(c,e)
 | x :: r=>mv1 r c e (max x.f0 c,max x.f1 e)
def mvT (l : List Tm) (c e : Int) : Int × Int:=if fOk l && okT c e then mvR l c e else (0,0)
theorem joT_ok {a b c d : Int} (h : okT a b = true) (k : okT c d = true) : joT a b c d = (max a c,max b d):=by simp [joT,h,k]
theorem meT_ok {a b c d : Int} (h : okT a b = true) (k : okT c d = true) : meT a b c d = (min a c,min b d):=by simp [meT,h,k]
theorem okT_max {a b c d : Int} (h : okT a b = true) (k : okT c d = true) : okT (max a c) (max b d) = true:=by
 have:=okT_true h;have:=okT_true k
 exact decide_eq_true (by omega)
theorem okT_min {a b c d : Int} (h : okT a b = true) (k : okT c d = true) : okT (min a c) (min b d) = true:=by
 have:=okT_true h;have:=okT_true k
 exact decide_eq_true (by omega)
theorem rdT_mem {l : List Tm} {i : Nat} (h : i < l.length) : rd_T36 l (i : Int) ∈ l:=by
 have:=rdT_drop h
 exact List.mem_of_mem_drop (this ▸ List.mem_cons_self)
theorem s_move_loop (l : List Tm) (c e : Int) (hl : l.length ≤ 1048576) (hv : ∀ x ∈ l,okT x.f0 x.f1 = true) (ht : okT c e = true) (d : Nat) : ∀ (i : Nat) (u v : Int),i + d = l.length → okT u v = true →
  Ev (fun k=>spec_FrontMove.l0 k l (i : Int) c e u v) (mv1 (l.drop i) c e (u,v)):=by
 induction d with
 | zero =>
  intro i u v hi _
  rw [List.drop_eq_nil_of_le (by omega)]
  refine Ev.step (fun k=>by rw [spec_FrontMove.l0]) ?_
  exact (Ev.congr (fun k=>if_neg (by omega)) (Ev.now _))
 | succ d ih =>
  intro i u v hi ho
  have hx:=hv _ (rdT_mem (by omega : i < l.length))
  rw [rdT_drop (by omega : i < l.length)]
  refine Ev.step (fun k=>by rw [spec_FrontMove.l0]) (Ev.congr (fun k=>(if_pos (by omega)).trans (if_pos (by omega))) ?_)
  refine Ev.bind ⟨0,fun k _=>(s_join _ _ _ _).trans (congrArg some (joT_ok hx ht))⟩ (Ev.bind ⟨0,fun k _=>(s_meet _ _ _ _).trans (congrArg some (meT_ok ho (okT_max hx ht)))⟩ ?_)
  rw [up1 (by omega : i < l.length) (by omega)]
  exact ih (i + 1) _ _ (by omega) (okT_min ho (okT_max hx ht))
theorem s_move (l : List Tm) (c e : Int) (hl : l.length ≤ 1048576) : Ev (fun k=>spec_FrontMove.f k l c e) (mvT l c e):=by
 unfold spec_FrontMove.f mvT
 refine Ev.bind (sFront_ev l hl) ?_
 have out : Ev (fun k=>spec_FrontMove.j0 k l true c e) ((0,0) : Int × Int):=by
  refine Ev.step (fun k=>by rw [spec_FrontMove.j0]) ?_
  exact Ev.congr (fun k=>if_pos rfl) (Ev.now _)
 cases hf : fOk l with
 | false=>exact Ev.congr (fun k=>if_neg (by simp)) (by simpa using out)
 | true =>
  refine Ev.congr (fun k=>if_pos rfl) (Ev.bind ⟨0,fun k _=>s_ok _ _⟩ ?_)
  cases ht : okT c e with
  | false=>simpa using out
  | true =>
   have hv:=fOk_ok hf
   refine Ev.step (fun k=>by rw [spec_FrontMove.j0]) (Ev.congr (fun k=>if_neg (by simp)) ?_)
   simp only [Bool.and_self,if_true]
   cases l with
   | nil=>exact Ev.congr (fun k=>if_pos rfl) (Ev.now _)
   | cons x r =>
    have hx:=hv x List.mem_cons_self
    refine Ev.congr (fun k=>(if_neg (by simp;omega)).trans (if_pos (by simp))) (Ev.bind ⟨0,fun k _=>(s_join _ _ _ _).trans (congrArg some (joT_ok (a:=x.f0) (b:=x.f1) hx ht))⟩ ?_)
    simpa [mvR] using s_move_loop (x :: r) c e hl hv ht r.length 1 _ _ (by simp;omega) (okT_max hx ht)
theorem i_move_loop (l : List Tm) (c e : Int) (hl : l.length ≤ 1048576) (hv : ∀ x ∈ l,okT x.f0 x.f1 = true) (ht : okT c e = true) (d : Nat) : ∀ (i : Nat) (u v : Int),i + d = l.length → okT u v = true →
  Ev (fun k=>impl_moved.l0 k l (l.length : Int) (i : Int) c e u v) (mv1 (l.drop i) c e (u,v)):=by
 induction d with
 | zero =>
  intro i u v hi _
  rw [List.drop_eq_nil_of_le (by omega)]
  refine Ev.step (fun k=>by rw [impl_moved.l0]) ?_
  exact (Ev.congr (fun k=>if_neg (by omega)) (Ev.now _))
 | succ d ih =>
  intro i u v hi ho
  have hx:=hv _ (rdT_mem (by omega : i < l.length))
  rw [rdT_drop (by omega : i < l.length)]
  refine Ev.step (fun k=>by rw [impl_moved.l0]) (Ev.congr (fun k=>(if_pos (by omega)).trans ((if_pos (by omega)).trans (if_pos (by omega)))) ?_)
  refine Ev.bind ⟨0,fun k _=>(i_join _ _ _ _).trans (congrArg some (joT_ok hx ht))⟩ (Ev.bind ⟨0,fun k _=>(i_meet _ _ _ _).trans (congrArg some (meT_ok ho (okT_max hx ht)))⟩ ?_)
  rw [up1 (by omega : i < l.length) (by omega)]
  exact ih (i + 1) _ _ (by omega) (okT_min ho (okT_max hx ht))
theorem i_moved (l : List Tm) (c e : Int) (hl : l.length ≤ 1048576) (hv : ∀ x ∈ l,okT x.f0 x.f1 = true) (ht : okT c e = true) : Ev (fun k=>impl_moved.f k l c e) (mvR l c e):=by
 unfold impl_moved.f
 cases l with
 | nil=>exact Ev.congr (fun k=>if_pos rfl) (Ev.now _)
 | cons x r =>
  have hx:=hv x List.mem_cons_self
  refine Ev.congr (fun k=>(if_neg (by simp;omega)).trans (if_pos (by simp))) (Ev.bind ⟨0,fun k _=>(i_join _ _ _ _).trans (congrArg some (joT_ok (a:=x.f0) (b:=x.f1) hx ht))⟩ ?_)
  have:=i_move_loop (x :: r) c e hl hv ht (r.length + 1) 0 _ _ (by simp) (okT_max hx ht)
  simpa [mvR,mv1] using this
/-! what a moved time is -/
theorem mv1_facts (c e : Int) (l : List Tm) : ∀ a : Int × Int,(mv1 l c e a).1 ≤ a.1 ∧ (mv1 l c e a).2 ≤ a.2 ∧ (∀ x ∈ l,(mv1 l c e a).1 ≤ max x.f0 c ∧ (mv1 l c e a).2 ≤ max x.f1 e) ∧
  ((mv1 l c e a).1 = a.1 ∨ ∃ x ∈ l,(mv1 l c e a).1 = max x.f0 c) ∧ ((mv1 l c e a).2 = a.2 ∨ ∃ x ∈ l,(mv1 l c e a).2 = max x.f1 e):=by
 induction l with
 | nil=>intro a;exact ⟨Int.le_refl _,Int.le_refl _,fun x hx=>by simp at hx,.inl rfl,.inl rfl⟩
 | cons y r ih =>
  intro a
  obtain ⟨h1,h2,h3,h4,h5⟩:=ih (min a.1 (max y.f0 c),min a.2 (max y.f1 e))
  have e0 : mv1 (y :: r) c e a = mv1 r c e (min a.1 (max y.f0 c),min a.2 (max y.f1 e)):=rfl
  rw [e0]
  simp only at h1 h2 h4 h5
  refine ⟨by clear h4 h5;omega,by clear h4 h5;omega,fun x hx=>?_,?_,?_⟩
  ·clear h4 h5
   rcases List.mem_cons.1 hx with rfl | hx
   ·exact ⟨by omega,by omega⟩
   ·exact h3 x hx
  ·clear h5
   rcases h4 with h | ⟨x,hx,h⟩
   ·rcases Int.le_total a.1 (max y.f0 c) with k | k
    ·exact .inl (by omega)
    ·exact .inr ⟨y,List.mem_cons_self,by omega⟩
   ·exact .inr ⟨x,List.mem_cons_of_mem _ hx,h⟩
  ·clear h4
   rcases h5 with h | ⟨x,hx,h⟩
   ·rcases Int.le_total a.2 (max y.f1 e) with k | k
    ·exact .inl (by omega)
    ·exact .inr ⟨y,List.mem_cons_self,by omega⟩
   ·exact .inr ⟨x,List.mem_cons_of_mem _ hx,h⟩
theorem mvR_facts (c e : Int) {l : List Tm} (hn : l ≠ []) : (∀ x ∈ l,(mvR l c e).1 ≤ max x.f0 c ∧ (mvR l c e).2 ≤ max x.f1 e) ∧
  (∃ x ∈ l,(mvR l c e).1 = max x.f0 c) ∧ (∃ x ∈ l,(mvR l c e).2 = max x.f1 e):=by
 cases l with
 | nil=>exact absurd rfl hn
 | cons y r =>
  obtain ⟨h1,h2,h3,h4,h5⟩:=mv1_facts c e r (max y.f0 c,max y.f1 e)
  have e0 : mvR (y :: r) c e = mv1 r c e (max y.f0 c,max y.f1 e):=rfl
  rw [e0]
  simp only at h1 h2 h4 h5
  refine ⟨fun x hx=>?_,?_,?_⟩
  ·clear h4 h5
   rcases List.mem_cons.1 hx with rfl | hx
   ·exact ⟨by omega,by omega⟩
   ·exact h3 x hx
  ·rcases h4 with h | ⟨x,hx,h⟩
   ·exact ⟨y,List.mem_cons_self,h⟩
   ·exact ⟨x,List.mem_cons_of_mem _ hx,h⟩
  ·rcases h5 with h | ⟨x,hx,h⟩
   ·exact ⟨y,List.mem_cons_self,h⟩
   ·exact ⟨x,List.mem_cons_of_mem _ hx,h⟩
theorem mvR_low (c e : Int) (l : List Tm) : c ≤ (mvR l c e).1 ∧ e ≤ (mvR l c e).2:=by
 by_cases h : l = []
 ·subst h;exact ⟨Int.le_refl _,Int.le_refl _⟩
 ·obtain ⟨_,⟨x,_,hx⟩,⟨y,_,hy⟩⟩:=mvR_facts c e h
  omega
theorem mvR_ok {c e : Int} {l : List Tm} (hv : ∀ x ∈ l,okT x.f0 x.f1 = true) (ht : okT c e = true) : okT (mvR l c e).1 (mvR l c e).2 = true:=by
 by_cases h : l = []
 ·subst h;exact ht
 ·obtain ⟨_,⟨x,hx1,hx⟩,⟨y,hy1,hy⟩⟩:=mvR_facts c e h
  have:=okT_true (hv x hx1);have:=okT_true (hv y hy1);have:=okT_true ht
  exact decide_eq_true (by omega)
theorem coT_true {l : List Tm} {a b : Int} (h : coT l a b = true) : ∃ x ∈ l,x.f0 ≤ a ∧ x.f1 ≤ b:=by
 unfold coT at h
 simp only [Bool.and_eq_true,List.any_eq_true] at h
 obtain ⟨_,x,hx,hle⟩:=h
 have:=leT_true hle
 exact ⟨x,hx,by omega,by omega⟩
theorem leT_ok {a b c d : Int} (h : okT a b = true) (k : okT c d = true) : leT a b c d = decide (a ≤ c ∧ b ≤ d):=by simp [leT,h,k]

/-! FrontOf,of the reference -/
def mnT (l : List Tm) (a b : Int) : Bool:=(l.any fun x=>x.f0 == a && (x.f1 == b)) && !(l.any fun x=>(!(x.f0 == a) || (!(x.f1 == b))) && leT x.f0 x.f1 a b)
/-- one row of the grid: b = n - 1 .. 0 -/
def gRow (l : List Tm) (a : Int) : Nat → List Tm
 | 0=>[]
 | n + 1=>(if mnT l a (n : Int) then [(⟨a,(n : Int)⟩ : Tm)] else []) ++ gRow l a n
/-- the rows from a on,m of them -/
def gAll (l : List Tm) (a : Int) : Nat → List Tm
 | 0=>[]
 | m + 1=>gRow l a 8 ++ gAll l (a + 1) m
def sFrontOf (l : List Tm) : List Tm:=if (l.all fun x=>okT x.f0 x.f1) then gAll l 0 8 else []
theorem gRow_len (l : List Tm) (a : Int) (n : Nat) : (gRow l a n).length ≤ n:=by
 induction n with
 | zero=>simp [gRow]
 | succ n ih =>
  simp only [gRow,List.length_append]
  split <;> simp <;> omega
theorem gAll_len (l : List Tm) (m : Nat) : ∀ a : Int,(gAll l a m).length ≤ 8 * m:=by
 induction m with
 | zero=>simp [gAll]
 | succ m ih =>
  intro a
  have:=gRow_len l a 8
  have:=ih (a + 1)
  simp only [gAll,List.length_append]
  omega
theorem sFrontOf_len (l : List Tm) : (sFrontOf l).length ≤ 64:=by
 unfold sFrontOf
 split
 ·exact gAll_len l 8 0
 ·simp
theorem s_l1Ok_loop (l : List Tm) (hl : l.length ≤ 1048576) (d : Nat) : ∀ i : Nat,i + d = l.length → Ev (fun k=>spec_l1Ok.l0 k l (i : Int)) ((l.drop i).all fun x=>okT x.f0 x.f1):=by
 induction d with
 | zero =>
  intro i hi
  rw [List.drop_eq_nil_of_le (by omega)]
  refine Ev.step (fun k=>by rw [spec_l1Ok.l0]) ?_
  exact (Ev.congr (fun k=>if_neg (by omega)) (Ev.now _))
 | succ d ih =>
  intro i hi
  refine Ev.step (fun k=>by rw [spec_l1Ok.l0]) (Ev.congr (fun k=>(if_pos (by omega)).trans (if_pos (by omega))) ?_)
  refine Ev.bind ⟨0,fun k _=>s_ok _ _⟩ ?_
  rw [rdT_drop (by omega : i < l.length),List.all_cons]
  cases okT (rd_T36 l (i : Int)).f0 (rd_T36 l (i : Int)).f1 with
  | false=>exact Ev.now _
  | true =>
   refine Ev.congr (fun k=>if_pos rfl) ?_
   rw [up1 (by omega : i < l.length) (by omega)]
   exact ih (i + 1) (by omega)
theorem fo_l2 (l out : List Tm) (a b t0 t1 : Int) (R : List Tm) (hl : l.length ≤ 1048576) (d : Nat) : ∀ (i : Nat) (f : Bool),i + d = l.length →
  Ev (fun k=>spec_FrontOf.l3 k l out a b (f || (l.drop i).any fun x=>x.f0 == t0 && (x.f1 == t1)) 0 t0 t1) R → Ev (fun k=>spec_FrontOf.l2 k l out a b f (i : Int) t0 t1) R:=by
 induction d with
 | zero =>
  intro i f hi h
  rw [List.drop_eq_nil_of_le (by omega)] at h
  refine Ev.step (fun k=>by rw [spec_FrontOf.l2]) (Ev.congr (fun k=>if_neg (by omega)) ?_)
  simpa using h
 | succ d ih =>
  intro i f hi h
  rw [rdT_drop (by omega : i < l.length),List.any_cons] at h
  refine Ev.step (fun k=>by rw [spec_FrontOf.l2]) (Ev.congr (fun k=>(if_pos (by omega)).trans (if_pos (by omega))) ?_)
  rw [up1 (by omega : i < l.length) (by omega)]
  cases c : ((rd_T36 l (i : Int)).f0 == t0 && ((rd_T36 l (i : Int)).f1 == t1)) with
  | true =>
   refine Ev.congr (fun k=>if_pos rfl) (ih (i + 1) true (by omega) ?_)
   rw [c] at h
   simpa using h
  | false =>
   refine Ev.congr (fun k=>if_neg (by simp)) (ih (i + 1) f (by omega) ?_)
   rw [c] at h
   simpa using h
theorem fo_l3 (l out : List Tm) (a b t0 t1 : Int) (R : List Tm) (hl : l.length ≤ 1048576) (ho : out.length ≤ 1000) (d : Nat) : ∀ (i : Nat) (f : Bool),i + d = l.length →
  Ev (fun k=>spec_FrontOf.l1 k l (out ++ (if (f && !((l.drop i).any fun x=>(!(x.f0 == t0) || (!(x.f1 == t1))) && leT x.f0 x.f1 t0 t1)) then [(⟨t0,t1⟩ : Tm)] else [])) a (wrap64 (b - 1))) R → Ev (fun k=>spec_FrontOf.l3 k l out a b f (i : Int) t0 t1) R:=by
 induction d with
 | zero =>
  intro i f hi h
  rw [List.drop_eq_nil_of_le (by omega)] at h
  refine Ev.step (fun k=>by rw [spec_FrontOf.l3]) (Ev.congr (fun k=>if_neg (by omega)) ?_)
  cases f with
  | true=>exact Ev.congr (fun k=>(if_pos rfl).trans (if_pos (by omega))) (by simpa using h)
  | false=>exact Ev.congr (fun k=>if_neg (by simp)) (by simpa using h)
 | succ d ih =>
  intro i f hi h
  rw [rdT_drop (by omega : i < l.length),List.any_cons] at h
  refine Ev.step (fun k=>by rw [spec_FrontOf.l3]) (Ev.congr (fun k=>(if_pos (by omega)).trans (if_pos (by omega))) ?_)
  rw [up1 (by omega : i < l.length) (by omega)]
  cases c : (!((rd_T36 l (i : Int)).f0 == t0) || (!((rd_T36 l (i : Int)).f1 == t1))) with
  | true =>
   refine Ev.congr (fun k=>if_pos rfl) (Ev.bind ⟨0,fun k _=>s_less _ _ _ _⟩ ?_)
   rw [c] at h
   cases c2 : leT (rd_T36 l (i : Int)).f0 (rd_T36 l (i : Int)).f1 t0 t1 with
   | true =>
    refine Ev.congr (fun k=>if_pos rfl) (ih (i + 1) false (by omega) ?_)
    rw [c2] at h
    simpa using h
   | false =>
    refine Ev.congr (fun k=>if_neg (by simp)) (ih (i + 1) f (by omega) ?_)
    rw [c2] at h
    simpa using h
  | false =>
   refine Ev.congr (fun k=>if_neg (by simp)) (ih (i + 1) f (by omega) ?_)
   rw [c] at h
   simpa using h
theorem fo_l1 (l : List Tm) (a : Int) (R : List Tm) (hl : l.length ≤ 1048576) (n : Nat) : ∀ (out : List Tm),n ≤ 8 → out.length + n ≤ 1000 →
  Ev (fun k=>spec_FrontOf.l0 k l (out ++ gRow l a n) (wrap64 (a + 1))) R → Ev (fun k=>spec_FrontOf.l1 k l out a ((n : Int) - 1)) R:=by
 induction n with
 | zero =>
  intro out _ _ h
  refine Ev.step (fun k=>by rw [spec_FrontOf.l1]) (Ev.congr (fun k=>if_neg (by omega)) ?_)
  simpa [gRow] using h
 | succ n ih =>
  intro out hn ho h
  refine Ev.step (fun k=>by rw [spec_FrontOf.l1]) (Ev.congr (fun k=>if_pos (by omega)) ?_)
  have e : (((n + 1 : Nat) : Int) - 1) = (n : Int):=by omega
  rw [e]
  refine fo_l2 l out a (n : Int) a (n : Int) R hl l.length 0 false (by omega) ?_
  refine fo_l3 l out a (n : Int) a (n : Int) R hl (by omega) l.length 0 _ (by omega) ?_
  rw [w64 (by omega) (by omega)]
  simp only [List.drop_zero,Bool.false_or]
  refine ih _ (by omega) ?_ ?_
  ·rw [List.length_append]
   split <;> simp <;> omega
  ·simpa [gRow,mnT,List.append_assoc] using h
theorem fo_l0 (l : List Tm) (hl : l.length ≤ 1048576) (m : Nat) : ∀ (out : List Tm) (a : Int),a + m = 8 → 0 ≤ a → out.length + 8 * m ≤ 1000 → Ev (fun k=>spec_FrontOf.l0 k l out a) (out ++ gAll l a m):=by
 induction m with
 | zero =>
  intro out a ha _ _
  refine Ev.step (fun k=>by rw [spec_FrontOf.l0]) (Ev.congr (fun k=>if_neg (by omega)) ?_)
  simpa [gAll] using Ev.now out
 | succ m ih =>
  intro out a ha h0 ho
  refine Ev.step (fun k=>by rw [spec_FrontOf.l0]) (Ev.congr (fun k=>if_pos (by omega)) ?_)
  have:=fo_l1 l a (out ++ gAll l a (m + 1)) hl 8 out (by omega) (by omega) (by
   have hr:=gRow_len l a 8
   rw [w64 (by omega) (by omega),show out ++ gAll l a (m + 1) = (out ++ gRow l a 8) ++ gAll l (a + 1) m by simp [gAll]]
   exact ih _ (a + 1) (by omega) (by omega) (by rw [List.length_append];omega))
  simpa using this
theorem s_frontof (l : List Tm) (hl : l.length ≤ 1048576) : Ev (fun k=>spec_FrontOf.f k l) (sFrontOf l):=by
 unfold spec_FrontOf.f sFrontOf
 refine Ev.bind (Ev.now _) ?_
 have h1 : Ev (fun k=>spec_l1Ok.f k l) (l.all fun x=>okT x.f0 x.f1):=by
  unfold spec_l1Ok.f
  simpa using s_l1Ok_loop l hl l.length 0 (by omega)
 refine Ev.bind h1 ?_
 cases (l.all fun x=>okT x.f0 x.f1) with
 | false=>exact Ev.congr (fun k=>if_neg (by simp)) (Ev.now _)
 | true=>exact Ev.congr (fun k=>if_pos rfl) (by simpa using fo_l0 l hl 8 [] 0 (by omega) (by omega) (by simp))

theorem s_in (a b c : Int) : spec_l6In.f a b c = some (decide (b ≤ a ∧ a ≤ c)):=by
 unfold spec_l6In.f
 by_cases h0 : b ≤ a <;> by_cases h1 : a ≤ c <;> simp [h0,h1]

def rowOk (r : Rw) : Bool:=decide (0 ≤ r.f0 ∧ r.f0 ≤ 3) && (decide (0 ≤ r.f1 ∧ r.f1 ≤ 99) && (okT r.f2.f0 r.f2.f1 && decide (-99999 ≤ r.f3 ∧ r.f3 ≤ 99999)))
def rowsOk (l : List Rw) : Bool:=decide (l.length ≤ 400) && l.all rowOk
theorem s_l2Row (r : Rw) : spec_l2Row.f r.f0 r.f1 r.f2.f0 r.f2.f1 r.f3 = some (rowOk r):=by
 unfold spec_l2Row.f rowOk
 simp only [s_in,s_ok,Option.bind_some]
 cases decide (0 ≤ r.f0 ∧ r.f0 ≤ 3) <;> cases decide (0 ≤ r.f1 ∧ r.f1 ≤ 99) <;> cases okT r.f2.f0 r.f2.f1 <;> rfl
theorem s_rows_loop (l : List Rw) (hl : l.length ≤ 1048576) (d : Nat) : ∀ i : Nat,i + d = l.length → Ev (fun k=>spec_RowsOk.l0 k l (i : Int)) ((l.drop i).all rowOk):=by
 induction d with
 | zero =>
  intro i hi
  rw [List.drop_eq_nil_of_le (by omega)]
  refine Ev.step (fun k=>by rw [spec_RowsOk.l0]) ?_
  exact Ev.congr (fun k=>if_neg (by omega)) (Ev.now _)
 | succ d ih =>
  intro i hi
  refine Ev.step (fun k=>by rw [spec_RowsOk.l0]) ?_
  refine Ev.congr (fun k=>(if_pos (by omega)).trans (if_pos (by omega))) ?_
  refine Ev.bind ⟨0,fun k _=>s_l2Row _⟩ ?_
  rw [rdR_drop (by omega : i < l.length),List.all_cons]
  cases rowOk (rd_T38 l (i : Int)) with
  | false=>exact Ev.now _
  | true =>
   refine Ev.congr (fun k=>if_pos rfl) ?_
   rw [up1 (by omega : i < l.length) (by omega)]
   exact ih (i + 1) (by omega)
theorem s_rows (l : List Rw) (hl : l.length ≤ 1048576) : Ev (fun k=>spec_RowsOk.f k l) (rowsOk l):=by
 unfold spec_RowsOk.f rowsOk
 by_cases h : l.length ≤ 400
 ·rw [decide_eq_true h]
  exact Ev.congr (fun k=>if_neg (by omega)) (by simpa using s_rows_loop l hl l.length 0 (by omega))
 ·rw [decide_eq_false h]
  exact Ev.congr (fun k=>if_pos (by omega)) (Ev.now _)

theorem i_rows_loop (l : List Rw) (hl : l.length ≤ 1048576) (d : Nat) : ∀ i : Nat,i + d = l.length → Ev (fun k=>impl_RowsOk.l0 k l l (l.length : Int) (i : Int)) (((l.drop i).all rowOk) && decide (l.length ≤ 400)):=by
 induction d with
 | zero =>
  intro i hi
  rw [List.drop_eq_nil_of_le (by omega)]
  refine Ev.step (fun k=>by rw [impl_RowsOk.l0]) ?_
  refine Ev.congr (fun k=>if_neg (by omega)) ?_
  have : decide ((l.length : Int) ≤ 400) = decide (l.length ≤ 400):=by rw [decide_eq_decide];omega
  rw [this]
  exact Ev.now _
 | succ d ih =>
  intro i hi
  refine Ev.step (fun k=>by rw [impl_RowsOk.l0]) ?_
  refine Ev.congr (fun k=>(if_pos (by omega)).trans ((if_pos (by omega)).trans (if_pos (by omega)))) ?_
  rw [rdR_drop (by omega : i < l.length),List.all_cons,up1 (by omega : i < l.length) (by omega)]
  generalize rd_T38 l (i : Int) = r
  have no : rowOk r = false → Ev (fun _ : Nat=>some false) ((rowOk r && ((l.drop (i + 1)).all rowOk)) && decide (l.length ≤ 400)):=fun h=>by rw [h];exact Ev.now _
  by_cases c0 : r.f0 < 0
  ·exact Ev.congr (fun k=>if_pos c0) (no (by simp [rowOk];omega))
  refine Ev.congr (fun k=>if_neg c0) ?_
  by_cases c1 : r.f0 ≥ 4
  ·exact Ev.congr (fun k=>if_pos c1) (no (by simp [rowOk];omega))
  refine Ev.congr (fun k=>if_neg c1) ?_
  by_cases c2 : r.f1 < 0
  ·exact Ev.congr (fun k=>if_pos c2) (no (by simp [rowOk];omega))
  refine Ev.congr (fun k=>if_neg c2) ?_
  by_cases c3 : r.f1 ≥ 100
  ·exact Ev.congr (fun k=>if_pos c3) (no (by simp [rowOk];omega))
  refine Ev.congr (fun k=>if_neg c3) (Ev.bind ⟨0,fun k _=>i_ok _ _⟩ ?_)
  cases c4 : okT r.f2.f0 r.f2.f1 with
  | false=>exact Ev.congr (fun k=>if_neg (by simp)) (no (by simp [rowOk,c4]))
  | true =>
   refine Ev.congr (fun k=>if_pos rfl) ?_
   by_cases c5 : r.f3 < -99999
   ·exact Ev.congr (fun k=>if_pos c5) (no (by simp [rowOk];omega))
   refine Ev.congr (fun k=>if_neg c5) ?_
   by_cases c6 : r.f3 > 99999
   ·exact Ev.congr (fun k=>if_pos c6) (no (by simp [rowOk];omega))
   refine Ev.congr (fun k=>if_neg c6) ?_
   have : rowOk r = true:=by simp only [rowOk,c4,Bool.and_eq_true,decide_eq_true_eq,true_and];omega
   rw [this,Bool.true_and]
   exact ih (i + 1) (by omega)
theorem i_rows (l : List Rw) (hl : l.length ≤ 1048576) : Ev (fun k=>impl_RowsOk.f k l) (rowsOk l):=by
 unfold impl_RowsOk.f rowsOk
 rw [Bool.and_comm]
 simpa using i_rows_loop l hl l.length 0 (by omega)

theorem rowsOk_facts {l : List Rw} (h : rowsOk l = true) : l.length ≤ 400 ∧ ∀ x ∈ l,rowOk x = true:=by
 unfold rowsOk at h
 simp only [Bool.and_eq_true,decide_eq_true_eq] at h
 exact ⟨h.1,List.all_eq_true.1 h.2⟩


/-! rows: put into order,equal ones summed -/
/-- key,value and time -/
def rkey (r : Rw) : Int × Int × Int × Int:=(r.f0,r.f1,r.f2.f0,r.f2.f1)
def klt (a b : Int × Int × Int × Int) : Prop:=a.1 < b.1 ∨ a.1 = b.1 ∧ (a.2.1 < b.2.1 ∨ a.2.1 = b.2.1 ∧ (a.2.2.1 < b.2.2.1 ∨ a.2.2.1 = b.2.2.1 ∧ a.2.2.2 < b.2.2.2))
instance (a b : Int × Int × Int × Int) : Decidable (klt a b):=by unfold klt;infer_instance
theorem klt_trans {a b c : Int × Int × Int × Int} (h : klt a b) (k : klt b c) : klt a c:=by unfold klt at *;omega
theorem klt_irrefl (a : Int × Int × Int × Int) : ¬ klt a a:=by unfold klt;omega
theorem klt_tri (a b : Int × Int × Int × Int) : klt a b ∨ a = b ∨ klt b a:=by
 obtain ⟨a1,a2,a3,a4⟩:=a
 obtain ⟨b1,b2,b3,b4⟩:=b
 simp only [klt,Prod.mk.injEq]
 omega

def putR : List Rw → Rw → List Rw
 | [],r=>[r]
 | x :: l,r=>if klt (rkey r) (rkey x) then r :: x :: l else if rkey x = rkey r then { r with f3:=wrap64 (r.f3 + x.f3) } :: l else x :: putR l r
def csum (l : List Rw) : List Rw:=l.foldl putR []
def consol (l : List Rw) : List Rw:=(csum l).filter fun r=>r.f3 != 0

/-! the reference's sums of rows -/
def cmpK (a b : Int × Int × Int × Int) : Int:=if klt a b then -1 else if klt b a then 1 else 0
theorem comp_step {X Y : List Int} {c : Int} (i : Nat) (hX : X.length = 4) (hY : Y.length = 4) (hi : i < 4) (h1 : rd X (i : Int) < rd Y (i : Int) → c = -1) (h2 : rd Y (i : Int) < rd X (i : Int) → c = 1)
  (h3 : rd X (i : Int) = rd Y (i : Int) → Ev (fun k=>spec_l2Comp.l0 k X Y ((i + 1 : Nat) : Int)) c) : Ev (fun k=>spec_l2Comp.l0 k X Y (i : Int)) c:=by
 refine Ev.step (fun k=>by rw [spec_l2Comp.l0]) (Ev.congr (fun k=>(if_pos (by omega)).trans ((if_pos (by omega)).trans (if_pos (by omega)))) ?_)
 by_cases c1 : rd X (i : Int) < rd Y (i : Int)
 ·rw [h1 c1]
  exact Ev.congr (fun k=>if_pos c1) (Ev.now _)
 ·refine Ev.congr (fun k=>if_neg c1) ?_
  by_cases c2 : rd X (i : Int) > rd Y (i : Int)
  ·rw [h2 c2]
   exact Ev.congr (fun k=>if_pos c2) (Ev.now _)
  ·refine Ev.congr (fun k=>if_neg c2) ?_
   rw [w64 (by omega) (by omega)]
   exact h3 (by omega)
theorem s_comp (x y : Rw) : Ev (fun k=>spec_l2Comp.f k x.f0 x.f1 x.f2.f0 x.f2.f1 x.f3 y.f0 y.f1 y.f2.f0 y.f2.f1 y.f3) (cmpK (rkey x) (rkey y)):=by
 unfold spec_l2Comp.f
 obtain ⟨a0,a1,⟨a2,a3⟩,a4⟩:=x
 obtain ⟨b0,b1,⟨b2,b3⟩,b4⟩:=y
 simp only [rkey]
 have r0 : rd [a0,a1,a2,a3] ((0 : Nat) : Int) = a0:=rfl
 have r1 : rd [a0,a1,a2,a3] ((1 : Nat) : Int) = a1:=rfl
 have r2 : rd [a0,a1,a2,a3] ((2 : Nat) : Int) = a2:=rfl
 have r3 : rd [a0,a1,a2,a3] ((3 : Nat) : Int) = a3:=rfl
 have s0 : rd [b0,b1,b2,b3] ((0 : Nat) : Int) = b0:=rfl
 have s1 : rd [b0,b1,b2,b3] ((1 : Nat) : Int) = b1:=rfl
 have s2 : rd [b0,b1,b2,b3] ((2 : Nat) : Int) = b2:=rfl
 have s3 : rd [b0,b1,b2,b3] ((3 : Nat) : Int) = b3:=rfl
 have lo : ∀ {p q : Int × Int × Int × Int},klt p q → cmpK p q = -1:=fun h=>if_pos h
 have hi : ∀ {p q : Int × Int × Int × Int},klt q p → cmpK p q = 1:=fun {p q} h=>by
  unfold cmpK
  rw [if_neg (fun k=>klt_irrefl p (klt_trans k h)),if_pos h]
 refine comp_step 0 rfl rfl (by omega) (fun h=>lo (by unfold klt;simp only;omega)) (fun h=>hi (by unfold klt;simp only;omega)) fun e0=>?_
 refine comp_step 1 rfl rfl (by omega) (fun h=>lo (by unfold klt;simp only;omega)) (fun h=>hi (by unfold klt;simp only;omega)) fun e1=>?_
 refine comp_step 2 rfl rfl (by omega) (fun h=>lo (by unfold klt;simp only;omega)) (fun h=>hi (by unfold klt;simp only;omega)) fun e2=>?_
 refine comp_step 3 rfl rfl (by omega) (fun h=>lo (by unfold klt;simp only;omega)) (fun h=>hi (by unfold klt;simp only;omega)) fun e3=>?_
 refine Ev.step (fun k=>by rw [spec_l2Comp.l0]) (Ev.congr (fun k=>if_neg (by simp)) ?_)
 have : cmpK (a0,a1,a2,a3) (b0,b1,b2,b3) = 0:=by
  unfold cmpK
  rw [if_neg (by unfold klt;simp only;omega),if_neg (by unfold klt;simp only;omega)]
 rw [this]
 exact Ev.now _

theorem putR_len (l : List Rw) (r : Rw) : (putR l r).length ≤ l.length + 1:=by
 induction l with
 | nil=>simp [putR]
 | cons x l ih =>
  unfold putR
  split
  ·simp
  ·split <;> simp <;> omega
theorem csum_len (l : List Rw) : (csum l).length ≤ l.length:=by
 have : ∀ (l a : List Rw),(l.foldl putR a).length ≤ a.length + l.length:=by
  intro l
  induction l with
  | nil=>intro a;simp
  | cons x l ih =>
   intro a
   have:=ih (putR a x)
   have:=putR_len a x
   simp only [List.foldl_cons,List.length_cons]
   omega
 have h:=this l []
 simpa [csum] using h
theorem consol_len (l : List Rw) : (consol l).length ≤ l.length:=Nat.le_trans (List.length_filter_le _ _) (csum_len l)
theorem put_done (l : List Rw) (hl : l.length ≤ 1048576) (d : Nat) : ∀ (i : Nat) (out : List Rw) (r : Rw),i + d = l.length → out.length ≤ i + 1 →
  Ev (fun k=>spec_l2Put.l0 k l out true (i : Int) r.f0 r.f1 r.f2.f0 r.f2.f1 r.f3) (out ++ l.drop i):=by
 induction d with
 | zero =>
  intro i out r hi ho
  rw [List.drop_eq_nil_of_le (by omega),List.append_nil]
  refine Ev.step (fun k=>by rw [spec_l2Put.l0]) (Ev.congr (fun k=>(if_neg (by omega)).trans (if_pos rfl)) ?_)
  exact Ev.now out
 | succ d ih =>
  intro i out r hi ho
  refine Ev.step (fun k=>by rw [spec_l2Put.l0]) (Ev.congr (fun k=>(if_pos (by omega)).trans (if_pos (by omega))) ?_)
  refine Ev.bind (s_comp (rd_T38 l (i : Int)) r) (Ev.congr (fun k=>if_pos rfl) ?_)
  refine Ev.step (fun k=>by rw [spec_l2Put.j1]) (Ev.congr (fun k=>(if_neg (by simp)).trans ((if_pos rfl).trans ((if_pos (by omega)).trans ((if_pos (by omega)).trans (if_pos (by omega)))))) ?_)
  rw [up1 (by omega : i < l.length) (by omega),rdR_drop (by omega : i < l.length)]
  have:=ih (i + 1) (out ++ [rd_T38 l (i : Int)]) r (by omega) (by simp;omega)
  simpa using this
theorem put_loop (l : List Rw) (hl : l.length ≤ 1048576) (r : Rw) (d : Nat) : ∀ (i : Nat) (out : List Rw),i + d = l.length → out.length ≤ i →
  Ev (fun k=>spec_l2Put.l0 k l out false (i : Int) r.f0 r.f1 r.f2.f0 r.f2.f1 r.f3) (out ++ putR (l.drop i) r):=by
 induction d with
 | zero =>
  intro i out hi ho
  rw [List.drop_eq_nil_of_le (by omega)]
  refine Ev.step (fun k=>by rw [spec_l2Put.l0]) (Ev.congr (fun k=>(if_neg (by omega)).trans ((if_neg (by simp)).trans (if_pos (by omega)))) ?_)
  exact Ev.now _
 | succ d ih =>
  intro i out hi ho
  refine Ev.step (fun k=>by rw [spec_l2Put.l0]) (Ev.congr (fun k=>(if_pos (by omega)).trans (if_pos (by omega))) ?_)
  refine Ev.bind (s_comp (rd_T38 l (i : Int)) r) (Ev.congr (fun k=>if_neg (by simp)) ?_)
  have e:=rdR_drop (by omega : i < l.length)
  have fin:=fun (o : List Rw) (r' : Rw) (h : o.length ≤ i + 2)=>put_done l hl d (i + 1) o r' (by omega) h
  rw [e]
  refine Ev.step (fun k=>by rw [spec_l2Put.j1]) ?_
  rw [up1 (by omega : i < l.length) (by omega)]
  by_cases c1 : klt (rkey r) (rkey (rd_T38 l (i : Int)))
  ·have ec : cmpK (rkey (rd_T38 l (i : Int))) (rkey r) = 1:=by
    unfold cmpK
    rw [if_neg (fun k=>klt_irrefl _ (klt_trans k c1)),if_pos c1]
   rw [ec,show putR (rd_T38 l (i : Int) :: l.drop (i + 1)) r = r :: rd_T38 l (i : Int) :: l.drop (i + 1) by simp [putR,c1]]
   refine Ev.congr (fun k=>(if_pos rfl).trans (if_pos (by omega))) (Ev.bind (Ev.now _) (Ev.congr (fun k=>(if_pos (by omega)).trans ((if_pos (by omega)).trans (if_pos (by simp;omega)))) ?_))
   have:=fin (out ++ [r] ++ [rd_T38 l (i : Int)]) r (by simp;omega)
   simpa using this
  ·by_cases c2 : rkey (rd_T38 l (i : Int)) = rkey r
   ·have ec : cmpK (rkey (rd_T38 l (i : Int))) (rkey r) = 0:=by
     unfold cmpK
     rw [c2,if_neg (klt_irrefl _),if_neg (klt_irrefl _)]
    rw [ec,show putR (rd_T38 l (i : Int) :: l.drop (i + 1)) r = { r with f3:=wrap64 (r.f3 + (rd_T38 l (i : Int)).f3) } :: l.drop (i + 1) by simp only [putR];rw [if_neg c1,if_pos c2]]
    refine Ev.congr (fun k=>(if_neg (by simp)).trans ((if_neg (by simp)).trans ((if_pos rfl).trans ((if_pos (by omega)).trans ((if_pos (by omega)).trans (if_pos (by omega))))))) ?_
    have:=fin (out ++ [{ r with f3:=wrap64 (r.f3 + (rd_T38 l (i : Int)).f3) }]) { r with f3:=wrap64 (r.f3 + (rd_T38 l (i : Int)).f3) } (by simp;omega)
    simpa using this
   ·have c3 : klt (rkey (rd_T38 l (i : Int))) (rkey r):=by
     rcases klt_tri (rkey (rd_T38 l (i : Int))) (rkey r) with t | t | t
     ·exact t
     ·exact absurd t c2
     ·exact absurd t c1
    have ec : cmpK (rkey (rd_T38 l (i : Int))) (rkey r) = -1:=if_pos c3
    rw [ec,show putR (rd_T38 l (i : Int) :: l.drop (i + 1)) r = rd_T38 l (i : Int) :: putR (l.drop (i + 1)) r by simp only [putR];rw [if_neg c1,if_neg c2]]
    refine Ev.congr (fun k=>(if_neg (by simp)).trans ((if_neg (by simp)).trans ((if_neg (by simp)).trans ((if_pos (by omega)).trans ((if_pos (by omega)).trans (if_pos (by omega))))))) ?_
    have:=ih (i + 1) (out ++ [rd_T38 l (i : Int)]) (by omega) (by simp;omega)
    simpa using this
theorem s_put (l : List Rw) (hl : l.length ≤ 1048576) (r : Rw) : Ev (fun k=>spec_l2Put.f k l r.f0 r.f1 r.f2.f0 r.f2.f1 r.f3) (putR l r):=by
 unfold spec_l2Put.f
 simpa using put_loop l hl r l.length 0 [] (by omega) (by simp)
theorem sum_l1 (l : List Rw) (hl : l.length ≤ 1048576) (d : Nat) : ∀ (i : Nat) (out : List Rw),i + d = l.length → out.length ≤ i →
  Ev (fun k=>spec_l2Sum.l1 k l out (i : Int)) (out ++ (l.drop i).filter fun r=>r.f3 != 0):=by
 induction d with
 | zero =>
  intro i out hi ho
  rw [List.drop_eq_nil_of_le (by omega)]
  refine Ev.step (fun k=>by rw [spec_l2Sum.l1]) (Ev.congr (fun k=>if_neg (by omega)) ?_)
  simpa using Ev.now out
 | succ d ih =>
  intro i out hi ho
  refine Ev.step (fun k=>by rw [spec_l2Sum.l1]) (Ev.congr (fun k=>(if_pos (by omega)).trans (if_pos (by omega))) ?_)
  rw [up1 (by omega : i < l.length) (by omega),rdR_drop (by omega : i < l.length)]
  by_cases h : (rd_T38 l (i : Int)).f3 = 0
  ·rw [List.filter_cons_of_neg (by simp [h])]
   exact Ev.congr (fun k=>if_pos h) (ih (i + 1) out (by omega) (by omega))
  ·rw [List.filter_cons_of_pos (by simp [h])]
   have:=ih (i + 1) (out ++ [rd_T38 l (i : Int)]) (by omega) (by simp;omega)
   exact Ev.congr (fun k=>(if_neg h).trans (if_pos (by omega))) (by simpa using this)
theorem sum_l0 (l : List Rw) (hl : l.length ≤ 1048576) (d : Nat) : ∀ (i : Nat) (s : List Rw),i + d = l.length → s.length ≤ i →
  Ev (fun k=>spec_l2Sum.l0 k l s (i : Int)) (((l.drop i).foldl putR s).filter fun r=>r.f3 != 0):=by
 induction d with
 | zero =>
  intro i s hi hs
  rw [List.drop_eq_nil_of_le (by omega)]
  refine Ev.step (fun k=>by rw [spec_l2Sum.l0]) (Ev.congr (fun k=>if_neg (by omega)) ?_)
  simpa using sum_l1 s (by omega) s.length 0 [] (by omega) (by simp)
 | succ d ih =>
  intro i s hi hs
  refine Ev.step (fun k=>by rw [spec_l2Sum.l0]) (Ev.congr (fun k=>(if_pos (by omega)).trans (if_pos (by omega))) ?_)
  refine Ev.bind (s_put s (by omega) (rd_T38 l (i : Int))) ?_
  rw [up1 (by omega : i < l.length) (by omega),rdR_drop (by omega : i < l.length),List.foldl_cons]
  have:=putR_len s (rd_T38 l (i : Int))
  exact ih (i + 1) _ (by omega) (by omega)
theorem s_sum (l : List Rw) (hl : l.length ≤ 1048576) : Ev (fun k=>spec_l2Sum.f k l) (consol l):=by
 unfold spec_l2Sum.f
 simpa [consol,csum] using sum_l0 l hl l.length 0 [] (by omega) (by simp)

theorem rw_ext {x y : Rw} (h : rkey x = rkey y) (hd : x.f3 = y.f3) : x = y:=by
 obtain ⟨a,b,⟨c,d⟩,e⟩:=x
 obtain ⟨a',b',⟨c',d'⟩,e'⟩:=y
 simp only [rkey,Prod.mk.injEq] at h
 obtain ⟨rfl,rfl,rfl,rfl⟩:=h
 simp only at hd
 subst hd
 rfl
/-- the rows that have the property,summed -/
def wsum (p : Int × Int × Int × Int → Bool) : List Rw → Int
 | []=>0
 | r :: l=>(if p (rkey r) then r.f3 else 0) + wsum p l
/-- the same modulo 2^64 -/
def mcong (a b : Int) : Prop:=∃ q : Int,a = b + q * 18446744073709551616
theorem mcong.trans {a b c : Int} (h : mcong a b) (k : mcong b c) : mcong a c:=by
 obtain ⟨q,rfl⟩:=h
 obtain ⟨s,rfl⟩:=k
 exact ⟨q + s,by omega⟩
theorem mcong.symm {a b : Int} (h : mcong a b) : mcong b a:=by
 obtain ⟨q,rfl⟩:=h
 exact ⟨-q,by omega⟩
theorem mcong_wrap (a : Int) : mcong (wrap64 a) a:=by
 unfold wrap64
 exact ⟨-((a + 9223372036854775808) / 18446744073709551616),by omega⟩
theorem mcong_eq {a b : Int} (h : mcong a b) (ha : -9223372036854775808 ≤ a ∧ a ≤ 9223372036854775807) (hb : -9223372036854775808 ≤ b ∧ b ≤ 9223372036854775807) : a = b:=by
 obtain ⟨q,rfl⟩:=h
 omega
theorem wsum_put (p : Int × Int × Int × Int → Bool) (l : List Rw) (r : Rw) : mcong (wsum p (putR l r)) (wsum p l + (if p (rkey r) then r.f3 else 0)):=by
 induction l with
 | nil=>exact ⟨0,by simp [putR,wsum]⟩
 | cons x l ih =>
  unfold putR
  split
  ·exact ⟨0,by simp only [wsum];omega⟩
  ·split
   ·rename_i _ he
    simp only [wsum]
    have : rkey { r with f3:=wrap64 (r.f3 + x.f3) } = rkey r:=rfl
    rw [this,he]
    by_cases hp : p (rkey r) = true
    ·simp only [hp,if_true]
     obtain ⟨q,hq⟩:=mcong_wrap (r.f3 + x.f3)
     exact ⟨q,by rw [hq];omega⟩
    ·simp only [hp]
     exact ⟨0,by simp⟩
   ·simp only [wsum]
    obtain ⟨q,hq⟩:=ih
    exact ⟨q,by rw [hq];omega⟩
theorem wsum_foldl (p : Int × Int × Int × Int → Bool) (l : List Rw) : ∀ a : List Rw,mcong (wsum p (l.foldl putR a)) (wsum p a + wsum p l):=by
 induction l with
 | nil=>intro a;exact ⟨0,by simp [wsum]⟩
 | cons x l ih =>
  intro a
  simp only [List.foldl_cons]
  refine (ih (putR a x)).trans ?_
  obtain ⟨q,hq⟩:=wsum_put p a x
  exact ⟨q,by rw [hq];simp only [wsum];omega⟩
theorem wsum_filter (p : Int × Int × Int × Int → Bool) (l : List Rw) : wsum p (l.filter fun r=>r.f3 != 0) = wsum p l:=by
 induction l with
 | nil=>rfl
 | cons x l ih =>
  by_cases h : x.f3 = 0
  ·rw [List.filter_cons_of_neg (by simp [h])]
   simp only [wsum,h,ih]
   split <;> omega
  ·rw [List.filter_cons_of_pos (by simp [h])]
   simp only [wsum,ih]
theorem wsum_consol (p : Int × Int × Int × Int → Bool) (l : List Rw) : mcong (wsum p (consol l)) (wsum p l):=by
 unfold consol csum
 rw [wsum_filter]
 have:=wsum_foldl p l []
 simpa [wsum] using this
def Sorted (l : List Rw) : Prop:=l.Pairwise fun x y=>klt (rkey x) (rkey y)
theorem put_keys (l : List Rw) (r : Rw) : ∀ x ∈ putR l r,rkey x = rkey r ∨ ∃ y ∈ l,rkey x = rkey y:=by
 induction l with
 | nil =>
  intro x hx
  rw [putR,List.mem_singleton] at hx
  exact .inl (by rw [hx])
 | cons y l ih =>
  intro x hx
  unfold putR at hx
  split at hx
  ·rcases List.mem_cons.1 hx with rfl | hx
   ·exact .inl rfl
   ·exact .inr ⟨x,hx,rfl⟩
  ·split at hx
   ·rcases List.mem_cons.1 hx with rfl | hx
    ·exact .inl rfl
    ·exact .inr ⟨x,List.mem_cons_of_mem _ hx,rfl⟩
   ·rcases List.mem_cons.1 hx with rfl | hx
    ·exact .inr ⟨x,List.mem_cons_self,rfl⟩
    ·rcases ih x hx with h | ⟨z,hz,h⟩
     ·exact .inl h
     ·exact .inr ⟨z,List.mem_cons_of_mem _ hz,h⟩
theorem put_sorted {l : List Rw} (h : Sorted l) (r : Rw) : Sorted (putR l r):=by
 induction l with
 | nil=>exact List.pairwise_singleton _ _
 | cons y l ih =>
  have h2:=List.pairwise_cons.1 h
  unfold putR
  split
  ·rename_i hk
   refine List.pairwise_cons.2 ⟨fun x hx=>?_,h⟩
   rcases List.mem_cons.1 hx with rfl | hx
   ·exact hk
   ·exact klt_trans hk (h2.1 x hx)
  ·split
   ·rename_i _ he
    refine List.pairwise_cons.2 ⟨fun x hx=>?_,h2.2⟩
    have:=h2.1 x hx
    rw [he] at this
    exact this
   ·rename_i h3 h4
    refine List.pairwise_cons.2 ⟨fun x hx=>?_,ih h2.2⟩
    rcases put_keys l r x hx with e | ⟨z,hz,e⟩
    ·rw [e]
     rcases klt_tri (rkey y) (rkey r) with t | t | t
     ·exact t
     ·exact absurd t h4
     ·exact absurd t h3
    ·rw [e]
     exact h2.1 z hz
theorem csum_sorted (l : List Rw) : Sorted (csum l):=by
 have : ∀ a : List Rw,Sorted a → Sorted (l.foldl putR a):=by
  induction l with
  | nil=>intro a ha;exact ha
  | cons x l ih=>intro a ha;exact ih _ (put_sorted ha x)
 exact this [] List.Pairwise.nil
theorem consol_sorted (l : List Rw) : Sorted (consol l):=(csum_sorted l).filter _
theorem consol_ne (l : List Rw) : ∀ r ∈ consol l,r.f3 ≠ 0:=by
 intro r hr
 have:=(List.mem_filter.1 hr).2
 simpa using this
def In64 (n : Int) : Prop:=-9223372036854775808 ≤ n ∧ n ≤ 9223372036854775807
theorem in64_wrap (n : Int) : In64 (wrap64 n):=by unfold In64 wrap64;omega
theorem put_in64 {l : List Rw} {r : Rw} (h : ∀ x ∈ l,In64 x.f3) (hr : In64 r.f3) : ∀ x ∈ putR l r,In64 x.f3:=by
 induction l with
 | nil =>
  intro x hx
  rw [putR,List.mem_singleton] at hx
  rw [hx]
  exact hr
 | cons y l ih =>
  intro x hx
  unfold putR at hx
  split at hx
  ·rcases List.mem_cons.1 hx with rfl | hx
   ·exact hr
   ·exact h x hx
  ·split at hx
   ·rcases List.mem_cons.1 hx with rfl | hx
    ·exact in64_wrap _
    ·exact h x (List.mem_cons_of_mem _ hx)
   ·rcases List.mem_cons.1 hx with rfl | hx
    ·exact h x List.mem_cons_self
    ·exact ih (fun z hz=>h z (List.mem_cons_of_mem _ hz)) x hx
theorem consol_in64 {l : List Rw} (h : ∀ x ∈ l,In64 x.f3) : ∀ x ∈ consol l,In64 x.f3:=by
 have : ∀ a : List Rw,(∀ x ∈ a,In64 x.f3) → ∀ x ∈ l.foldl putR a,In64 x.f3:=by
  induction l with
  | nil=>intro a ha;exact ha
  | cons y l ih=>intro a ha;exact ih (fun z hz=>h z (List.mem_cons_of_mem _ hz)) _ (put_in64 ha (h y List.mem_cons_self))
 intro x hx
 exact this [] (fun x hx=>by simp at hx) x (List.mem_filter.1 hx).1
/-- what is there of one key -/
def ksum (k : Int × Int × Int × Int) (l : List Rw) : Int:=wsum (fun z=>decide (z = k)) l
theorem wsum_none {p : Int × Int × Int × Int → Bool} {l : List Rw} (h : ∀ x ∈ l,p (rkey x) = false) : wsum p l = 0:=by
 induction l with
 | nil=>rfl
 | cons y l ih =>
  simp only [wsum,h y List.mem_cons_self]
  rw [ih (fun x hx=>h x (List.mem_cons_of_mem _ hx))]
  simp
theorem ksum_head {x : Rw} {l : List Rw} (h : Sorted (x :: l)) : ksum (rkey x) (x :: l) = x.f3:=by
 have h2:=(List.pairwise_cons.1 h).1
 unfold ksum
 simp only [wsum,decide_true,if_true]
 rw [wsum_none (fun y hy=>?_)]
 ·omega
 ·refine decide_eq_false fun e=>?_
  have:=h2 y hy
  rw [e] at this
  exact klt_irrefl _ this
theorem ksum_low {k : Int × Int × Int × Int} {l : List Rw} (h : ∀ x ∈ l,klt k (rkey x)) : ksum k l = 0 :=
 wsum_none fun x hx=>decide_eq_false fun e=>by
  have:=h x hx
  rw [e] at this
  exact klt_irrefl _ this
/-- Two lists in order,of rows that are not nothing,that say the same of each key are the same. -/
theorem sorted_unique : ∀ {a b : List Rw},Sorted a → Sorted b → (∀ x ∈ a,x.f3 ≠ 0 ∧ In64 x.f3) → (∀ x ∈ b,x.f3 ≠ 0 ∧ In64 x.f3) → (∀ k,mcong (ksum k a) (ksum k b)) → a = b
 | [],[],_,_,_,_,_=>rfl
 | x :: a,[],ha,_,na,_,h=>by
  have h1:=h (rkey x)
  rw [ksum_head ha] at h1
  have h2:=na x List.mem_cons_self
  exact absurd (mcong_eq h1 h2.2 (by simp [ksum,wsum])) h2.1
 | [],y :: b,_,hb,_,nb,h=>by
  have h1:=h (rkey y)
  rw [ksum_head hb] at h1
  have h2:=nb y List.mem_cons_self
  exact absurd (mcong_eq h1.symm h2.2 (by simp [ksum,wsum])) h2.1
 | x :: a,y :: b,ha,hb,na,nb,h=>by
  have ha2:=List.pairwise_cons.1 ha
  have hb2:=List.pairwise_cons.1 hb
  have nx:=na x List.mem_cons_self
  have ny:=nb y List.mem_cons_self
  rcases klt_tri (rkey x) (rkey y) with t | t | t
  ·have h1:=h (rkey x)
   rw [ksum_head ha,ksum_low (l:=y :: b) (fun z hz=>by
    rcases List.mem_cons.1 hz with rfl | hz
    ·exact t
    ·exact klt_trans t (hb2.1 z hz))] at h1
   exact absurd (mcong_eq h1 nx.2 (by omega)) nx.1
  ·have h1:=h (rkey x)
   rw [ksum_head ha,t,ksum_head hb] at h1
   have e:=mcong_eq h1 nx.2 ny.2
   have exy : x = y:=rw_ext t e
   subst exy
   congr 1
   refine sorted_unique ha2.2 hb2.2 (fun z hz=>na z (List.mem_cons_of_mem _ hz)) (fun z hz=>nb z (List.mem_cons_of_mem _ hz)) (fun k=>?_)
   obtain ⟨q,hq⟩:=h k
   simp only [ksum,wsum] at hq ⊢
   exact ⟨q,by omega⟩
  ·have h1:=h (rkey y)
   rw [ksum_head hb,ksum_low (l:=x :: a) (fun z hz=>by
    rcases List.mem_cons.1 hz with rfl | hz
    ·exact t
    ·exact klt_trans t (ha2.1 z hz))] at h1
   exact absurd (mcong_eq h1.symm ny.2 (by omega)) ny.1
/-- A list in order that says of each key what the rows say is those rows consolidated. -/
theorem consol_unique {l a : List Rw} (hl : ∀ x ∈ l,In64 x.f3) (ha : Sorted a) (na : ∀ x ∈ a,x.f3 ≠ 0 ∧ In64 x.f3) (h : ∀ k,mcong (ksum k a) (ksum k l)) : a = consol l :=
 sorted_unique ha (consol_sorted l) na (fun x hx=>⟨consol_ne l x hx,consol_in64 hl x hx⟩) (fun k=>(h k).trans (wsum_consol _ l).symm)
theorem consol_congr {l m : List Rw} (hl : ∀ x ∈ l,In64 x.f3) (hm : ∀ x ∈ m,In64 x.f3) (h : ∀ k,mcong (ksum k l) (ksum k m)) : consol l = consol m :=
 consol_unique hm (consol_sorted l) (fun x hx=>⟨consol_ne l x hx,consol_in64 hl x hx⟩) (fun k=>(wsum_consol _ l).trans (h k))

/-! items as rows of one time -/
def rwI (x : It) : Rw:=⟨x.f0,x.f1,⟨0,0⟩,x.f2⟩
def itR (r : Rw) : It:=⟨r.f0,r.f1,r.f3⟩
def itemsOf (l : List It) : List It:=(consol (l.map rwI)).map itR
theorem itemsOf_len (l : List It) : (itemsOf l).length ≤ l.length:=by
 unfold itemsOf
 have:=consol_len (l.map rwI)
 simpa using this
/-! BatchAt,of the reference -/
def rowsAt (l : List Rw) (a b : Int) : List It:=(l.filter fun r=>leT r.f2.f0 r.f2.f1 a b).map itR
def batchAt (l : List Rw) (a b : Int) : List It:=if rowsOk l && okT a b then itemsOf (rowsAt l a b) else []
theorem rowsAt_len (l : List Rw) (a b : Int) : (rowsAt l a b).length ≤ l.length:=by
 unfold rowsAt
 rw [List.length_map]
 exact List.length_filter_le _ _
theorem batchAt_len (l : List Rw) (a b : Int) : (batchAt l a b).length ≤ l.length:=by
 unfold batchAt
 split
 ·exact Nat.le_trans (itemsOf_len _) (rowsAt_len _ _ _)
 ·simp
/-! the program's gathered items are the reference's -/
theorem put_rwI (a : List It) (x : It) : putR (a.map rwI) (rwI x) = (putI a x).map rwI:=by
 induction a with
 | nil=>rfl
 | cons y a ih =>
  rw [List.map_cons,putR,putI]
  by_cases h1 : ltI x y = true
  ·have h1':=ltI_iff.1 h1
   rw [if_pos h1,if_pos (by unfold klt rkey rwI;simp only;omega)]
   rfl
  ·have h1' : ¬ (x.f0 < y.f0 ∨ x.f0 = y.f0 ∧ x.f1 < y.f1):=fun k=>h1 (ltI_iff.2 k)
   rw [if_neg h1,if_neg (by unfold klt rkey rwI;simp only;omega)]
   by_cases h2 : y.f0 = x.f0 ∧ y.f1 = x.f1
   ·rw [if_pos h2,if_pos (by simp only [rkey,rwI,h2.1,h2.2])]
    rfl
   ·rw [if_neg h2,if_neg (fun k=>h2 (by simp only [rkey,rwI,Prod.mk.injEq] at k;exact ⟨k.1,k.2.1⟩)),ih]
    rfl
theorem fold_rwI (l : List It) : ∀ a : List It,(l.map rwI).foldl putR (a.map rwI) = (l.foldl putI a).map rwI:=by
 induction l with
 | nil=>intro a;rfl
 | cons x l ih =>
  intro a
  rw [List.map_cons,List.foldl_cons,List.foldl_cons,put_rwI,ih]
theorem gath_items (l : List It) : gathI l = itemsOf l:=by
 unfold gathI itemsOf consol csum
 have:=fold_rwI l []
 rw [List.map_nil] at this
 rw [this,List.filter_map,List.map_map]
 have e : (fun r : Rw=>r.f3 != 0) ∘ rwI = fun x : It=>x.f2 != 0:=rfl
 rw [e]
 have e2 : itR ∘ rwI = id:=rfl
 rw [e2,List.map_id]
theorem i_gathered (l : List It) (hl : l.length ≤ 1000000) (hok : ∀ x ∈ l,ok83 x = true) : impl_gathered.f l = some (itemsOf l):=by
 unfold impl_gathered.f
 rw [if_pos ⟨hl,List.all_eq_true.2 hok⟩,gath_items]

/-! BatchAt,of the program -/
theorem i_belowT {a b c d : Int} (h : okT a b = true) (h2 : okT c d = true) : impl_below.f a b c d = some (leT a b c d):=by
 unfold impl_below.f leT
 rw [h,h2]
 by_cases h0 : a ≤ c <;> by_cases h1 : b ≤ d <;> simp [h0,h1]
theorem rowOk_it {x : Rw} (h : rowOk x = true) : ok83 (itR x) = true:=by
 simp only [rowOk,okT,Bool.and_eq_true,decide_eq_true_eq] at h
 simp only [ok83,itR,Bool.and_eq_true,wf64_iff]
 omega
theorem rowOk_time {x : Rw} (h : rowOk x = true) : okT x.f2.f0 x.f2.f1 = true:=by
 simp only [rowOk,Bool.and_eq_true] at h
 exact h.2.2.1
theorem present_loop (l : List Rw) (a b : Int) (hT : okT a b = true) (hl : l.length ≤ 1048576) (hok : ∀ x ∈ l,rowOk x = true) (d : Nat) : ∀ (i : Nat) (out : List It),i + d = l.length → out.length ≤ i → i ≤ 400 → d + i ≤ 400 → (∀ x ∈ out,ok83 x = true) →
  Ev (fun k=>impl_present.l0 k out l (l.length : Int) (i : Int) a b) (itemsOf (out ++ rowsAt (l.drop i) a b)):=by
 induction d with
 | zero =>
  intro i out hi ho _ _ hz
  rw [List.drop_eq_nil_of_le (by omega)]
  refine Ev.step (fun k=>by rw [impl_present.l0]) (Ev.congr (fun k=>if_neg (by omega)) ?_)
  refine Ev.bind (a:=itemsOf out) ⟨0,fun k _=>i_gathered out (by omega) hz⟩ ?_
  simpa [rowsAt] using Ev.now _
 | succ d ih =>
  intro i out hi ho h4 h5 hz
  have hlt : i < l.length:=by omega
  have hm : rd_T38 l (i : Int) ∈ l:=by
   have : rd_T38 l (i : Int) ∈ l.drop i:=by rw [rdR_drop hlt];exact List.mem_cons_self
   exact List.mem_of_mem_drop this
  refine Ev.step (fun k=>by rw [impl_present.l0]) (Ev.congr (fun k=>(if_pos (by omega)).trans ((if_pos (by omega)).trans (if_pos (by omega)))) ?_)
  rw [up1 hlt (by omega),rdR_drop hlt]
  have hk:=hok _ hm
  generalize rd_T38 l (i : Int) = r at *
  refine Ev.bind ⟨0,fun k _=>i_belowT (rowOk_time hk) hT⟩ ?_
  cases h : leT r.f2.f0 r.f2.f1 a b with
  | true =>
   rw [show rowsAt (r :: l.drop (i + 1)) a b = itR r :: rowsAt (l.drop (i + 1)) a b by simp [rowsAt,h]]
   have:=ih (i + 1) (out ++ [itR r]) (by omega) (by simp;omega) (by omega) (by omega) fun x hx=>by
    rcases List.mem_append.1 hx with hx | hx
    ·exact hz x hx
    ·rw [List.mem_singleton.1 hx];exact rowOk_it hk
   exact Ev.congr (fun k=>(if_pos rfl).trans (if_pos (by omega))) (by simpa [itR] using this)
  | false =>
   rw [show rowsAt (r :: l.drop (i + 1)) a b = rowsAt (l.drop (i + 1)) a b by simp [rowsAt,h]]
   exact Ev.congr (fun k=>if_neg (by simp)) (ih (i + 1) out (by omega) (by omega) (by omega) (by omega) hz)
theorem i_batchAt (l : List Rw) (a b : Int) (hl : l.length ≤ 1048576) : Ev (fun k=>impl_BatchAt.f k l a b) (batchAt l a b):=by
 unfold impl_BatchAt.f batchAt
 refine Ev.bind (i_rows l hl) ?_
 cases hok : rowsOk l with
 | false=>exact Ev.congr (fun k=>if_neg (by simp)) (Ev.now _)
 | true =>
  obtain ⟨h1,g1⟩:=rowsOk_facts hok
  refine Ev.congr (fun k=>if_pos rfl) (Ev.bind ⟨0,fun k _=>i_ok _ _⟩ ?_)
  cases hT : okT a b with
  | false=>exact Ev.congr (fun k=>if_neg (by simp)) (Ev.now _)
  | true =>
   refine Ev.congr (fun k=>if_pos rfl) (Ev.bind (a:=itemsOf (rowsAt l a b)) ?_ (Ev.now _))
   unfold impl_present.f
   have:=present_loop l a b hT hl g1 l.length 0 [] (by omega) (by simp) (by omega) (by omega) (by simp)
   simpa using this

/-! batches -/
def bOk1 (p : Rw) : List Rw → Bool
 | []=>true
 | y :: r=>(y.f3 != 0) && decide (klt (rkey p) (rkey y)) && bOk1 y r
def bOk : List Rw → Bool
 | []=>true
 | x :: r=>(x.f3 != 0) && bOk1 x r
def batchOk (l : List Rw) : Bool:=rowsOk l && bOk l

theorem s_batch_loop (l : List Rw) (hl : l.length ≤ 1048576) (d : Nat) : ∀ i : Nat,i + 1 + d = l.length → Ev (fun k=>spec_BatchOk.l0 k l ((i + 1 : Nat) : Int)) (bOk1 (rd_T38 l (i : Int)) (l.drop (i + 1))):=by
 induction d with
 | zero =>
  intro i hi
  refine Ev.step (fun k=>by rw [spec_BatchOk.l0]) (Ev.congr (fun k=>if_neg (by omega)) ?_)
  rw [List.drop_eq_nil_of_le (by omega)]
  exact Ev.now _
 | succ d ih =>
  intro i hi
  rw [rdR_drop (by omega : i + 1 < l.length)]
  unfold bOk1
  have e : wrap64 (((i + 1 : Nat) : Int) - 1) = (i : Int):=by rw [w64 (by omega) (by omega)];omega
  refine Ev.step (fun k=>by rw [spec_BatchOk.l0]) (Ev.congr (fun k=>(if_pos (by omega)).trans (if_pos (by omega))) ?_)
  rw [e,up1 (by omega : i + 1 < l.length) (by omega)]
  have ih':=ih (i + 1) (by omega)
  generalize rd_T38 l ((i + 1 : Nat) : Int) = y at *
  generalize rd_T38 l (i : Int) = p at *
  by_cases h0 : y.f3 = 0
  ·refine Ev.congr (fun k=>if_pos h0) ?_
   rw [show (y.f3 != 0) = false by simp [h0]]
   exact Ev.now _
  ·refine Ev.congr (fun k=>(if_neg h0).trans ((if_pos (by omega)).trans ((if_pos (by omega)).trans (if_pos (by omega))))) (Ev.bind (s_comp p y) ?_)
   rw [show (y.f3 != 0) = true by simp [h0],Bool.true_and]
   by_cases h1 : klt (rkey p) (rkey y)
   ·have : cmpK (rkey p) (rkey y) = -1:=if_pos h1
    rw [decide_eq_true h1,Bool.true_and,this]
    exact Ev.congr (fun k=>if_neg (by omega)) ih'
   ·have : cmpK (rkey p) (rkey y) ≥ 0:=by
     unfold cmpK
     rw [if_neg h1]
     split <;> omega
    rw [decide_eq_false h1,Bool.false_and]
    exact Ev.congr (fun k=>if_pos this) (Ev.now _)
theorem s_batch (l : List Rw) (hl : l.length ≤ 1048576) : Ev (fun k=>spec_BatchOk.f k l) (batchOk l):=by
 unfold spec_BatchOk.f batchOk
 refine Ev.bind (s_rows l hl) ?_
 cases rowsOk l with
 | false=>exact Ev.congr (fun k=>if_neg (by simp)) (Ev.now _)
 | true =>
  rw [Bool.true_and]
  refine Ev.congr (fun k=>if_pos rfl) ?_
  cases l with
  | nil =>
   refine Ev.step (fun k=>by rw [spec_BatchOk.l0]) ?_
   exact (Ev.congr (fun k=>if_neg (by simp)) (Ev.now _))
  | cons x r =>
   refine Ev.step (fun k=>by rw [spec_BatchOk.l0]) (Ev.congr (fun k=>(if_pos (by simp)).trans (if_pos (by omega))) ?_)
   have hx : rd_T38 (x :: r) 0 = x:=rfl
   rw [hx,show bOk (x :: r) = ((x.f3 != 0) && bOk1 x r) from rfl]
   by_cases h0 : x.f3 = 0
   ·refine Ev.congr (fun k=>if_pos h0) ?_
    rw [show (x.f3 != 0) = false by simp [h0]]
    exact Ev.now _
   ·rw [show (x.f3 != 0) = true by simp [h0],Bool.true_and]
    refine Ev.congr (fun k=>(if_neg h0).trans (if_neg (by omega))) ?_
    have:=s_batch_loop (x :: r) hl r.length 0 (by simp;omega)
    simpa [w64,hx] using this

theorem i_ahead (a b c d : Int) : impl_ahead.f a b c d = some (decide (a < c ∨ a = c ∧ b < d)):=by
 unfold impl_ahead.f
 by_cases h0 : a < c
 ·rw [if_pos h0,decide_eq_true (.inl h0)]
 ·rw [if_neg h0]
  by_cases h1 : a = c
  ·rw [if_pos h1]
   congr 1
   rw [decide_eq_decide]
   omega
  ·rw [if_neg h1,decide_eq_false (by omega)]
theorem i_rowAhead (x y : Rw) : impl_rowAhead.f x.f0 x.f1 x.f2.f0 x.f2.f1 x.f3 y.f0 y.f1 y.f2.f0 y.f2.f1 y.f3 = some (decide (klt (rkey x) (rkey y))):=by
 unfold impl_rowAhead.f
 simp only [i_ahead,Option.bind_some]
 by_cases h0 : x.f0 = y.f0
 ·rw [if_pos h0]
  by_cases h1 : x.f1 = y.f1
  ·rw [if_pos h1]
   congr 1
   rw [decide_eq_decide]
   unfold klt rkey
   simp only
   omega
  ·rw [if_neg h1]
   congr 1
   rw [decide_eq_decide]
   unfold klt rkey
   simp only
   omega
 ·rw [if_neg h0]
  congr 1
  rw [decide_eq_decide]
  unfold klt rkey
  simp only
  omega
theorem i_batch_loop (l : List Rw) (hl : l.length ≤ 1048576) (d : Nat) : ∀ i : Nat,i + 1 + d = l.length → Ev (fun k=>impl_BatchOk.l0 k l l (l.length : Int) ((i + 1 : Nat) : Int)) (rowsOk l && bOk1 (rd_T38 l (i : Int)) (l.drop (i + 1))):=by
 induction d with
 | zero =>
  intro i hi
  refine Ev.step (fun k=>by rw [impl_BatchOk.l0]) (Ev.congr (fun k=>if_neg (by omega)) ?_)
  rw [List.drop_eq_nil_of_le (by omega)]
  refine Ev.bind (i_rows l hl) ?_
  rw [show bOk1 (rd_T38 l (i : Int)) [] = true from rfl,Bool.and_true]
  exact Ev.now _
 | succ d ih =>
  intro i hi
  rw [rdR_drop (by omega : i + 1 < l.length)]
  unfold bOk1
  have e : wrap64 (((i + 1 : Nat) : Int) - 1) = (i : Int):=by rw [w64 (by omega) (by omega)];omega
  refine Ev.step (fun k=>by rw [impl_BatchOk.l0]) (Ev.congr (fun k=>(if_pos (by omega)).trans ((if_pos (by omega)).trans (if_pos (by omega)))) ?_)
  rw [e,up1 (by omega : i + 1 < l.length) (by omega)]
  have ih':=ih (i + 1) (by omega)
  generalize rd_T38 l ((i + 1 : Nat) : Int) = y at *
  generalize rd_T38 l (i : Int) = p at *
  by_cases h0 : y.f3 = 0
  ·refine Ev.congr (fun k=>if_pos h0) ?_
   rw [show (y.f3 != 0) = false by simp [h0],Bool.false_and,Bool.false_and,Bool.and_false]
   exact Ev.now _
  ·refine Ev.congr (fun k=>(if_neg h0).trans ((if_pos (by omega)).trans ((if_pos (by omega)).trans (if_pos (by omega))))) (Ev.bind ⟨0,fun k _=>i_rowAhead p y⟩ ?_)
   rw [show (y.f3 != 0) = true by simp [h0],Bool.true_and]
   by_cases h1 : klt (rkey p) (rkey y)
   ·rw [decide_eq_true h1,Bool.true_and]
    exact Ev.congr (fun k=>if_pos rfl) ih'
   ·rw [decide_eq_false h1,Bool.false_and,Bool.and_false]
    exact Ev.congr (fun k=>if_neg (by simp)) (Ev.now _)
theorem i_batch (l : List Rw) (hl : l.length ≤ 1048576) : Ev (fun k=>impl_BatchOk.f k l) (batchOk l):=by
 unfold impl_BatchOk.f batchOk
 cases l with
 | nil =>
  refine Ev.step (fun k=>by rw [impl_BatchOk.l0]) (Ev.congr (fun k=>if_neg (by simp)) (Ev.bind (i_rows [] hl) ?_))
  rw [show bOk [] = true from rfl,Bool.and_true]
  exact Ev.now _
 | cons x r =>
  refine Ev.step (fun k=>by rw [impl_BatchOk.l0]) (Ev.congr (fun k=>(if_pos (by simp)).trans ((if_pos (by omega)).trans (if_pos (by simp)))) ?_)
  have hx : rd_T38 (x :: r) 0 = x:=rfl
  rw [hx,show bOk (x :: r) = ((x.f3 != 0) && bOk1 x r) from rfl]
  by_cases h0 : x.f3 = 0
  ·refine Ev.congr (fun k=>if_pos h0) ?_
   rw [show (x.f3 != 0) = false by simp [h0],Bool.false_and,Bool.and_false]
   exact Ev.now _
  ·rw [show (x.f3 != 0) = true by simp [h0],Bool.true_and]
   refine Ev.congr (fun k=>(if_neg h0).trans (if_neg (by omega))) ?_
   have:=i_batch_loop (x :: r) hl r.length 0 (by simp;omega)
   simpa [w64,hx] using this

/-! the program's consolidated rows are the reference's -/
theorem co_vsum_in64 (q : Rw) (l : List Rw) : ∀ n,In64 n → In64 (co_vsum q n l):=by
 induction l with
 | nil=>intro n h;exact h
 | cons x r ih =>
  intro n h
  unfold co_vsum
  split
  ·exact ih _ (in64_wrap _)
  ·exact ih _ h
theorem co_vsum_ksum (q : Rw) (h0 : q.f3 = 0) (l : List Rw) : ∀ n,mcong (co_vsum q n l) (n + ksum (rkey q) l):=by
 induction l with
 | nil=>intro n;exact ⟨0,by simp [co_vsum,ksum,wsum]⟩
 | cons x r ih =>
  intro n
  unfold co_vsum
  by_cases h : co_sk x q
  ·rw [if_pos ⟨h,h0⟩]
   have e : rkey x = rkey q:=by obtain ⟨a,b,c,d⟩:=h;simp only [rkey,a,b,c,d]
   obtain ⟨s,hs⟩:=ih (wrap64 (n + x.f3))
   obtain ⟨t,ht⟩:=mcong_wrap (n + x.f3)
   refine ⟨s + t,?_⟩
   rw [hs,ht]
   simp only [ksum,wsum,e,decide_true,if_true]
   omega
  ·rw [if_neg (fun k=>h k.1)]
   have e : ¬ rkey x = rkey q:=fun e=>h (by simp only [rkey,Prod.mk.injEq] at e;exact ⟨e.1,e.2.1,e.2.2.1,e.2.2.2⟩)
   obtain ⟨s,hs⟩:=ih n
   refine ⟨s,?_⟩
   rw [hs]
   simp only [ksum,wsum,e,decide_false]
   simp
theorem ksum_mem {l : List Rw} (hs : Sorted l) {y : Rw} (hy : y ∈ l) : ksum (rkey y) l = y.f3:=by
 induction l with
 | nil=>simp at hy
 | cons x r ih =>
  rcases List.mem_cons.1 hy with rfl | hy
  ·exact ksum_head hs
  ·have h2:=List.pairwise_cons.1 hs
   have:=ih h2.2 hy
   have hne : ¬ rkey x = rkey y:=fun e=>by
    have:=h2.1 y hy
    rw [e] at this
    exact klt_irrefl _ this
   unfold ksum at this ⊢
   simp only [wsum,hne,decide_false]
   simpa using this
theorem csum_keys (l : List Rw) : ∀ x ∈ csum l,∃ y ∈ l,rkey x = rkey y:=by
 have : ∀ (l a : List Rw) (p : Int × Int × Int × Int → Prop),(∀ x ∈ a,p (rkey x)) → (∀ x ∈ l,p (rkey x)) → ∀ x ∈ l.foldl putR a,p (rkey x):=by
  intro l
  induction l with
  | nil=>intro a p ha _;exact ha
  | cons y l ih =>
   intro a p ha hl
   refine ih (putR a y) p (fun x hx=>?_) fun x hx=>hl x (List.mem_cons_of_mem _ hx)
   rcases put_keys a y x hx with e | ⟨z,hz,e⟩
   ·rw [e];exact hl y List.mem_cons_self
   ·rw [e];exact ha z hz
 exact this l [] (fun k=>∃ y ∈ l,k = rkey y) (fun x hx=>by simp at hx) fun x hx=>⟨x,hx,rfl⟩
theorem consol_keys (l : List Rw) : ∀ x ∈ consol l,∃ y ∈ l,rkey x = rkey y:=fun x hx=>csum_keys l x (List.mem_filter.1 hx).1
theorem okR_iff {x : Rw} : ok38 x = true ↔ In64 x.f0 ∧ In64 x.f1 ∧ In64 x.f2.f0 ∧ In64 x.f2.f1 ∧ In64 x.f3:=by
 rw [ok38_iff]
 simp only [co_wf64_iff,In64]
theorem consol_ok {l : List Rw} (h : ∀ x ∈ l,ok38 x = true) : ∀ x ∈ consol l,ok38 x = true:=by
 intro x hx
 obtain ⟨y,hy,e⟩:=consol_keys l x hx
 have hy2:=okR_iff.1 (h y hy)
 simp only [rkey,Prod.mk.injEq] at e
 refine okR_iff.2 ⟨by rw [e.1];exact hy2.1,by rw [e.2.1];exact hy2.2.1,by rw [e.2.2.1];exact hy2.2.2.1,by rw [e.2.2.2];exact hy2.2.2.2.1,?_⟩
 exact consol_in64 (fun z hz=>(okR_iff.1 (h z hz)).2.2.2.2) x hx
theorem consol_gath {l : List Rw} (h : ∀ x ∈ l,ok38 x = true) : co_Gath l (consol l) where
 nod:=(consol_sorted l).imp fun {x y} hk hs=>by
  obtain ⟨a,b,c,d⟩:=hs
  unfold klt rkey at hk
  simp only [a,b,c,d] at hk
  omega
 vals:=fun y hy=>by
  refine ⟨consol_ok h y hy,consol_ne l y hy,?_⟩
  have e1:=ksum_mem (consol_sorted l) hy
  have c1:=wsum_consol (fun z=>decide (z = rkey y)) l
  have c2:=co_vsum_ksum (co_kI y) rfl l 0
  have e2 : rkey (co_kI y) = rkey y:=rfl
  rw [e2,Int.zero_add] at c2
  have c3 : mcong y.f3 (co_vsum (co_kI y) 0 l):=by
   rw [← e1]
   exact c1.trans c2.symm
  exact mcong_eq c3 (okR_iff.1 (consol_ok h y hy)).2.2.2.2 (co_vsum_in64 _ l 0 (by unfold In64;omega))
 all:=fun q hq hz=>by
  by_cases h0 : q.f3 = 0
  ·refine Classical.byContradiction fun hno=>hz ?_
   have e1 : ksum (rkey q) (consol l) = 0:=wsum_none fun x hx=>decide_eq_false fun e=>hno ⟨x,hx,by
    simp only [rkey,Prod.mk.injEq] at e
    exact ⟨e.1,e.2.1,e.2.2.1,e.2.2.2⟩⟩
   have c1:=wsum_consol (fun z=>decide (z = rkey q)) l
   have c2:=co_vsum_ksum q h0 l 0
   rw [Int.zero_add] at c2
   have c3:=c2.trans c1.symm
   have e2 : wsum (fun z=>decide (z = rkey q)) (consol l) = 0:=e1
   rw [e2] at c3
   exact mcong_eq c3 (co_vsum_in64 _ l 0 (by unfold In64;omega)) (by omega)
  ·exact absurd (co_vsum_z q l h0 0) hz
theorem consol_sortR (l : List Rw) : co_SortR (consol l):=(consol_sorted l).imp fun {x y} hk=>decide_eq_true hk
theorem co_res_consol {l : List Rw} (h : ∀ x ∈ l,ok38 x = true) : co_res l = consol l:=(co_res_eq (consol_gath h) (consol_sortR l)).symm
theorem i_consol (l : List Rw) (hl : l.length ≤ 1000000) (h : ∀ x ∈ l,ok38 x = true) : impl_consolidated.f l = some (consol l):=by
 unfold impl_consolidated.f
 rw [if_pos ⟨hl,List.all_eq_true.2 h⟩,co_res_consol h]
theorem rowOk_ok {x : Rw} (h : rowOk x = true) : ok38 x = true:=by
 simp only [rowOk,okT,Bool.and_eq_true,decide_eq_true_eq] at h
 refine okR_iff.2 ?_
 unfold In64
 omega

/-! a batch out of rows -/
def fitB (l : List Rw) : List Rw:=if batchOk (consol l) then consol l else []
theorem fitB_len (l : List Rw) : (fitB l).length ≤ l.length:=by
 unfold fitB
 split
 ·exact consol_len l
 ·simp
theorem s_fit (l : List Rw) (hl : l.length ≤ 1048576) : Ev (fun k=>(spec_l2Sum.f k l).bind fun t=>(spec_l2Fit.f k t).bind fun u=>some u) (fitB l):=by
 have hc:=consol_len l
 refine Ev.bind (s_sum l hl) ?_
 unfold spec_l2Fit.f fitB
 refine Ev.bind (a:=if batchOk (consol l) then consol l else []) (Ev.bind (s_batch _ (by omega)) ?_) (Ev.now _)
 cases batchOk (consol l) with
 | true=>exact Ev.congr (fun k=>if_pos rfl) (Ev.now _)
 | false=>exact Ev.congr (fun k=>if_neg (by simp)) (Ev.now _)
theorem i_fit (l : List Rw) (hl : l.length ≤ 1000000) (h : ∀ x ∈ l,ok38 x = true) : Ev (fun k=>(impl_batch.f k l).bind fun t=>some t.1) (fitB l):=by
 have hc:=consol_len l
 unfold impl_batch.f fitB
 refine Ev.bind (a:=if batchOk (consol l) then (consol l,true) else ([],false)) (Ev.bind ⟨0,fun k _=>i_consol l hl h⟩ (Ev.bind (i_batch _ (by omega)) ?_)) ?_
 ·cases batchOk (consol l) with
  | true=>exact Ev.congr (fun k=>if_pos rfl) (Ev.now _)
  | false=>exact Ev.congr (fun k=>if_neg (by simp)) (Ev.now _)
 ·cases batchOk (consol l) <;> exact Ev.now _

/-! BatchOf -/
/-! BatchMove -/
theorem mv1_ok (l : List Tm) (c e : Int) (hv : ∀ x ∈ l,okT x.f0 x.f1 = true) (ht : okT c e = true) : ∀ a : Int × Int,okT a.1 a.2 = true → okT (mv1 l c e a).1 (mv1 l c e a).2 = true:=by
 induction l with
 | nil=>intro a h;exact h
 | cons x r ih =>
  intro a h
  exact ih (fun y hy=>hv y (List.mem_cons_of_mem _ hy)) _ (okT_min h (okT_max (hv x List.mem_cons_self) ht))
theorem mvRok (l : List Tm) (c e : Int) (hv : ∀ x ∈ l,okT x.f0 x.f1 = true) (ht : okT c e = true) : okT (mvR l c e).1 (mvR l c e).2 = true:=by
 cases l with
 | nil=>exact ht
 | cons x r=>exact mv1_ok r c e (fun y hy=>hv y (List.mem_cons_of_mem _ hy)) ht _ (okT_max (hv x List.mem_cons_self) ht)
def mvB (f : List Tm) (x : Rw) : Rw:=⟨x.f0,x.f1,⟨(mvR f x.f2.f0 x.f2.f1).1,(mvR f x.f2.f0 x.f2.f1).2⟩,x.f3⟩
def batchMove (l : List Rw) (f : List Tm) : List Rw:=if rowsOk l && fOk f then fitB (l.map (mvB f)) else []
theorem batchMove_len (l : List Rw) (f : List Tm) : (batchMove l f).length ≤ l.length:=by
 unfold batchMove
 split
 ·have:=fitB_len (l.map (mvB f))
  simpa using this
 ·simp
theorem rowOk_tm {x : Rw} (h : rowOk x = true) : okT x.f2.f0 x.f2.f1 = true:=by
 simp only [rowOk,Bool.and_eq_true] at h
 exact h.2.2.1
theorem mvB_rowOk {f : List Tm} (hf : fOk f = true) {x : Rw} (h : rowOk x = true) : rowOk (mvB f x) = true:=by
 have:=mvRok f x.f2.f0 x.f2.f1 (fOk_ok hf) (rowOk_tm h)
 simp only [rowOk,Bool.and_eq_true] at h ⊢
 exact ⟨h.1,h.2.1,this,h.2.2.2⟩
theorem rdR_memN {l : List Rw} {i : Nat} (h : i < l.length) : rd_T38 l (i : Int) ∈ l:=by
 have:=rdR_drop h
 exact List.mem_of_mem_drop (this ▸ List.mem_cons_self)
theorem s_batchmove_loop (l : List Rw) (f : List Tm) (hl : l.length ≤ 1048576) (hfl : f.length ≤ 1048576) (hok : ∀ x ∈ l,rowOk x = true) (hf : fOk f = true) (d : Nat) : ∀ (i : Nat) (out : List Rw),i + d = l.length → out.length ≤ i →
  Ev (fun k=>spec_BatchMove.l0 k l f out (i : Int)) (fitB (out ++ (l.drop i).map (mvB f))):=by
 induction d with
 | zero =>
  intro i out hi _
  rw [List.drop_eq_nil_of_le (by omega)]
  refine Ev.step (fun k=>by rw [spec_BatchMove.l0]) (Ev.congr (fun k=>if_neg (by omega)) ?_)
  simpa using s_fit out (by omega)
 | succ d ih =>
  intro i out hi ho
  have hx:=hok _ (rdR_memN (by omega : i < l.length))
  refine Ev.step (fun k=>by rw [spec_BatchMove.l0]) (Ev.congr (fun k=>(if_pos (by omega)).trans (if_pos (by omega))) ?_)
  rw [up1 (by omega : i < l.length) (by omega),rdR_drop (by omega : i < l.length)]
  generalize rd_T38 l (i : Int) = r at *
  have hm:=s_move f r.f2.f0 r.f2.f1 hfl
  rw [show mvT f r.f2.f0 r.f2.f1 = mvR f r.f2.f0 r.f2.f1 by unfold mvT;rw [hf,rowOk_tm hx];rfl] at hm
  refine Ev.bind hm (Ev.congr (fun k=>if_pos (by omega)) ?_)
  have:=ih (i + 1) (out ++ [mvB f r]) (by omega) (by simp;omega)
  simpa [mvB] using this
theorem s_batchmove (l : List Rw) (f : List Tm) (hl : l.length ≤ 1048576) (hfl : f.length ≤ 1048576) : Ev (fun k=>spec_BatchMove.f k l f) (batchMove l f):=by
 unfold spec_BatchMove.f batchMove
 refine Ev.bind (Ev.now _) (Ev.bind (s_rows l hl) ?_)
 have out : Ev (fun k=>spec_BatchMove.j0 k l f [] true) []:=by
  refine Ev.step (fun k=>by rw [spec_BatchMove.j0]) ?_
  exact Ev.congr (fun k=>if_pos rfl) (Ev.now _)
 cases hok : rowsOk l with
 | false=>exact Ev.congr (fun k=>if_neg (by simp)) out
 | true =>
  refine Ev.congr (fun k=>if_pos rfl) (Ev.bind (sFront_ev f hfl) ?_)
  cases hf : fOk f with
  | false=>exact out
  | true =>
   refine Ev.step (fun k=>by rw [spec_BatchMove.j0]) (Ev.congr (fun k=>if_neg (by simp)) ?_)
   simpa using s_batchmove_loop l f hl hfl (rowsOk_facts hok).2 hf l.length 0 [] (by omega) (by simp)
theorem i_advanced_loop (f : List Tm) (hfl : f.length ≤ 1048576) (hf : fOk f = true) (d : Nat) : ∀ (l : List Rw) (i : Nat),i + d = l.length → l.length ≤ 1048576 → (∀ x ∈ l.drop i,rowOk x = true) → Ev (fun k=>impl_advanced.l0 k f l (l.length : Int) (i : Int)) (l.take i ++ (l.drop i).map (mvB f)):=by
 induction d with
 | zero =>
  intro l i hi _ _
  rw [List.drop_eq_nil_of_le (by omega),List.take_of_length_le (by omega)]
  refine Ev.step (fun k=>by rw [impl_advanced.l0]) (Ev.congr (fun k=>if_neg (by omega)) ?_)
  simpa using Ev.now l
 | succ d ih =>
  intro l i hi hl hok
  have hlt : i < l.length:=by omega
  refine Ev.step (fun k=>by rw [impl_advanced.l0]) (Ev.congr (fun k=>(if_pos (by omega)).trans ((if_pos (by omega)).trans (if_pos (by omega)))) ?_)
  rw [rdR_drop hlt] at hok
  have hx:=hok _ List.mem_cons_self
  rw [up1 hlt (by omega),rdR_drop hlt,Int.toNat_natCast]
  generalize rd_T38 l (i : Int) = r at *
  refine Ev.bind (i_moved f r.f2.f0 r.f2.f1 hfl (fOk_ok hf) (rowOk_tm hx)) ?_
  have:=ih (l.set i (mvB f r)) (i + 1) (by simp;omega) (by simpa using hl) (by
   rw [List.drop_set_of_lt (by omega)]
   exact fun x h=>hok x (List.mem_cons_of_mem _ h))
  rw [List.length_set,List.take_succ_eq_append_getElem (by simpa using hlt),List.getElem_set_self,List.take_set_of_le (by omega),List.drop_set_of_lt (by omega)] at this
  simpa [mvB] using this
theorem i_batchmove (l : List Rw) (f : List Tm) (hl : l.length ≤ 1048576) (hfl : f.length ≤ 1048576) : Ev (fun k=>impl_BatchMove.f k l f) (batchMove l f):=by
 unfold impl_BatchMove.f batchMove
 have out : Ev (fun k=>impl_BatchMove.j0 k l f true) []:=by
  refine Ev.step (fun k=>by rw [impl_BatchMove.j0]) ?_
  exact Ev.congr (fun k=>if_pos rfl) (Ev.now _)
 refine Ev.bind (i_rows l hl) ?_
 cases hok : rowsOk l with
 | false=>exact Ev.congr (fun k=>if_neg (by simp)) out
 | true =>
  obtain ⟨h1,g1⟩:=rowsOk_facts hok
  refine Ev.congr (fun k=>if_pos rfl) (Ev.bind (iFront_ev f hfl) ?_)
  cases hf : fOk f with
  | false=>exact out
  | true =>
   refine Ev.step (fun k=>by rw [impl_BatchMove.j0]) (Ev.congr (fun k=>if_neg (by simp)) ?_)
   refine Ev.bind (a:=l.map (mvB f)) ?_ (i_fit (l.map (mvB f)) (by simp;omega) fun x hx=>?_)
   ·unfold impl_advanced.f
    refine Ev.bind (Ev.now _) (Ev.congr (fun k=>if_pos (by simp;omega)) (Ev.bind (Ev.now _) ?_))
    simpa using i_advanced_loop f hfl hf l.length l 0 (by omega) hl (by simpa using g1)
   ·obtain ⟨y,hy,rfl⟩:=List.mem_map.1 hx
    exact rowOk_ok (mvB_rowOk hf (g1 y hy))

/-! drawn rows -/
def smallRow (r : Rw) : Prop:=rowOk r = true ∧ -3 ≤ r.f3 ∧ r.f3 ≤ 3
theorem rd_val (i : Int) (h0 : 0 ≤ i) (h1 : i < 9) : 0 ≤ rd [0,1,2,3,4,9,10,57,99] i ∧ rd [0,1,2,3,4,9,10,57,99] i ≤ 99:=by
 have c : i = 0 ∨ i = 1 ∨ i = 2 ∨ i = 3 ∨ i = 4 ∨ i = 5 ∨ i = 6 ∨ i = 7 ∨ i = 8:=by omega
 rcases c with rfl | rfl | rfl | rfl | rfl | rfl | rfl | rfl | rfl <;> decide
theorem rd_diff (i : Int) (h0 : 0 ≤ i) (h1 : i < 8) : -3 ≤ rd [1,1,1,2,-1,-1,3,0] i ∧ rd [1,1,1,2,-1,-1,3,0] i ≤ 3:=by
 have c : i = 0 ∨ i = 1 ∨ i = 2 ∨ i = 3 ∨ i = 4 ∨ i = 5 ∨ i = 6 ∨ i = 7:=by omega
 rcases c with rfl | rfl | rfl | rfl | rfl | rfl | rfl | rfl <;> decide
theorem row_p (l : List Int) (hl : ∀ x ∈ l,0 ≤ x ∧ x ≤ 255) (hn : l.length ≤ 2000) (p : Int) (hp : 0 ≤ p) (hp2 : p ≤ 700000000) :
  EvP (fun k=>spec_l71Row.f k l p) (fun r=>smallRow ⟨r.1,r.2.1,⟨r.2.2.1,r.2.2.2.1⟩,r.2.2.2.2.1⟩ ∧ p ≤ r.2.2.2.2.2 ∧ r.2.2.2.2.2 ≤ p + 6):=by
 unfold spec_l71Row.f
 refine EvP.bind (pick_p l hl hn p 4 hp (by omega) (by omega)) fun a ha=>EvP.let_ rfl (EvP.bind (pick_p l hl hn a.2 9 (by omega) (by omega) (by omega)) fun b hb=>EvP.pos hb.1 (EvP.pos (by simpa using hb.2.1) ?_))
 refine EvP.bind (time_p l hl hn b.2 (by omega) (by omega)) fun c hc=>EvP.let_ rfl (EvP.bind (pick_p l hl hn c.2.2 8 (by omega) (by omega) (by omega)) fun e he=>EvP.pos he.1 (EvP.pos (by simpa using he.2.1) (EvP.ret ?_)))
 have h1:=rd_val b.1 hb.1 hb.2.1
 have h2:=rd_diff e.1 he.1 he.2.1
 refine ⟨⟨?_,h2⟩,by simp only;omega,by simp only;omega⟩
 simp only [rowOk,okT,Bool.and_eq_true,decide_eq_true_eq]
 omega
theorem rdR_mem {l : List Rw} {i : Int} (h0 : 0 ≤ i) (h : i < (l.length : Int)) : rd_T38 l i ∈ l:=by
 obtain ⟨n,rfl⟩:=Int.eq_ofNat_of_zero_le h0
 have:=rdR_drop (xs:=l) (i:=n) (by omega)
 exact List.mem_of_mem_drop (this ▸ List.mem_cons_self)
theorem rows_loop (l : List Int) (hl : ∀ x ∈ l,0 ≤ x ∧ x ≤ 255) (hn : l.length ≤ 2000) (d : Nat) : ∀ (out : List Rw) (p : Int),d ≤ 1000 → 0 ≤ p → p + 9 * d ≤ 600000000 → (∀ x ∈ out,smallRow x) → out.length + d ≤ 1000 →
  EvP (fun k=>spec_l71Rows.l0 k out (d : Int) l p) (fun r=>r.1.length = out.length + d ∧ (∀ x ∈ r.1,smallRow x) ∧ p ≤ r.2 ∧ r.2 ≤ p + 9 * d):=by
 induction d with
 | zero =>
  intro out p _ _ _ ho _
  refine EvP.step (fun k=>by rw [spec_l71Rows.l0]) ?_
  exact (EvP.neg (by omega) (EvP.ret ⟨by simp,ho,by omega,by omega⟩))
 | succ d ih =>
  intro out p hd hp hp2 ho hlen
  have e : wrap64 (((d + 1 : Nat) : Int) - 1) = (d : Int):=by rw [w64 (by omega) (by omega)];omega
  have add : ∀ (x : Rw) (q : Int),smallRow x → p ≤ q → q ≤ p + 9 → EvP (fun k=>spec_l71Rows.l0 k (out ++ [x]) (d : Int) l q) (fun r=>r.1.length = out.length + (d + 1) ∧ (∀ x ∈ r.1,smallRow x) ∧ p ≤ r.2 ∧ r.2 ≤ p + 9 * ((d + 1 : Nat) : Int)):=fun x q hx h1 h2=>by
   refine (ih (out ++ [x]) q (by omega) (by omega) (by omega) (fun y hy=>?_) (by simp;omega)).mono fun r hr=>?_
   ·rcases List.mem_append.1 hy with hy | hy
    ·exact ho y hy
    ·rw [List.mem_singleton.1 hy]
     exact hx
   ·obtain ⟨g1,g2,g3,g4⟩:=hr
    exact ⟨by rw [g1];simp;omega,g2,by omega,by omega⟩
  refine EvP.step (fun k=>by rw [spec_l71Rows.l0]) (EvP.pos (by omega) (EvP.bind (row_p l hl hn p hp (by omega)) fun a ha=>?_))
  obtain ⟨x0,x1,x2,x3,x4,q⟩:=a
  obtain ⟨hx,hq1,hq2⟩:=ha
  simp only at hx hq1 hq2 ⊢
  have join : ∀ (b : Bool) (q2 : Int),(b = true → 0 < out.length) → q ≤ q2 → q2 ≤ q + 1 → EvP (fun k=>spec_l71Rows.j1 k out ((d + 1 : Nat) : Int) b l q2 x0 x1 x2 x3 x4) (fun r=>r.1.length = out.length + (d + 1) ∧ (∀ x ∈ r.1,smallRow x) ∧ p ≤ r.2 ∧ r.2 ≤ p + 9 * ((d + 1 : Nat) : Int)):=fun b q2 hb h1 h2=>by
   refine EvP.step (fun k=>by rw [spec_l71Rows.j1]) ?_
   rw [e]
   cases b with
   | false=>exact EvP.neg (by simp) (EvP.pos (by omega) (add _ q2 hx (by omega) (by omega)))
   | true =>
    have hpos:=hb rfl
    refine EvP.pos rfl (EvP.bind (pick_p l hl hn q2 (out.length : Int) (by omega) (by omega) (by omega)) fun c hc=>EvP.pos hc.1 (EvP.pos hc.2.1 ?_))
    have hy:=ho _ (rdR_mem hc.1 hc.2.1)
    generalize rd_T38 out c.1 = y at *
    have hy1:=hy.1
    have hx1:=hx.1
    simp only [rowOk,Bool.and_eq_true,decide_eq_true_eq] at hy1 hx1
    have b1:=hy.2
    have b2:=hx.2
    simp only at b2
    refine EvP.bind (pick_p l hl hn c.2 2 (by omega) (by omega) (by omega)) fun f hf=>EvP.ite (fun _=>EvP.pos (by omega) (add _ f.2 ?_ (by omega) (by omega))) (fun _=>EvP.pos (by omega) (add _ f.2 ?_ (by omega) (by omega)))
    ·have ew : wrap64 (-y.f3) = -y.f3:=w64 (by omega) (by omega)
     rw [ew]
     refine ⟨?_,by simp only;omega,by simp only;omega⟩
     simp only [rowOk,Bool.and_eq_true,decide_eq_true_eq]
     exact ⟨hy1.1,hy1.2.1,hx1.2.2.1,by omega⟩
    ·refine ⟨?_,by simp only;omega,by simp only;omega⟩
     simp only [rowOk,Bool.and_eq_true,decide_eq_true_eq]
     exact ⟨hy1.1,hy1.2.1,hx1.2.2.1,by omega⟩
  refine EvP.ite (fun h=>EvP.bind (pick_p l hl hn q 3 (by omega) (by omega) (by omega)) fun c hc=>join _ c.2 (fun _=>by omega) (by omega) (by omega)) (fun _=>join false q (fun h=>by simp at h) (by omega) (by omega))
theorem rows_p (l : List Int) (hl : ∀ x ∈ l,0 ≤ x ∧ x ≤ 255) (hn : l.length ≤ 2000) (p most : Int) (hp : 0 ≤ p) (hp2 : p ≤ 500000000) (hm : 0 ≤ most) (hm2 : most ≤ 100) :
  EvP (fun k=>spec_l71Rows.f k l p most) (fun r=>(r.1.length : Int) ≤ most ∧ (∀ x ∈ r.1,smallRow x) ∧ p ≤ r.2 ∧ r.2 ≤ p + 1 + 9 * most):=by
 unfold spec_l71Rows.f
 rw [w64 (by omega) (by omega)]
 refine EvP.bind (pick_p l hl hn p (most + 1) hp (by omega) (by omega)) fun a ha=>?_
 obtain ⟨v,q⟩:=a
 obtain ⟨n,rfl⟩:=Int.eq_ofNat_of_zero_le ha.1
 simp only at ha
 refine (rows_loop l hl hn n [] q (by omega) (by omega) (by omega) (fun x hx=>by simp at hx) (by simp;omega)).mono fun r hr=>?_
 obtain ⟨h1,h2,h3,h4⟩:=hr
 exact ⟨by rw [h1];simp;omega,h2,by omega,by omega⟩

theorem times_loop (l : List Int) (hl : ∀ x ∈ l,0 ≤ x ∧ x ≤ 255) (hn : l.length ≤ 2000) (d : Nat) : ∀ (out : List Tm) (p : Int),d ≤ 1000 → 0 ≤ p → p + 3 * d ≤ 800000000 → (∀ x ∈ out,okT x.f0 x.f1 = true) → out.length + d ≤ 1000000 →
  EvP (fun k=>spec_l71Times.l0 k out (d : Int) l p) (fun r=>r.1.length = out.length + d ∧ (∀ x ∈ r.1,okT x.f0 x.f1 = true) ∧ p ≤ r.2 ∧ r.2 ≤ p + 3 * d):=by
 induction d with
 | zero =>
  intro out p _ _ _ ho _
  refine EvP.step (fun k=>by rw [spec_l71Times.l0]) ?_
  exact (EvP.neg (by omega) (EvP.ret ⟨by simp,ho,by omega,by omega⟩))
 | succ d ih =>
  intro out p hd hp hp2 ho hlen
  refine EvP.step (fun k=>by rw [spec_l71Times.l0]) ?_
  refine EvP.pos (by omega) (EvP.bind (time_p l hl hn p hp (by omega)) fun a ha=>EvP.pos (by omega) ?_)
  have e : wrap64 (((d + 1 : Nat) : Int) - 1) = (d : Int):=by rw [w64 (by omega) (by omega)];omega
  rw [e]
  refine (ih _ a.2.2 (by omega) (by omega) (by omega) (fun x hx=>?_) (by simp;omega)).mono fun r hr=>?_
  ·rcases List.mem_append.1 hx with hx | hx
   ·exact ho x hx
   ·rw [List.mem_singleton.1 hx]
    exact decide_eq_true (by simp only;omega)
  ·obtain ⟨h1,h2,h3,h4⟩:=hr
   exact ⟨by rw [h1];simp;omega,h2,by omega,by omega⟩
theorem times_p (l : List Int) (hl : ∀ x ∈ l,0 ≤ x ∧ x ≤ 255) (hn : l.length ≤ 2000) (p most : Int) (hp : 0 ≤ p) (hp2 : p ≤ 700000000) (hm : 0 ≤ most) (hm2 : most ≤ 100) :
  EvP (fun k=>spec_l71Times.f k l p most) (fun r=>(r.1.length : Int) ≤ most ∧ (∀ x ∈ r.1,okT x.f0 x.f1 = true) ∧ p ≤ r.2 ∧ r.2 ≤ p + 1 + 3 * most):=by
 unfold spec_l71Times.f
 rw [w64 (by omega) (by omega)]
 refine EvP.bind (pick_p l hl hn p (most + 1) hp (by omega) (by omega)) fun a ha=>?_
 obtain ⟨v,q⟩:=a
 obtain ⟨n,rfl⟩:=Int.eq_ofNat_of_zero_le ha.1
 simp only at ha
 refine (times_loop l hl hn n [] q (by omega) (by omega) (by omega) (fun x hx=>by simp at hx) (by simp;omega)).mono fun r hr=>?_
 obtain ⟨h1,h2,h3,h4⟩:=hr
 exact ⟨by rw [h1];simp;omega,h2,by omega,by omega⟩
/-- what a drawn front is -/
def DrawnFront (f : List Tm) : Prop:=∃ ts : List Tm,ts.length ≤ 4 ∧ (∀ x ∈ ts,okT x.f0 x.f1 = true) ∧ (f = sFrontOf ts ∨ ∃ o : Tm,f = sFrontOf ts ++ [o])
theorem DrawnFront.len {f : List Tm} (h : DrawnFront f) : f.length ≤ 65:=by
 obtain ⟨ts,_,_,h | ⟨o,h⟩⟩:=h
 ·have:=sFrontOf_len ts;rw [h];omega
 ·have:=sFrontOf_len ts;rw [h];simp;omega
theorem some_p (l : List Int) (hl : ∀ x ∈ l,0 ≤ x ∧ x ≤ 255) (hn : l.length ≤ 2000) (p : Int) (hp : 0 ≤ p) (hp2 : p ≤ 600000000) :
  EvP (fun k=>spec_l71Some.f k l p) (fun r=>DrawnFront r.1 ∧ p ≤ r.2 ∧ r.2 ≤ p + 30):=by
 unfold spec_l71Some.f spec_l71Front.f
 refine EvP.bind (P:=fun r=>(∃ ts : List Tm,ts.length ≤ 4 ∧ (∀ x ∈ ts,okT x.f0 x.f1 = true) ∧ r.1 = sFrontOf ts) ∧ p ≤ r.2 ∧ r.2 ≤ p + 20) ?_ fun a ha=>?_
 ·refine EvP.bind (times_p l hl hn p 4 hp (by omega) (by omega) (by omega)) fun a ha=>?_
  refine EvP.bind (EvP.of_ev (s_frontof a.1 (by omega)) rfl) fun b hb=>EvP.ret ?_
  subst hb
  exact ⟨⟨a.1,by omega,ha.2.1,rfl⟩,by simp only;omega,by simp only;omega⟩
 ·obtain ⟨⟨ts,h1,h2,h3⟩,h4,h5⟩:=ha
  refine EvP.bind (pick_p l hl hn a.2 12 (by omega) (by omega) (by omega)) fun b hb=>EvP.ite (fun _=>?_) (fun _=>EvP.ret ⟨⟨ts,h1,h2,.inl h3⟩,by simp only;omega,by simp only;omega⟩)
  refine EvP.bind (odd_p l hl hn b.2 (by omega) (by omega)) fun c hc=>EvP.pos (by have:=sFrontOf_len ts;rw [h3];omega) (EvP.ret ?_)
  exact ⟨⟨ts,h1,h2,.inr ⟨_,by rw [h3]⟩⟩,by simp only;omega,by simp only;omega⟩

/-! drawn rows,some spoilt -/
theorem rd_two (u v i : Int) (h0 : 0 ≤ i) (h1 : i < 2) : rd [u,v] i = u ∨ rd [u,v] i = v:=by
 have c : i = 0 ∨ i = 1:=by omega
 rcases c with rfl | rfl
 ·exact .inl rfl
 ·exact .inr rfl
theorem not_rowsOk {l : List Rw} {x : Rw} (h : rowOk x = false) : rowsOk (l ++ [x]) = false:=by
 unfold rowsOk
 rw [List.all_append]
 simp [h]
theorem spoil_p (l : List Int) (hl : ∀ x ∈ l,0 ≤ x ∧ x ≤ 255) (hn : l.length ≤ 2000) (p : Int) (hp : 0 ≤ p) (hp2 : p ≤ 600000000) (s : List Rw) (hs : s.length ≤ 1000) :
  EvP (fun k=>spec_l71Spoil.f k l p s) (fun r=>r.1.length = s.length + 1 ∧ rowsOk r.1 = false ∧ p ≤ r.2 ∧ r.2 ≤ p + 8):=by
 unfold spec_l71Spoil.f
 refine EvP.bind (row_p l hl hn p hp (by omega)) fun a ha=>EvP.bind (pick_p l hl hn a.2.2.2.2.2 5 (by omega) (by omega) (by omega)) fun b hb=>?_
 obtain ⟨x0,x1,x2,x3,x4,q⟩:=a
 obtain ⟨_,hq1,hq2⟩:=ha
 simp only at hq1 hq2 hb ⊢
 have fin : ∀ (x : Rw) (q2 : Int),rowOk x = false → p ≤ q2 → q2 ≤ p + 8 → EvP (fun _ : Nat=>(some ([] : List Rw)).bind fun y=>if y.length + s.length < 3518437208883 then (some (y ++ s)).bind fun y2=>(some [x]).bind fun y3=>if y2.length + y3.length < 3518437208883 then some (y2 ++ y3,q2) else none else none)
   (fun r=>r.1.length = s.length + 1 ∧ rowsOk r.1 = false ∧ p ≤ r.2 ∧ r.2 ≤ p + 8):=fun x q2 hx h1 h2 =>
  EvP.let_ rfl (EvP.pos (by simp;omega) (EvP.let_ rfl (EvP.let_ rfl (EvP.pos (by simp;omega) (EvP.ret ⟨by simp,not_rowsOk hx,h1,h2⟩)))))
 refine EvP.ite (fun _=>?_) (fun _=>EvP.ite (fun _=>?_) (fun _=>EvP.ite (fun _=>?_) (fun _=>EvP.ite (fun _=>?_) (fun _=>?_))))
 ·refine EvP.let_ rfl (EvP.bind (pick_p l hl hn b.2 2 (by omega) (by omega) (by omega)) fun c hc=>EvP.pos hc.1 (EvP.pos (by simpa using hc.2.1) (fin ⟨rd [-1,4] c.1,x1,⟨x2,x3⟩,x4⟩ c.2 ?_ (by omega) (by omega))))
  rcases rd_two (-1) 4 c.1 hc.1 hc.2.1 with e | e <;> simp [rowOk,e]
 ·refine EvP.let_ rfl (EvP.bind (pick_p l hl hn b.2 2 (by omega) (by omega) (by omega)) fun c hc=>EvP.pos hc.1 (EvP.pos (by simpa using hc.2.1) (fin ⟨x0,rd [-1,100] c.1,⟨x2,x3⟩,x4⟩ c.2 ?_ (by omega) (by omega))))
  rcases rd_two (-1) 100 c.1 hc.1 hc.2.1 with e | e <;> simp [rowOk,e]
 ·exact fin ⟨x0,x1,⟨-1,0⟩,x4⟩ b.2 (by simp [rowOk,okT]) (by omega) (by omega)
 ·refine EvP.let_ rfl (EvP.bind (pick_p l hl hn b.2 2 (by omega) (by omega) (by omega)) fun c hc=>EvP.pos hc.1 (EvP.pos (by simpa using hc.2.1) (fin ⟨x0,x1,⟨x2,x3⟩,rd [-100000,100000] c.1⟩ c.2 ?_ (by omega) (by omega))))
  rcases rd_two (-100000) 100000 c.1 hc.1 hc.2.1 with e | e <;> simp [rowOk,e]
 ·exact fin ⟨x0,x1,⟨x2,8⟩,x4⟩ b.2 (by simp [rowOk,okT]) (by omega) (by omega)
theorem any_p (l : List Int) (hl : ∀ x ∈ l,0 ≤ x ∧ x ≤ 255) (hn : l.length ≤ 2000) (p : Int) (hp : 0 ≤ p) (hp2 : p ≤ 400000000) :
  EvP (fun k=>spec_l71Any.f k l p) (fun r=>r.1.length ≤ 11 ∧ ((∀ x ∈ r.1,smallRow x) ∨ rowsOk r.1 = false) ∧ p ≤ r.2 ∧ r.2 ≤ p + 110):=by
 unfold spec_l71Any.f
 refine EvP.bind (rows_p l hl hn p 10 hp (by omega) (by omega) (by omega)) fun a ha=>EvP.bind (pick_p l hl hn a.2 14 (by omega) (by omega) (by omega)) fun b hb=>EvP.ite (fun _=>?_) (fun _=>EvP.ret ⟨by simp only;omega,.inl ha.2.1,by simp only;omega,by simp only;omega⟩)
 exact EvP.bind (spoil_p l hl hn b.2 (by omega) (by omega) a.1 (by omega)) fun c hc=>EvP.ret ⟨by simp only;omega,.inr hc.2.1,by simp only;omega,by simp only;omega⟩
theorem lwRows_loop (l : List Rw) (hl : l.length ≤ 1048576) (d : Nat) : ∀ i : Nat,i + d = l.length → Ev (fun k=>laws_lwRows.l0 k l l (i : Int)) true:=by
 induction d with
 | zero =>
  intro i hi
  refine Ev.step (fun k=>by rw [laws_lwRows.l0]) ?_
  exact (Ev.congr (fun k=>if_neg (by omega)) (Ev.now _))
 | succ d ih =>
  intro i hi
  refine Ev.step (fun k=>by rw [laws_lwRows.l0]) (Ev.congr (fun k=>(if_pos (by omega)).trans ((if_pos (by omega)).trans ((if_pos (by omega)).trans (if_neg (by simp))))) ?_)
  rw [up1 (by omega : i < l.length) (by omega)]
  exact ih (i + 1) (by omega)
theorem lwRows_ev (l : List Rw) (hl : l.length ≤ 1048576) : Ev (fun k=>laws_lwRows.f k l l) true:=by
 unfold laws_lwRows.f
 exact Ev.congr (fun k=>if_pos rfl) (lwRows_loop l hl l.length 0 (by omega))

/-! batches,plainly -/
theorem rowOk_in64 {x : Rw} (h : rowOk x = true) : In64 x.f3:=(okR_iff.1 (rowOk_ok h)).2.2.2.2
theorem bOk1_of {p : Rw} {l : List Rw} (h0 : ∀ x ∈ l,x.f3 ≠ 0) (h : Sorted (p :: l)) : bOk1 p l = true:=by
 induction l generalizing p with
 | nil=>rfl
 | cons y r ih =>
  have h2:=List.pairwise_cons.1 h
  simp only [bOk1,Bool.and_eq_true,decide_eq_true_eq]
  exact ⟨⟨by simpa using h0 y List.mem_cons_self,h2.1 y List.mem_cons_self⟩,ih (fun x hx=>h0 x (List.mem_cons_of_mem _ hx)) h2.2⟩
theorem bOk_of {l : List Rw} (h0 : ∀ x ∈ l,x.f3 ≠ 0) (h : Sorted l) : bOk l = true:=by
 cases l with
 | nil=>rfl
 | cons x r =>
  simp only [bOk,Bool.and_eq_true]
  exact ⟨by simpa using h0 x List.mem_cons_self,bOk1_of (fun y hy=>h0 y (List.mem_cons_of_mem _ hy)) h⟩
theorem lwItems_loop (l : List It) (hl : l.length ≤ 1048576) (d : Nat) : ∀ i : Nat,i + d = l.length → Ev (fun k=>laws_lwItems.l0 k l l (i : Int)) true:=by
 induction d with
 | zero =>
  intro i hi
  refine Ev.step (fun k=>by rw [laws_lwItems.l0]) ?_
  exact (Ev.congr (fun k=>if_neg (by omega)) (Ev.now _))
 | succ d ih =>
  intro i hi
  refine Ev.step (fun k=>by rw [laws_lwItems.l0]) (Ev.congr (fun k=>(if_pos (by omega)).trans ((if_pos (by omega)).trans ((if_pos (by omega)).trans (if_neg (by simp))))) ?_)
  rw [up1 (by omega : i < l.length) (by omega)]
  exact ih (i + 1) (by omega)
theorem lwItems_ev (l : List It) (hl : l.length ≤ 1048576) : Ev (fun k=>laws_lwItems.f k l l) true:=by
 unfold laws_lwItems.f
 exact Ev.congr (fun k=>if_pos rfl) (lwItems_loop l hl l.length 0 (by omega))

/-! rows that say the same of each key say the same at all times -/
def pAt (k : Int × Int × Int × Int) (a b : Int) (z : Int × Int × Int × Int) : Bool:=leT z.2.2.1 z.2.2.2 a b && decide ((z.1,z.2.1,(0 : Int),(0 : Int)) = k)
theorem ksum_rowsAt (k : Int × Int × Int × Int) (a b : Int) (l : List Rw) : ksum k ((rowsAt l a b).map rwI) = wsum (pAt k a b) l:=by
 induction l with
 | nil=>rfl
 | cons x r ih =>
  unfold ksum at ih ⊢
  simp only [wsum]
  cases h : leT x.f2.f0 x.f2.f1 a b with
  | false =>
   have e : pAt k a b (rkey x) = false:=by simp only [pAt,rkey,h,Bool.false_and]
   rw [show rowsAt (x :: r) a b = rowsAt r a b by simp [rowsAt,h],e,ih]
   simp
  | true =>
   have e : pAt k a b (rkey x) = decide (rkey (rwI (itR x)) = k):=by simp only [pAt,rkey,h,Bool.true_and];rfl
   rw [show rowsAt (x :: r) a b = itR x :: rowsAt r a b by simp [rowsAt,h],List.map_cons,e]
   simp only [wsum]
   rw [ih]
   rfl
theorem rowsAt_in64 {l : List Rw} (h : ∀ x ∈ l,In64 x.f3) (a b : Int) : ∀ x ∈ (rowsAt l a b).map rwI,In64 x.f3:=by
 intro x hx
 obtain ⟨i,hi,rfl⟩:=List.mem_map.1 hx
 unfold rowsAt at hi
 obtain ⟨r,hr,rfl⟩:=List.mem_map.1 hi
 exact h r (List.mem_filter.1 hr).1
theorem items_same {l m : List Rw} (hl : ∀ x ∈ l,In64 x.f3) (hm : ∀ x ∈ m,In64 x.f3) (a b : Int) (h : ∀ k,mcong (wsum (pAt k a b) l) (wsum (pAt k a b) m)) : itemsOf (rowsAt l a b) = itemsOf (rowsAt m a b):=by
 unfold itemsOf
 rw [consol_congr (rowsAt_in64 hl a b) (rowsAt_in64 hm a b) fun k=>by rw [ksum_rowsAt,ksum_rowsAt];exact h k]
/-! sums of small rows -/
theorem wsum_small (p : Int × Int × Int × Int → Bool) {l : List Rw} (h : ∀ x ∈ l,smallRow x) : -(3 * (l.length : Int)) ≤ wsum p l ∧ wsum p l ≤ 3 * (l.length : Int):=by
 induction l with
 | nil=>simp [wsum]
 | cons x r ih =>
  have h1:=(h x List.mem_cons_self).2
  have h2:=ih fun y hy=>h y (List.mem_cons_of_mem _ hy)
  simp only [wsum,List.length_cons]
  split <;> omega
theorem small_in64 {x : Rw} (h : smallRow x) : In64 x.f3:=rowOk_in64 h.1
theorem consol_small {l : List Rw} (h : ∀ x ∈ l,smallRow x) (hl : l.length ≤ 400) : ∀ y ∈ consol l,rowOk y = true:=by
 intro y hy
 obtain ⟨x,hx,e⟩:=consol_keys l y hy
 have e1:=ksum_mem (consol_sorted l) hy
 have c1:=wsum_consol (fun z=>decide (z = rkey y)) l
 have b:=wsum_small (fun z=>decide (z = rkey y)) h
 unfold ksum at e1
 rw [e1] at c1
 have e2:=mcong_eq c1 (consol_in64 (fun z hz=>small_in64 (h z hz)) y hy) (by omega)
 have hx2:=(h x hx).1
 simp only [rkey,Prod.mk.injEq] at e
 simp only [rowOk,Bool.and_eq_true,decide_eq_true_eq] at hx2 ⊢
 rw [e.1,e.2.1,e.2.2.1,e.2.2.2]
 exact ⟨hx2.1,hx2.2.1,hx2.2.2.1,by omega⟩
theorem consol_batchOk {l : List Rw} (h : ∀ x ∈ l,smallRow x) (hl : l.length ≤ 400) : batchOk (consol l) = true:=by
 have hc:=consol_len l
 unfold batchOk rowsOk
 simp only [Bool.and_eq_true,decide_eq_true_eq]
 exact ⟨⟨by omega,List.all_eq_true.2 (consol_small h hl)⟩,bOk_of (consol_ne l) (consol_sorted l)⟩
theorem fitB_small {l : List Rw} (h : ∀ x ∈ l,smallRow x) (hl : l.length ≤ 400) : fitB l = consol l:=by
 unfold fitB
 rw [consol_batchOk h hl]
 rfl


/-! lwSame with a front -/
theorem sameF_loop (x y : List Rw) (f : List Tm) (hx : x.length ≤ 1048576) (hy : y.length ≤ 1048576) (hf : f.length ≤ 1048576) (h : ∀ a b,okT a b = true → (f = [] ∨ coT f a b = true) → batchAt x a b = batchAt y a b) (d : Nat) : ∀ i : Nat,i + d = allT.length →
  Ev (fun k=>laws_lwSame.l0 k x y f allT (i : Int)) true:=by
 induction d with
 | zero =>
  intro i hi
  refine Ev.step (fun k=>by rw [laws_lwSame.l0]) ?_
  exact (Ev.congr (fun k=>if_neg (by omega)) (Ev.now _))
 | succ d ih =>
  intro i hi
  have h64:=allT_len
  have hm : rd_T36 allT (i : Int) ∈ allT:=by
   have:=rdT_drop (xs:=allT) (i:=i) (by omega)
   exact List.mem_of_mem_drop (this ▸ List.mem_cons_self)
  have nx:=ih (i + 1) (by omega)
  refine Ev.step (fun k=>by rw [laws_lwSame.l0]) (Ev.congr (fun k=>if_pos (by omega)) ?_)
  have hk:=allT_ok _ hm
  have go : (f = [] ∨ coT f (rd_T36 allT (i : Int)).f0 (rd_T36 allT (i : Int)).f1 = true) → Ev (fun k=>laws_lwSame.j1 k x y f allT (i : Int) false) true:=fun hc=>by
   refine Ev.step (fun k=>by rw [laws_lwSame.j1]) (Ev.congr (fun k=>(if_neg (by simp)).trans ((if_pos (by omega)).trans (if_pos (by omega)))) ?_)
   rw [up1 (by omega : i < allT.length) (by omega)]
   generalize rd_T36 allT (i : Int) = t at *
   have e:=h t.f0 t.f1 (by unfold okT;exact decide_eq_true (by omega)) hc
   have hl:=batchAt_len y t.f0 t.f1
   have e1:=i_batchAt x t.f0 t.f1 hx
   rw [e] at e1
   exact Ev.bind e1 (Ev.bind (i_batchAt y t.f0 t.f1 hy) (Ev.bind (lwItems_ev _ (by omega)) (Ev.congr (fun k=>if_pos rfl) nx)))
  by_cases hf0 : (f.length : Int) > 0
  ·refine Ev.congr (fun k=>(if_pos hf0).trans (if_pos (by omega))) (Ev.bind (s_covers f _ _ hf) ?_)
   cases hc : coT f (rd_T36 allT (i : Int)).f0 (rd_T36 allT (i : Int)).f1 with
   | true=>exact go (.inr hc)
   | false =>
    have e : Ev (fun k=>laws_lwSame.j1 k x y f allT (i : Int) true) true:=by
     refine Ev.step (fun k=>by rw [laws_lwSame.j1]) (Ev.congr (fun k=>if_pos rfl) ?_)
     rw [up1 (by omega : i < allT.length) (by omega)]
     exact nx
    exact e
  ·have : f = []:=List.length_eq_zero_iff.1 (by omega)
   exact Ev.congr (fun k=>if_neg hf0) (go (.inl this))
theorem lwSameF_ev (x y : List Rw) (f : List Tm) (hx : x.length ≤ 1048576) (hy : y.length ≤ 1048576) (hf : f.length ≤ 1048576) (h : ∀ a b,okT a b = true → (f = [] ∨ coT f a b = true) → batchAt x a b = batchAt y a b) : Ev (fun k=>laws_lwSame.f k x y f) true:=by
 unfold laws_lwSame.f
 exact Ev.bind lwAll_ev (sameF_loop x y f hx hy hf h allT.length 0 (by omega))
theorem leT_mv {f : List Tm} (hf : fOk f = true) {c e a b : Int} (hs : okT c e = true) (ht : okT a b = true) (h : f = [] ∨ coT f a b = true) : leT (mvR f c e).1 (mvR f c e).2 a b = leT c e a b:=by
 have hm:=mvR_ok (fOk_ok hf) hs
 rw [leT_ok hm ht,leT_ok hs ht,decide_eq_decide]
 have lo:=mvR_low c e f
 constructor
 ·intro k;omega
 ·intro k
  rcases h with rfl | h
  ·exact k
  ·obtain ⟨x,hx,h0,h1⟩:=coT_true h
   have hne : f ≠ []:=fun h=>by rw [h] at hx;simp at hx
   have:=(mvR_facts c e hne).1 x hx
   omega

theorem drawmove_p (l : List Int) (hl : ∀ x ∈ l,0 ≤ x ∧ x ≤ 255) : EvP (fun k=>spec_DrawBatchMove.f k l) (fun r=>r.1.length ≤ 11 ∧ ((∀ x ∈ r.1,smallRow x) ∨ rowsOk r.1 = false) ∧ r.2.length ≤ 65):=by
 obtain ⟨l',ho,hl',hn⟩:=open_p l hl
 unfold spec_DrawBatchMove.f
 exact EvP.let_ ho (EvP.bind (any_p l' hl' hn 0 (by omega) (by omega)) fun a ha=>EvP.bind (some_p l' hl' hn a.2 (by omega) (by omega)) fun b hb=>EvP.ret ⟨ha.1,ha.2.1,hb.1.len⟩)
/-! moved rows -/
def mvK (f : List Tm) (z : Int × Int × Int × Int) : Int × Int × Int × Int:=(z.1,z.2.1,(mvR f z.2.2.1 z.2.2.2).1,(mvR f z.2.2.1 z.2.2.2).2)
theorem wsum_map (p : Int × Int × Int × Int → Bool) (f : List Tm) (l : List Rw) : wsum p (l.map (mvB f)) = wsum (fun z=>p (mvK f z)) l:=by
 induction l with
 | nil=>rfl
 | cons x r ih =>
  rw [List.map_cons]
  simp only [wsum]
  rw [ih]
  rfl
theorem small_map {f : List Tm} (hf : fOk f = true) {l : List Rw} (h : ∀ x ∈ l,smallRow x) : ∀ x ∈ l.map (mvB f),smallRow x:=by
 intro x hx
 obtain ⟨y,hy,rfl⟩:=List.mem_map.1 hx
 exact ⟨mvB_rowOk hf (h y hy).1,(h y hy).2⟩
theorem batchMove_small {l : List Rw} {f : List Tm} (h : ∀ x ∈ l,smallRow x) (hl : l.length ≤ 400) (hf : fOk f = true) : batchMove l f = consol (l.map (mvB f)):=by
 have hr : rowsOk l = true:=by
  unfold rowsOk
  simp only [Bool.and_eq_true,decide_eq_true_eq]
  exact ⟨hl,List.all_eq_true.2 fun x hx=>(h x hx).1⟩
 unfold batchMove
 rw [hr,hf,fitB_small (small_map hf h) (by simpa using hl)]
 rfl
theorem batchOk_rows {l : List Rw} (h : batchOk l = true) : rowsOk l = true:=by
 unfold batchOk at h
 simp only [Bool.and_eq_true] at h
 exact h.1

theorem FnBatchMove : laws_FnBatchMove.Pure:=by
 intro l _ _ hb
 have hl : ∀ x ∈ l,0 ≤ x ∧ x ≤ 255:=fun x hx=>byte_wf (hb x hx)
 refine EvP.rounds ?_
 unfold laws_FnBatchMove.f
 refine EvP.ite (fun _=>EvP.ret rfl) fun _=>EvP.bind (drawmove_p l hl) fun d hd=>?_
 obtain ⟨a,f⟩:=d
 obtain ⟨h1,h2,h3⟩:=hd
 simp only at h1 h2 h3 ⊢
 have hlen:=batchMove_len a f
 have ei:=i_batchmove a f (by omega) (by omega)
 have es:=s_batchmove a f (by omega) (by omega)
 refine EvP.bind (EvP.of_ev ei rfl) fun x hx=>?_
 subst hx
 refine EvP.bind (EvP.of_ev es rfl) fun x hx=>?_
 subst hx
 refine EvP.bind (EvP.of_ev (lwRows_ev _ (by omega)) rfl) fun t ht=>?_
 subst ht
 have out : EvP (fun k=>laws_FnBatchMove.j0 k a f (batchMove a f) true) (· = true):=by
  refine EvP.step (fun k=>by rw [laws_FnBatchMove.j0]) (EvP.pos rfl (EvP.bind (EvP.of_ev es rfl) fun x hx=>?_))
  subst hx
  exact EvP.bind (EvP.of_ev (lwRows_ev _ (by omega)) rfl) fun t ht=>EvP.ret ht.symm
 refine EvP.pos rfl (EvP.bind (EvP.of_ev (s_rows a (by omega)) rfl) fun t ht=>?_)
 subst ht
 cases hok : rowsOk a with
 | false=>exact EvP.neg (by simp) out
 | true =>
  refine EvP.pos rfl (EvP.bind (EvP.of_ev (sFront_ev f (by omega)) rfl) fun t ht=>?_)
  subst ht
  cases hf : fOk f with
  | false=>exact out
  | true =>
   have hsm : ∀ x ∈ a,smallRow x:=by
    rcases h2 with h | h
    ·exact h
    ·rw [hok] at h
     exact absurd h (by simp)
   have eb:=batchMove_small hsm (by omega) hf
   have hbo : batchOk (batchMove a f) = true:=by
    rw [eb]
    exact consol_batchOk (small_map hf hsm) (by simp;omega)
   refine EvP.step (fun k=>by rw [laws_FnBatchMove.j0]) (EvP.neg (by simp) (EvP.bind (EvP.of_ev (i_batch (batchMove a f) (by omega)) rfl) fun t ht=>?_))
   subst ht
   refine EvP.pos hbo ?_
   refine EvP.bind (EvP.of_ev (lwSameF_ev a (batchMove a f) f (by omega) (by omega) (by omega) fun u v huv hc=>?_) rfl) fun t ht=>EvP.ret ht.symm
   have hrb:=batchOk_rows hbo
   unfold batchAt
   rw [hok,hrb,huv]
   simp only [Bool.and_self,if_true]
   rw [eb]
   refine items_same (fun x hx=>small_in64 (hsm x hx)) (consol_in64 fun x hx=>small_in64 (small_map hf hsm x hx)) u v fun k=>?_
   have e2 : wsum (pAt k u v) (a.map (mvB f)) = wsum (pAt k u v) a:=by
    rw [wsum_map]
    clear eb hbo hrb out ei es hlen h1 h2 hok
    induction a with
    | nil=>rfl
    | cons x r ih =>
     have hx:=hsm x List.mem_cons_self
     have e:=leT_mv hf (rowOk_tm hx.1) huv hc
     simp only [wsum]
     rw [ih fun y hy=>hsm y (List.mem_cons_of_mem _ hy)]
     have e3 : pAt k u v (mvK f (rkey x)) = pAt k u v (rkey x):=by
      simp only [pAt,mvK,rkey]
      rw [e]
      rfl
     show (if pAt k u v (mvK f (rkey x)) = true then x.f3 else 0) + wsum (pAt k u v) r = _
     rw [e3]
   rw [← e2]
   exact (wsum_consol _ _).symm
end Go.Proofs.Ytjlkffmdmifahaa.Pure
