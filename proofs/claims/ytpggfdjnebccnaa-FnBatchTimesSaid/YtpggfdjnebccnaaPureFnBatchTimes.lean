/- The pure part of FnBatchTimes. -/
import Derived.Test.YtpggfdjnebccnaaVFnBatchTimesx
namespace Go.Proofs.Ytpggfdjnebccnaa.Pure
open Go.RowKit Go.Proofs.Ytpggfdjnebccnaa.PFnBatchTimes Go.Proofs.YtpggfdjnebccnaaW.PrintWords Go.Proofs.YtpggfdjnebccnaaW.PrintLast Go.Proofs.YtpggfdjnebccnaaW.PrintMore Go.Proofs.Ytpggfdjnebccnaa.EvP
set_option linter.unusedVariables false
/-! the reader -/
theorem pick_p (l : List Int) (hl : ∀ x ∈ l,0 ≤ x ∧ x ≤ 255) (hn : l.length ≤ 2000) (p n : Int) (hp : 0 ≤ p) (hp2 : p ≤ 1000000000) (h1 : 1 ≤ n) :
  EvP (fun k=>spec_l6Rd_pick.f k l p n) (fun r=>0 ≤ r.1 ∧ r.1 < n ∧ r.2 = p + 1):=by
 have e1 : wrap64 (p + 1) = p + 1:=w64 (by omega) (by omega)
 have e2 : wrap64 (p + 1 - 1) = p:=by rw [Int.add_sub_cancel];exact w64 (by omega) (by omega)
 have key : ∃ v,0 ≤ v ∧ v < n ∧ spec_l6Rd_pick.f 1 l p n = some (v,p + 1):=by
  unfold spec_l6Rd_pick.f
  rw [if_neg (by omega)]
  simp only [spec_l6Rd_pick.j0,e1,e2]
  by_cases h0 : (l.length : Int) = 0
  ·refine ⟨0,by omega,by omega,?_⟩
   rw [if_pos (by simp [h0])]
  ·rw [if_neg (by simpa using h0)]
   by_cases h3 : p < (l.length : Int)
   ·have hb:=rd_byte hl p
    rw [if_pos h3,if_pos hp,if_neg (by omega),w64 (by omega) (by omega)]
    exact ⟨_,Int.tmod_nonneg _ hb.1,Int.tmod_lt_of_pos _ (by omega),rfl⟩
   ·rw [if_neg h3,if_neg h0,if_pos (Int.tmod_nonneg _ hp),if_pos (Int.tmod_lt_of_pos _ (by omega))]
    have e7 : wrap64 (p * 7) = p * 7:=w64 (by omega) (by omega)
    have e73 : wrap64 (p * 7 + 3) = p * 7 + 3:=w64 (by omega) (by omega)
    rw [e7,e73,if_pos (Int.tmod_nonneg _ (by omega)),if_pos (Int.tmod_lt_of_pos _ (by omega)),if_neg (by omega)]
    have b1:=rd_byte hl (Int.tmod p (l.length : Int))
    have b2:=rd_byte hl (Int.tmod (p * 7 + 3) (l.length : Int))
    have hd0 : 0 ≤ Int.tdiv p (l.length : Int):=Int.tdiv_nonneg hp (by omega)
    have hd1 : Int.tdiv p (l.length : Int) ≤ p:=by
     rw [Int.tdiv_eq_ediv_of_nonneg hp]
     exact Int.ediv_le_self _ hp
    generalize rd l (Int.tmod p (l.length : Int)) = u at *
    generalize rd l (Int.tmod (p * 7 + 3) (l.length : Int)) = v at *
    generalize Int.tdiv p (l.length : Int) = q at *
    have x1 : wrap64 u = u:=w64 (by omega) (by omega)
    have x2 : wrap64 v = v:=w64 (by omega) (by omega)
    have x3 : wrap64 q = q:=w64 (by omega) (by omega)
    have x4 : wrap64 (u * 131) = u * 131:=w64 (by omega) (by omega)
    have x5 : wrap64 (v * 1117) = v * 1117:=w64 (by omega) (by omega)
    have x6 : wrap64 (p * 29) = p * 29:=w64 (by omega) (by omega)
    have x7 : wrap64 (q * 53) = q * 53:=w64 (by omega) (by omega)
    have x8 : wrap64 (u * 131 + v * 1117) = u * 131 + v * 1117:=w64 (by omega) (by omega)
    have x9 : wrap64 (u * 131 + v * 1117 + p * 29) = u * 131 + v * 1117 + p * 29:=w64 (by omega) (by omega)
    have x10 : wrap64 (u * 131 + v * 1117 + p * 29 + q * 53) = u * 131 + v * 1117 + p * 29 + q * 53:=w64 (by omega) (by omega)
    rw [x1,x2,x3,x4,x5,x6,x7,x8,x9,x10]
    have hz0 : 0 ≤ u * 131 + v * 1117 + p * 29 + q * 53:=by omega
    have hz1 : u * 131 + v * 1117 + p * 29 + q * 53 < 1000000000000:=by omega
    generalize u * 131 + v * 1117 + p * 29 + q * 53 = z at *
    have y0 : 0 ≤ Int.tdiv z 64:=Int.tdiv_nonneg hz0 (by omega)
    have y1 : Int.tdiv z 64 ≤ z:=by
     rw [Int.tdiv_eq_ediv_of_nonneg hz0]
     exact Int.ediv_le_self _ hz0
    have x11 : wrap64 (Int.tdiv z 64) = Int.tdiv z 64:=w64 (by omega) (by omega)
    rw [x11]
    exact ⟨_,Int.tmod_nonneg _ (xor_nonneg _ _ hz0 (by omega) y0 (by omega)),Int.tmod_lt_of_pos _ (by omega),rfl⟩
 obtain ⟨v,h0,hv,hk⟩:=key
 exact EvP.mono_of (spec_l6Rd_pick.mono l p n) hk ⟨h0,hv,rfl⟩

theorem open_p (l : List Int) (hl : ∀ x ∈ l,0 ≤ x ∧ x ≤ 255) : ∃ l',spec_l6Open.f l = some (l',0) ∧ (∀ x ∈ l',0 ≤ x ∧ x ≤ 255) ∧ l'.length ≤ 2000:=by
 unfold spec_l6Open.f
 by_cases h : (l.length : Int) > 2000
 ·rw [if_pos h,if_pos (by omega)]
  exact ⟨_,rfl,fun x hx=>hl x (List.mem_of_mem_take hx),by rw [List.length_take];omega⟩
 ·rw [if_neg h]
  exact ⟨_,rfl,hl,by omega⟩

theorem time_p (l : List Int) (hl : ∀ x ∈ l,0 ≤ x ∧ x ≤ 255) (hn : l.length ≤ 2000) (p : Int) (hp : 0 ≤ p) (hp2 : p ≤ 900000000) :
  EvP (fun k=>spec_l71Time.f k l p) (fun r=>0 ≤ r.1 ∧ r.1 ≤ 7 ∧ 0 ≤ r.2.1 ∧ r.2.1 ≤ 7 ∧ p ≤ r.2.2 ∧ r.2.2 ≤ p + 3):=by
 unfold spec_l71Time.f
 refine EvP.bind (pick_p l hl hn p 10 hp (by omega) (by omega)) fun a ha=>EvP.ite (fun _=>?_) (fun _=>?_)
 all_goals
  refine EvP.bind (pick_p l hl hn a.2 _ (by omega) (by omega) (by omega)) fun b hb=>EvP.bind (pick_p l hl hn b.2 _ (by omega) (by omega) (by omega)) fun c hc=>EvP.ret ?_
  simp only
  omega

/-! what the functions on times say -/
def okT (a b : Int) : Bool:=decide (0 ≤ a ∧ a ≤ 7 ∧ 0 ≤ b ∧ b ≤ 7)
def leT (a b c d : Int) : Bool:=okT a b && okT c d && decide (a ≤ c ∧ b ≤ d)
theorem okT_true {a b : Int} (h : okT a b = true) : 0 ≤ a ∧ a ≤ 7 ∧ 0 ≤ b ∧ b ≤ 7:=of_decide_eq_true h
theorem leT_true {a b c d : Int} (h : leT a b c d = true) : (0 ≤ a ∧ a ≤ 7 ∧ 0 ≤ b ∧ b ≤ 7) ∧ (0 ≤ c ∧ c ≤ 7 ∧ 0 ≤ d ∧ d ≤ 7) ∧ a ≤ c ∧ b ≤ d:=by simpa [leT,okT,and_assoc] using h
theorem leT_mk {a b c d : Int} (h : (0 ≤ a ∧ a ≤ 7 ∧ 0 ≤ b ∧ b ≤ 7) ∧ (0 ≤ c ∧ c ≤ 7 ∧ 0 ≤ d ∧ d ≤ 7) ∧ a ≤ c ∧ b ≤ d) : leT a b c d = true:=by simpa [leT,okT,and_assoc] using h

theorem s_ok (a b : Int) : spec_TimeOk.f a b = some (okT a b):=by
 unfold spec_TimeOk.f spec_l6In.f okT
 by_cases h0 : 0 ≤ a <;> by_cases h1 : a ≤ 7 <;> by_cases h2 : 0 ≤ b <;> by_cases h3 : b ≤ 7 <;> simp [h0,h1,h2,h3]

theorem i_ok (a b : Int) : impl_TimeOk.f a b = some (okT a b):=by
 unfold impl_TimeOk.f okT
 by_cases h0 : 0 ≤ a <;> by_cases h1 : a ≤ 7 <;> by_cases h2 : 0 ≤ b <;> by_cases h3 : b ≤ 7 <;> simp [h0,h1,h2,h3]



theorem b_ok (a b : Int) : bt_TimeOk.f a b = some (okT a b):=by
 unfold bt_TimeOk.f okT
 by_cases h0 : 0 ≤ a <;> by_cases h1 : a ≤ 7 <;> by_cases h2 : 0 ≤ b <;> by_cases h3 : b ≤ 7 <;> simp [h0,h1,h2,h3]

theorem up1 {i n : Nat} (h : i < n) (hn : n ≤ 4611686018427387904) : wrap64 ((i : Int) + 1) = ((i + 1 : Nat) : Int):=by
 rw [w64 (by omega) (by omega)];rfl

/-! lists of items -/
abbrev It:=S80
/-! lists of times -/
abbrev Tm:=S36
theorem rdT_drop {xs : List Tm} {i : Nat} (h : i < xs.length) : xs.drop i = rd_T36 xs (i : Int) :: xs.drop (i + 1):=by
 unfold rd_T36
 rw [List.drop_eq_getElem_cons h,List.getD_eq_getElem?_getD,Int.toNat_natCast,List.getElem?_eq_getElem h]
 rfl

/-! lists of rows -/
abbrev Rw:=S90
theorem rdR_drop {xs : List Rw} {i : Nat} (h : i < xs.length) : xs.drop i = rd_T90 xs (i : Int) :: xs.drop (i + 1):=by
 unfold rd_T90
 rw [List.drop_eq_getElem_cons h,List.getD_eq_getElem?_getD,Int.toNat_natCast,List.getElem?_eq_getElem h]
 rfl

/-! all times -/
def allT : List Tm:=(List.range 8).flatMap fun (a : Nat)=>(List.range 8).map fun (b : Nat)=>(⟨(a : Int),(b : Int)⟩ : Tm)
theorem lwAll_ev : Ev (fun k=>laws_lwAll.f k) allT:=by
 refine Ev.of laws_lwAll.mono (k:=100) ?_
 kernel_rfl
theorem allT_len : allT.length = 64:=by decide
theorem allT_ok : ∀ x ∈ allT,0 ≤ x.f0 ∧ x.f0 ≤ 7 ∧ 0 ≤ x.f1 ∧ x.f1 ≤ 7:=by
 intro x hx
 simp only [allT,List.mem_flatMap,List.mem_map,List.mem_range] at hx
 obtain ⟨a,ha,b,hb,rfl⟩:=hx
 simp only
 omega
/-! frontiers -/
def fOk1 (p : Tm) : List Tm → Bool
 | []=>true
 | y :: r=>okT y.f0 y.f1 && (decide (p.f0 < y.f0) && decide (y.f1 < p.f1)) && fOk1 y r
def fOk : List Tm → Bool
 | []=>true
 | x :: r=>okT x.f0 x.f1 && fOk1 x r
theorem iFront_loop (l : List Tm) (hl : l.length ≤ 1048576) (d : Nat) : ∀ i : Nat,i + 1 + d = l.length → Ev (fun k=>impl_FrontOk.l0 k l l (l.length : Int) ((i + 1 : Nat) : Int)) (fOk1 (rd_T36 l (i : Int)) (l.drop (i + 1))):=by
 induction d with
 | zero =>
  intro i hi
  refine Ev.step (fun k=>by rw [impl_FrontOk.l0]) ?_
  refine Ev.congr (fun k=>if_neg (by omega)) ?_
  rw [List.drop_eq_nil_of_le (by omega)]
  exact Ev.now _
 | succ d ih =>
  intro i hi
  rw [rdT_drop (by omega : i + 1 < l.length)]
  unfold fOk1
  have e : wrap64 (((i + 1 : Nat) : Int) - 1) = (i : Int):=by rw [w64 (by omega) (by omega)];omega
  refine Ev.step (fun k=>by rw [impl_FrontOk.l0]) ?_
  refine Ev.congr (fun k=>(if_pos (by omega)).trans ((if_pos (by omega)).trans (if_pos (by omega)))) ?_
  refine Ev.bind ⟨0,fun k _=>i_ok _ _⟩ ?_
  cases okT (rd_T36 l ((i + 1 : Nat) : Int)).f0 (rd_T36 l ((i + 1 : Nat) : Int)).f1 with
  | false=>exact Ev.now _
  | true =>
   rw [e]
   refine Ev.congr (fun k=>(if_pos rfl).trans ((if_pos (by omega)).trans ((if_pos (by omega)).trans (if_pos (by omega))))) ?_
   by_cases h1 : (rd_T36 l (i : Int)).f0 ≥ (rd_T36 l ((i + 1 : Nat) : Int)).f0
   ·refine Ev.congr (fun k=>if_pos h1) ?_
    rw [decide_eq_false (by omega)]
    exact Ev.now _
   ·refine Ev.congr (fun k=>if_neg h1) ?_
    rw [decide_eq_true (by omega)]
    by_cases h2 : (rd_T36 l (i : Int)).f1 ≤ (rd_T36 l ((i + 1 : Nat) : Int)).f1
    ·refine Ev.congr (fun k=>if_pos h2) ?_
     rw [decide_eq_false (by omega)]
     exact Ev.now _
    ·refine Ev.congr (fun k=>if_neg h2) ?_
     rw [decide_eq_true (by omega),up1 (by omega : i + 1 < l.length) (by omega)]
     exact ih (i + 1) (by omega)
theorem iFront_ev (l : List Tm) (hl : l.length ≤ 1048576) : Ev (fun k=>impl_FrontOk.f k l) (fOk l):=by
 unfold impl_FrontOk.f
 cases l with
 | nil =>
  refine Ev.step (fun k=>by rw [impl_FrontOk.l0]) ?_
  exact Ev.congr (fun k=>if_neg (by simp)) (Ev.now _)
 | cons x r =>
  refine Ev.step (fun k=>by rw [impl_FrontOk.l0]) ?_
  refine Ev.congr (fun k=>(if_pos (by simp)).trans ((if_pos (by omega)).trans (if_pos (by simp)))) ?_
  refine Ev.bind ⟨0,fun k _=>i_ok _ _⟩ ?_
  unfold fOk
  show Ev _ (okT (rd_T36 (x :: r) 0).f0 (rd_T36 (x :: r) 0).f1 && fOk1 (rd_T36 (x :: r) ((0 : Nat) : Int)) ((x :: r).drop (0 + 1)))
  cases okT (rd_T36 (x :: r) 0).f0 (rd_T36 (x :: r) 0).f1 with
  | false=>exact Ev.now _
  | true =>
   refine Ev.congr (fun k=>(if_pos rfl).trans (if_neg (by omega))) ?_
   have:=iFront_loop (x :: r) hl r.length 0 (by simp;omega)
   simpa [w64] using this

theorem fOk1_ok {p : Tm} {l : List Tm} (h : fOk1 p l = true) : ∀ x ∈ l,okT x.f0 x.f1 = true:=by
 induction l generalizing p with
 | nil=>simp
 | cons y r ih =>
  simp only [fOk1,Bool.and_eq_true] at h
  intro x hx
  rcases List.mem_cons.1 hx with rfl | hx
  ·exact h.1.1
  ·exact ih h.2 x hx
theorem fOk_ok {l : List Tm} (h : fOk l = true) : ∀ x ∈ l,okT x.f0 x.f1 = true:=by
 cases l with
 | nil=>simp
 | cons y r =>
  simp only [fOk,Bool.and_eq_true] at h
  intro x hx
  rcases List.mem_cons.1 hx with rfl | hx
  ·exact h.1
  ·exact fOk1_ok h.2 x hx

def beT (x : Tm) (c d : Int) : Bool:=decide (x.f0 ≤ c ∧ x.f1 ≤ d)
theorem i_below (a b c d : Int) : impl_below.f a b c d = some (decide (a ≤ c ∧ b ≤ d)):=by
 unfold impl_below.f
 by_cases h0 : a ≤ c <;> by_cases h1 : b ≤ d <;> simp [h0,h1]
theorem i_beyond_loop (l : List Tm) (c e : Int) (hl : l.length ≤ 1048576) (d : Nat) : ∀ i : Nat,i + d = l.length → Ev (fun k=>impl_beyond.l0 k l (l.length : Int) (i : Int) c e) ((l.drop i).any fun x=>beT x c e):=by
 induction d with
 | zero =>
  intro i hi
  rw [List.drop_eq_nil_of_le (by omega)]
  refine Ev.step (fun k=>by rw [impl_beyond.l0]) ?_
  exact Ev.congr (fun k=>if_neg (by omega)) (Ev.now _)
 | succ d ih =>
  intro i hi
  refine Ev.step (fun k=>by rw [impl_beyond.l0]) ?_
  refine Ev.congr (fun k=>(if_pos (by omega)).trans ((if_pos (by omega)).trans (if_pos (by omega)))) ?_
  refine Ev.bind ⟨0,fun k _=>i_below _ _ _ _⟩ ?_
  rw [rdT_drop (by omega : i < l.length),List.any_cons]
  change Ev (fun k=>if beT (rd_T36 l (i : Int)) c e = true then _ else _) _
  cases beT (rd_T36 l (i : Int)) c e with
  | true=>exact Ev.now _
  | false =>
   refine Ev.congr (fun k=>if_neg (by simp)) ?_
   rw [up1 (by omega : i < l.length) (by omega)]
   exact ih (i + 1) (by omega)
/-- FrontCovers,of both. -/
def coT (l : List Tm) (c e : Int) : Bool:=fOk l && (l.any fun x=>leT x.f0 x.f1 c e)
theorem i_covers (l : List Tm) (c e : Int) (hl : l.length ≤ 1048576) : Ev (fun k=>impl_FrontCovers.f k l c e) (coT l c e):=by
 unfold impl_FrontCovers.f coT
 refine Ev.bind (iFront_ev l hl) ?_
 cases hf : fOk l with
 | false=>exact Ev.now _
 | true =>
  refine Ev.congr (fun k=>if_pos rfl) (Ev.bind ⟨0,fun k _=>i_ok c e⟩ ?_)
  cases ht : okT c e with
  | false =>
   have : (l.any fun x=>leT x.f0 x.f1 c e) = false:=by simp [leT,ht]
   rw [this]
   exact Ev.now _
  | true =>
   have : (l.any fun x=>leT x.f0 x.f1 c e) = l.any fun x=>beT x c e:=by
    rw [Bool.eq_iff_iff,List.any_eq_true,List.any_eq_true]
    constructor
    ·rintro ⟨x,hx,h⟩
     exact ⟨x,hx,by have:=leT_true h;simp [beT];omega⟩
    ·rintro ⟨x,hx,h⟩
     exact ⟨x,hx,by simp [leT,ht,fOk_ok hf x hx];simpa [beT] using h⟩
   rw [this]
   refine Ev.congr (fun k=>if_pos rfl) (Ev.bind (a:=l.any fun x=>beT x c e) ?_ (Ev.now _))
   unfold impl_beyond.f
   simpa using i_beyond_loop l c e hl l.length 0 (by omega)

theorem coT_mk {l : List Tm} {a b : Int} (hf : fOk l = true) (ht : okT a b = true) {x : Tm} (hx : x ∈ l) (h0 : x.f0 ≤ a) (h1 : x.f1 ≤ b) : coT l a b = true:=by
 unfold coT
 simp only [Bool.and_eq_true,List.any_eq_true]
 have:=okT_true (fOk_ok hf x hx);have:=okT_true ht
 exact ⟨hf,x,hx,leT_mk (by omega)⟩

/-! FrontOf,of the reference -/
/-! FrontOf: the steps of a list -/
structure Stair (l out : List Tm) : Prop where
 sub : ∀ x ∈ out,x ∈ l
 pw : out.Pairwise fun x y=>x.f0 < y.f0 ∧ y.f1 < x.f1
 dom : ∀ y ∈ l,∃ x ∈ out,x.f0 ≤ y.f0 ∧ x.f1 ≤ y.f1
/-! the program's scan -/
theorem rd_last (out : List Tm) (x : Tm) : rd_T36 (out ++ [x]) (((out ++ [x]).length : Int) - 1) = x:=by
 unfold rd_T36
 have e : (((out ++ [x]).length : Int) - 1).toNat = out.length:=by simp
 rw [e,List.getD_eq_getElem?_getD,List.getElem?_append_right (Nat.le_refl _)]
 simp
theorem frS_stair (s : List Tm) : ∀ (p out : List Tm),(p ++ s).Pairwise (fun x y=>x.f0 < y.f0 ∨ x.f0 = y.f0 ∧ x.f1 ≤ y.f1) → Stair p out → Stair (p ++ s) (frS out s):=by
 induction s with
 | nil=>intro p out _ h;simpa [frS] using h
 | cons t r ih =>
  intro p out hs h
  have e : p ++ t :: r = (p ++ [t]) ++ r:=by simp
  rw [e] at hs ⊢
  rw [frS]
  refine ih (p ++ [t]) _ hs ?_
  have hp : ∀ y ∈ p,y.f0 < t.f0 ∨ y.f0 = t.f0 ∧ y.f1 ≤ t.f1:=fun y hy=>(List.pairwise_append.1 (List.pairwise_append.1 hs).1).2.2 y hy t (by simp)
  have grow : (∀ x ∈ out,t.f1 < x.f1) → Stair (p ++ [t]) (out ++ [t]):=fun hlt=>⟨fun x hx=>by
    rcases List.mem_append.1 hx with hx | hx
    ·exact List.mem_append_left _ (h.sub x hx)
    ·exact List.mem_append_right _ hx,
   List.pairwise_append.2 ⟨h.pw,List.pairwise_singleton _ _,fun x hx y hy=>by
    rw [List.mem_singleton.1 hy]
    have:=hp x (h.sub x hx);have:=hlt x hx
    omega⟩,fun y hy=>by
    rcases List.mem_append.1 hy with hy | hy
    ·obtain ⟨x,hx,hh⟩:=h.dom y hy
     exact ⟨x,List.mem_append_left _ hx,hh⟩
    ·rw [List.mem_singleton.1 hy]
     exact ⟨t,by simp,by omega,by omega⟩⟩
  by_cases h0 : out.length = 0
  ·rw [if_pos h0]
   refine grow fun x hx=>?_
   rw [List.length_eq_zero_iff.1 h0] at hx
   simp at hx
  ·rw [if_neg h0]
   obtain ⟨ini,lst,rfl⟩ : ∃ ini lst,out = ini ++ [lst]:=⟨out.dropLast,out.getLast (by intro e;rw [e] at h0;simp at h0),(List.dropLast_concat_getLast _).symm⟩
   rw [rd_last]
   have hl : ∀ x ∈ ini ++ [lst],lst.f1 ≤ x.f1:=fun x hx=>by
    rcases List.mem_append.1 hx with hx | hx
    ·have:=(List.pairwise_append.1 h.pw).2.2 x hx lst (by simp);omega
    ·rw [List.mem_singleton.1 hx];omega
   by_cases h1 : t.f1 < lst.f1
   ·rw [if_pos h1]
    exact grow fun x hx=>by have:=hl x hx;omega
   ·rw [if_neg h1]
    refine ⟨fun x hx=>List.mem_append_left _ (h.sub x hx),h.pw,fun y hy=>?_⟩
    rcases List.mem_append.1 hy with hy | hy
    ·exact h.dom y hy
    ·rw [List.mem_singleton.1 hy]
     have:=hp lst (h.sub lst (by simp))
     exact ⟨lst,by simp,by omega,by omega⟩
theorem lt_neg (x y : Tm) : (!lt36 y x) = true ↔ x.f0 < y.f0 ∨ x.f0 = y.f0 ∧ x.f1 ≤ y.f1:=by
 simp only [lt36,Bool.not_eq_true',decide_eq_false_iff_not]
 omega
theorem sort_pw (l : List Tm) : (l.mergeSort fun x y=>!lt36 y x).Pairwise (fun x y=>x.f0 < y.f0 ∨ x.f0 = y.f0 ∧ x.f1 ≤ y.f1):=by
 have:=List.pairwise_mergeSort (le:=fun x y : Tm=>!lt36 y x) (fun a b c h k=>by
  rw [lt_neg] at *;omega) (fun a b=>by
  simp only [Bool.or_eq_true]
  rw [lt_neg,lt_neg];omega) l
 exact this.imp fun h=>(lt_neg _ _).1 h
theorem frontI_stair (l : List Tm) : Stair l (frontI l):=by
 have h:=frS_stair (l.mergeSort fun x y=>!lt36 y x) [] [] (by simpa using sort_pw l) ⟨fun x hx=>hx,List.Pairwise.nil,fun y hy=>by simp at hy⟩
 rw [List.nil_append] at h
 have hm : ∀ t,t ∈ (l.mergeSort fun x y=>!lt36 y x) ↔ t ∈ l:=fun t=>List.mem_mergeSort
 exact ⟨fun x hx=>(hm x).1 (h.sub x hx),h.pw,fun y hy=>h.dom y ((hm y).2 hy)⟩
theorem tok_ok (x : Tm) : fo_tok x = okT x.f0 x.f1:=by
 unfold fo_tok okT
 by_cases h0 : 0 ≤ x.f0 <;> by_cases h1 : x.f0 ≤ 7 <;> by_cases h2 : 0 ≤ x.f1 <;> by_cases h3 : x.f1 ≤ 7 <;> simp [h0,h1,h2,h3]
/-- FrontOf of the program -/
def pFrontOf (l : List Tm) : List Tm:=if (l.all fun x=>okT x.f0 x.f1) then frontI l else []
theorem i_frontof (l : List Tm) (hl : l.length ≤ 1048576) : impl_FrontOf.f l = some (pFrontOf l):=by
 unfold impl_FrontOf.f pFrontOf
 rw [if_pos (by omega)]
 congr 2
 have : fo_tok = fun x : Tm=>okT x.f0 x.f1:=funext tok_ok
 rw [this]

/-! FrontOf of the program and of the reference: one -/
/-! lists of times,held together -/
def eqL : List Tm → List Tm → Bool
 | [],[]=>true
 | x :: r,y :: s=>(x.f0 == y.f0 && (x.f1 == y.f1)) && eqL r s
 | _,_=>false
theorem eqL_iff : ∀ (a b : List Tm),eqL a b = true ↔ a = b
 | [],[]=>by simp [eqL]
 | [],y :: s=>by simp [eqL]
 | x :: r,[]=>by simp [eqL]
 | x :: r,y :: s=>by
  simp only [eqL,Bool.and_eq_true,beq_iff_eq,eqL_iff r s,List.cons.injEq]
  constructor
  ·rintro ⟨⟨h0,h1⟩,h2⟩
   refine ⟨?_,h2⟩
   obtain ⟨a,b⟩:=x;obtain ⟨c,d⟩:=y
   simp only at h0 h1
   rw [h0,h1]
  ·rintro ⟨rfl,h2⟩
   exact ⟨⟨rfl,rfl⟩,h2⟩
theorem eqL_self (a : List Tm) : eqL a a = true:=(eqL_iff a a).2 rfl

theorem lwTimes_loop (a b : List Tm) (hl : a.length ≤ 1048576) (he : a.length = b.length) (d : Nat) : ∀ i : Nat,i + d = a.length → Ev (fun k=>laws_lwTimes.l0 k a b (i : Int)) (eqL (a.drop i) (b.drop i)):=by
 induction d with
 | zero =>
  intro i hi
  rw [List.drop_eq_nil_of_le (by omega),List.drop_eq_nil_of_le (by omega)]
  show Ev (fun k=>laws_lwTimes.l0 k a b (i : Int)) true
  refine Ev.step (fun k=>by rw [laws_lwTimes.l0]) ?_
  exact (Ev.congr (fun k=>if_neg (by omega)) (Ev.now _))
 | succ d ih =>
  intro i hi
  refine Ev.step (fun k=>by rw [laws_lwTimes.l0]) (Ev.congr (fun k=>(if_pos (by omega)).trans ((if_pos (by omega)).trans (if_pos (by omega)))) ?_)
  rw [rdT_drop (by omega : i < a.length),rdT_drop (by omega : i < b.length),eqL]
  cases h0 : ((rd_T36 a (i : Int)).f0 == (rd_T36 b (i : Int)).f0) with
  | false=>exact Ev.congr (fun k=>if_pos (by simp)) (by simpa using Ev.now false)
  | true =>
   cases h1 : ((rd_T36 a (i : Int)).f1 == (rd_T36 b (i : Int)).f1) with
   | false=>exact Ev.congr (fun k=>if_pos (by simp)) (by simpa using Ev.now false)
   | true =>
    refine Ev.congr (fun k=>if_neg (by simp)) ?_
    rw [up1 (by omega : i < a.length) (by omega)]
    simpa using ih (i + 1) (by omega)
theorem lwTimes_ev (a b : List Tm) (hl : a.length ≤ 1048576) : Ev (fun k=>laws_lwTimes.f k a b) (eqL a b):=by
 unfold laws_lwTimes.f
 by_cases he : a.length = b.length
 ·exact Ev.congr (fun k=>if_pos (by omega)) (by simpa using lwTimes_loop a b hl he a.length 0 (by omega))
 ·have : eqL a b = false:=by
   rw [Bool.eq_false_iff]
   intro h
   rw [(eqL_iff a b).1 h] at he
   exact he rfl
  rw [this]
  exact Ev.congr (fun k=>if_neg (by omega)) (Ev.now _)

/-! what a frontier is -/
theorem fOk1_iff (l : List Tm) : ∀ p : Tm,fOk1 p l = true ↔ (∀ x ∈ l,okT x.f0 x.f1 = true) ∧ (p :: l).Pairwise (fun x y=>x.f0 < y.f0 ∧ y.f1 < x.f1):=by
 induction l with
 | nil=>intro p;simp [fOk1]
 | cons y r ih =>
  intro p
  simp only [fOk1,Bool.and_eq_true,decide_eq_true_eq,ih y]
  constructor
  ·rintro ⟨⟨h1,h2,h3⟩,h4,h5⟩
   refine ⟨fun x hx=>?_,List.pairwise_cons.2 ⟨fun x hx=>?_,h5⟩⟩
   ·rcases List.mem_cons.1 hx with rfl | hx
    ·exact h1
    ·exact h4 x hx
   ·rcases List.mem_cons.1 hx with rfl | hx
    ·exact ⟨h2,h3⟩
    ·have:=(List.pairwise_cons.1 h5).1 x hx
     omega
  ·rintro ⟨h1,h2⟩
   obtain ⟨h3,h4⟩:=List.pairwise_cons.1 h2
   exact ⟨⟨h1 y List.mem_cons_self,(h3 y List.mem_cons_self).1,(h3 y List.mem_cons_self).2⟩,fun x hx=>h1 x (List.mem_cons_of_mem _ hx),h4⟩
theorem fOk_iff (l : List Tm) : fOk l = true ↔ (∀ x ∈ l,okT x.f0 x.f1 = true) ∧ l.Pairwise (fun x y=>x.f0 < y.f0 ∧ y.f1 < x.f1):=by
 cases l with
 | nil=>simp [fOk]
 | cons y r =>
  simp only [fOk,Bool.and_eq_true,fOk1_iff]
  constructor
  ·rintro ⟨h1,h2,h3⟩
   exact ⟨fun x hx=>by
    rcases List.mem_cons.1 hx with rfl | hx
    ·exact h1
    ·exact h2 x hx,h3⟩
  ·rintro ⟨h1,h2⟩
   exact ⟨h1 y List.mem_cons_self,fun x hx=>h1 x (List.mem_cons_of_mem _ hx),h2⟩
theorem steps_len (l : List Tm) : ∀ n : Int,(∀ x ∈ l,n ≤ x.f0 ∧ x.f0 ≤ 7) → l.Pairwise (fun x y=>x.f0 < y.f0 ∧ y.f1 < x.f1) → n ≤ 8 → (l.length : Int) ≤ 8 - n:=by
 induction l with
 | nil=>intro n _ _ h;simp;omega
 | cons y r ih =>
  intro n h1 h2 _
  obtain ⟨h3,h4⟩:=List.pairwise_cons.1 h2
  have hy:=h1 y List.mem_cons_self
  have:=ih (y.f0 + 1) (fun x hx=>by have:=h3 x hx;have:=h1 x (List.mem_cons_of_mem _ hx);omega) h4 (by omega)
  simp only [List.length_cons]
  omega
theorem fOk_len {l : List Tm} (h : fOk l = true) : l.length ≤ 8:=by
 obtain ⟨h1,h2⟩:=(fOk_iff l).1 h
 have:=steps_len l 0 (fun x hx=>by have:=okT_true (h1 x hx);omega) h2 (by omega)
 omega
theorem all_ok {l : List Tm} (h : ∀ x ∈ l,okT x.f0 x.f1 = true) : (l.all fun x=>okT x.f0 x.f1) = true:=List.all_eq_true.2 h
theorem pF_stair {l : List Tm} (h : ∀ x ∈ l,okT x.f0 x.f1 = true) : Stair l (pFrontOf l):=by
 unfold pFrontOf
 rw [if_pos (all_ok h)]
 exact frontI_stair l
/-- the front of anything is a front -/
theorem pF_ok (l : List Tm) : fOk (pFrontOf l) = true:=by
 by_cases h : (l.all fun x=>okT x.f0 x.f1) = true
 ·have S:=pF_stair (l:=l) (List.all_eq_true.1 h)
  exact (fOk_iff _).2 ⟨fun x hx=>List.all_eq_true.1 h x (S.sub x hx),S.pw⟩
 ·unfold pFrontOf
  rw [if_neg h]
  rfl
theorem s_in (a b c : Int) : spec_l6In.f a b c = some (decide (b ≤ a ∧ a ≤ c)):=by
 unfold spec_l6In.f
 by_cases h0 : b ≤ a <;> by_cases h1 : a ≤ c <;> simp [h0,h1]

def rowOk (r : Rw) : Bool:=decide (0 ≤ r.f0 ∧ r.f0 ≤ 3) && (decide (0 ≤ r.f1 ∧ r.f1 ≤ 99) && (okT r.f2.f0 r.f2.f1 && decide (-99999 ≤ r.f3 ∧ r.f3 ≤ 99999)))
def rowsOk (l : List Rw) : Bool:=decide (l.length ≤ 400) && l.all rowOk
theorem s_l2Row (r : Rw) : spec_l2Row.f r.f0 r.f1 r.f2.f0 r.f2.f1 r.f3 = some (rowOk r):=by
 unfold spec_l2Row.f rowOk
 simp only [s_in,s_ok,Option.bind_some]
 cases decide (0 ≤ r.f0 ∧ r.f0 ≤ 3) <;> cases decide (0 ≤ r.f1 ∧ r.f1 ≤ 99) <;> cases okT r.f2.f0 r.f2.f1 <;> rfl
theorem s_rows_loop (l : List Rw) (hl : l.length ≤ 1048576) (d : Nat) : ∀ i : Nat,i + d = l.length → Ev (fun k=>spec_RowsOk.l0 k l (i : Int)) ((l.drop i).all rowOk):=by
 induction d with
 | zero =>
  intro i hi
  rw [List.drop_eq_nil_of_le (by omega)]
  refine Ev.step (fun k=>by rw [spec_RowsOk.l0]) ?_
  exact Ev.congr (fun k=>if_neg (by omega)) (Ev.now _)
 | succ d ih =>
  intro i hi
  refine Ev.step (fun k=>by rw [spec_RowsOk.l0]) ?_
  refine Ev.congr (fun k=>(if_pos (by omega)).trans (if_pos (by omega))) ?_
  refine Ev.bind ⟨0,fun k _=>s_l2Row _⟩ ?_
  rw [rdR_drop (by omega : i < l.length),List.all_cons]
  cases rowOk (rd_T90 l (i : Int)) with
  | false=>exact Ev.now _
  | true =>
   refine Ev.congr (fun k=>if_pos rfl) ?_
   rw [up1 (by omega : i < l.length) (by omega)]
   exact ih (i + 1) (by omega)
theorem s_rows (l : List Rw) (hl : l.length ≤ 1048576) : Ev (fun k=>spec_RowsOk.f k l) (rowsOk l):=by
 unfold spec_RowsOk.f rowsOk
 by_cases h : l.length ≤ 400
 ·rw [decide_eq_true h]
  exact Ev.congr (fun k=>if_neg (by omega)) (by simpa using s_rows_loop l hl l.length 0 (by omega))
 ·rw [decide_eq_false h]
  exact Ev.congr (fun k=>if_pos (by omega)) (Ev.now _)

theorem i_rows_loop (l : List Rw) (hl : l.length ≤ 1048576) (d : Nat) : ∀ i : Nat,i + d = l.length → Ev (fun k=>impl_RowsOk.l0 k l l (l.length : Int) (i : Int)) (((l.drop i).all rowOk) && decide (l.length ≤ 400)):=by
 induction d with
 | zero =>
  intro i hi
  rw [List.drop_eq_nil_of_le (by omega)]
  refine Ev.step (fun k=>by rw [impl_RowsOk.l0]) ?_
  refine Ev.congr (fun k=>if_neg (by omega)) ?_
  have : decide ((l.length : Int) ≤ 400) = decide (l.length ≤ 400):=by rw [decide_eq_decide];omega
  rw [this]
  exact Ev.now _
 | succ d ih =>
  intro i hi
  refine Ev.step (fun k=>by rw [impl_RowsOk.l0]) ?_
  refine Ev.congr (fun k=>(if_pos (by omega)).trans ((if_pos (by omega)).trans (if_pos (by omega)))) ?_
  rw [rdR_drop (by omega : i < l.length),List.all_cons,up1 (by omega : i < l.length) (by omega)]
  generalize rd_T90 l (i : Int) = r
  have no : rowOk r = false → Ev (fun _ : Nat=>some false) ((rowOk r && ((l.drop (i + 1)).all rowOk)) && decide (l.length ≤ 400)):=fun h=>by rw [h];exact Ev.now _
  by_cases c0 : r.f0 < 0
  ·exact Ev.congr (fun k=>if_pos c0) (no (by simp [rowOk];omega))
  refine Ev.congr (fun k=>if_neg c0) ?_
  by_cases c1 : r.f0 ≥ 4
  ·exact Ev.congr (fun k=>if_pos c1) (no (by simp [rowOk];omega))
  refine Ev.congr (fun k=>if_neg c1) ?_
  by_cases c2 : r.f1 < 0
  ·exact Ev.congr (fun k=>if_pos c2) (no (by simp [rowOk];omega))
  refine Ev.congr (fun k=>if_neg c2) ?_
  by_cases c3 : r.f1 ≥ 100
  ·exact Ev.congr (fun k=>if_pos c3) (no (by simp [rowOk];omega))
  refine Ev.congr (fun k=>if_neg c3) (Ev.bind ⟨0,fun k _=>i_ok _ _⟩ ?_)
  cases c4 : okT r.f2.f0 r.f2.f1 with
  | false=>exact Ev.congr (fun k=>if_neg (by simp)) (no (by simp [rowOk,c4]))
  | true =>
   refine Ev.congr (fun k=>if_pos rfl) ?_
   by_cases c5 : r.f3 < -99999
   ·exact Ev.congr (fun k=>if_pos c5) (no (by simp [rowOk];omega))
   refine Ev.congr (fun k=>if_neg c5) ?_
   by_cases c6 : r.f3 > 99999
   ·exact Ev.congr (fun k=>if_pos c6) (no (by simp [rowOk];omega))
   refine Ev.congr (fun k=>if_neg c6) ?_
   have : rowOk r = true:=by simp only [rowOk,c4,Bool.and_eq_true,decide_eq_true_eq,true_and];omega
   rw [this,Bool.true_and]
   exact ih (i + 1) (by omega)
theorem i_rows (l : List Rw) (hl : l.length ≤ 1048576) : Ev (fun k=>impl_RowsOk.f k l) (rowsOk l):=by
 unfold impl_RowsOk.f rowsOk
 rw [Bool.and_comm]
 simpa using i_rows_loop l hl l.length 0 (by omega)

theorem rowsOk_facts {l : List Rw} (h : rowsOk l = true) : l.length ≤ 400 ∧ ∀ x ∈ l,rowOk x = true:=by
 unfold rowsOk at h
 simp only [Bool.and_eq_true,decide_eq_true_eq] at h
 exact ⟨h.1,List.all_eq_true.1 h.2⟩


theorem b_rows_loop (l : List Rw) (hl : l.length ≤ 1048576) (d : Nat) : ∀ i : Nat,i + d = l.length → Ev (fun k=>bt_RowsOk.l0 k l l (l.length : Int) (i : Int)) (((l.drop i).all rowOk) && decide (l.length ≤ 400)):=by
 induction d with
 | zero =>
  intro i hi
  rw [List.drop_eq_nil_of_le (by omega)]
  refine Ev.step (fun k=>by rw [bt_RowsOk.l0]) ?_
  refine Ev.congr (fun k=>if_neg (by omega)) ?_
  have : decide ((l.length : Int) ≤ 400) = decide (l.length ≤ 400):=by rw [decide_eq_decide];omega
  rw [this]
  exact Ev.now _
 | succ d ih =>
  intro i hi
  refine Ev.step (fun k=>by rw [bt_RowsOk.l0]) ?_
  refine Ev.congr (fun k=>(if_pos (by omega)).trans ((if_pos (by omega)).trans (if_pos (by omega)))) ?_
  rw [rdR_drop (by omega : i < l.length),List.all_cons,up1 (by omega : i < l.length) (by omega)]
  generalize rd_T90 l (i : Int) = r
  have no : rowOk r = false → Ev (fun _ : Nat=>some false) ((rowOk r && ((l.drop (i + 1)).all rowOk)) && decide (l.length ≤ 400)):=fun h=>by rw [h];exact Ev.now _
  by_cases c0 : r.f0 < 0
  ·exact Ev.congr (fun k=>if_pos c0) (no (by simp [rowOk];omega))
  refine Ev.congr (fun k=>if_neg c0) ?_
  by_cases c1 : r.f0 ≥ 4
  ·exact Ev.congr (fun k=>if_pos c1) (no (by simp [rowOk];omega))
  refine Ev.congr (fun k=>if_neg c1) ?_
  by_cases c2 : r.f1 < 0
  ·exact Ev.congr (fun k=>if_pos c2) (no (by simp [rowOk];omega))
  refine Ev.congr (fun k=>if_neg c2) ?_
  by_cases c3 : r.f1 ≥ 100
  ·exact Ev.congr (fun k=>if_pos c3) (no (by simp [rowOk];omega))
  refine Ev.congr (fun k=>if_neg c3) (Ev.bind ⟨0,fun k _=>b_ok _ _⟩ ?_)
  cases c4 : okT r.f2.f0 r.f2.f1 with
  | false=>exact Ev.congr (fun k=>if_neg (by simp)) (no (by simp [rowOk,c4]))
  | true =>
   refine Ev.congr (fun k=>if_pos rfl) ?_
   by_cases c5 : r.f3 < -99999
   ·exact Ev.congr (fun k=>if_pos c5) (no (by simp [rowOk];omega))
   refine Ev.congr (fun k=>if_neg c5) ?_
   by_cases c6 : r.f3 > 99999
   ·exact Ev.congr (fun k=>if_pos c6) (no (by simp [rowOk];omega))
   refine Ev.congr (fun k=>if_neg c6) ?_
   have : rowOk r = true:=by simp only [rowOk,c4,Bool.and_eq_true,decide_eq_true_eq,true_and];omega
   rw [this,Bool.true_and]
   exact ih (i + 1) (by omega)
theorem b_rows (l : List Rw) (hl : l.length ≤ 1048576) : Ev (fun k=>bt_RowsOk.f k l) (rowsOk l):=by
 unfold bt_RowsOk.f rowsOk
 rw [Bool.and_comm]
 simpa using b_rows_loop l hl l.length 0 (by omega)

/-! rows: put into order,equal ones summed -/
/-- key,value and time -/
def rkey (r : Rw) : Int × Int × Int × Int:=(r.f0,r.f1,r.f2.f0,r.f2.f1)
def klt (a b : Int × Int × Int × Int) : Prop:=a.1 < b.1 ∨ a.1 = b.1 ∧ (a.2.1 < b.2.1 ∨ a.2.1 = b.2.1 ∧ (a.2.2.1 < b.2.2.1 ∨ a.2.2.1 = b.2.2.1 ∧ a.2.2.2 < b.2.2.2))
instance (a b : Int × Int × Int × Int) : Decidable (klt a b):=by unfold klt;infer_instance
def putR : List Rw → Rw → List Rw
 | [],r=>[r]
 | x :: l,r=>if klt (rkey r) (rkey x) then r :: x :: l else if rkey x = rkey r then { r with f3:=wrap64 (r.f3 + x.f3) } :: l else x :: putR l r
def csum (l : List Rw) : List Rw:=l.foldl putR []
def consol (l : List Rw) : List Rw:=(csum l).filter fun r=>r.f3 != 0

/-! the reference's sums of rows -/
/-! items as rows of one time -/
def rwI (x : It) : Rw:=⟨x.f0,x.f1,⟨0,0⟩,x.f2⟩
def itR (r : Rw) : It:=⟨r.f0,r.f1,r.f3⟩
def itemsOf (l : List It) : List It:=(consol (l.map rwI)).map itR
/-! BatchAt,of the reference -/
def rowsAt (l : List Rw) (a b : Int) : List It:=(l.filter fun r=>leT r.f2.f0 r.f2.f1 a b).map itR
def batchAt (l : List Rw) (a b : Int) : List It:=if rowsOk l && okT a b then itemsOf (rowsAt l a b) else []
/-! the program's gathered items are the reference's -/
theorem put_rwI (a : List It) (x : It) : putR (a.map rwI) (rwI x) = (putI a x).map rwI:=by
 induction a with
 | nil=>rfl
 | cons y a ih =>
  rw [List.map_cons,putR,putI]
  by_cases h1 : ltI x y = true
  ·have h1':=ltI_iff.1 h1
   rw [if_pos h1,if_pos (by unfold klt rkey rwI;simp only;omega)]
   rfl
  ·have h1' : ¬ (x.f0 < y.f0 ∨ x.f0 = y.f0 ∧ x.f1 < y.f1):=fun k=>h1 (ltI_iff.2 k)
   rw [if_neg h1,if_neg (by unfold klt rkey rwI;simp only;omega)]
   by_cases h2 : y.f0 = x.f0 ∧ y.f1 = x.f1
   ·rw [if_pos h2,if_pos (by simp only [rkey,rwI,h2.1,h2.2])]
    rfl
   ·rw [if_neg h2,if_neg (fun k=>h2 (by simp only [rkey,rwI,Prod.mk.injEq] at k;exact ⟨k.1,k.2.1⟩)),ih]
    rfl
theorem fold_rwI (l : List It) : ∀ a : List It,(l.map rwI).foldl putR (a.map rwI) = (l.foldl putI a).map rwI:=by
 induction l with
 | nil=>intro a;rfl
 | cons x l ih =>
  intro a
  rw [List.map_cons,List.foldl_cons,List.foldl_cons,put_rwI,ih]
theorem gath_items (l : List It) : gathI l = itemsOf l:=by
 unfold gathI itemsOf consol csum
 have:=fold_rwI l []
 rw [List.map_nil] at this
 rw [this,List.filter_map,List.map_map]
 have e : (fun r : Rw=>r.f3 != 0) ∘ rwI = fun x : It=>x.f2 != 0:=rfl
 rw [e]
 have e2 : itR ∘ rwI = id:=rfl
 rw [e2,List.map_id]
theorem i_gathered (l : List It) (hl : l.length ≤ 1000000) (hok : ∀ x ∈ l,ok80 x = true) : impl_gathered.f l = some (itemsOf l):=by
 unfold impl_gathered.f
 rw [if_pos ⟨hl,List.all_eq_true.2 hok⟩,gath_items]

/-! BatchAt,of the program -/
theorem i_belowT {a b c d : Int} (h : okT a b = true) (h2 : okT c d = true) : impl_below.f a b c d = some (leT a b c d):=by
 unfold impl_below.f leT
 rw [h,h2]
 by_cases h0 : a ≤ c <;> by_cases h1 : b ≤ d <;> simp [h0,h1]
theorem rowOk_it {x : Rw} (h : rowOk x = true) : ok80 (itR x) = true:=by
 simp only [rowOk,okT,Bool.and_eq_true,decide_eq_true_eq] at h
 simp only [ok80,itR,Bool.and_eq_true,wf64_iff]
 omega
theorem rowOk_time {x : Rw} (h : rowOk x = true) : okT x.f2.f0 x.f2.f1 = true:=by
 simp only [rowOk,Bool.and_eq_true] at h
 exact h.2.2.1
theorem present_loop (l : List Rw) (a b : Int) (hT : okT a b = true) (hl : l.length ≤ 1048576) (hok : ∀ x ∈ l,rowOk x = true) (d : Nat) : ∀ (i : Nat) (out : List It),i + d = l.length → out.length ≤ i → i ≤ 400 → d + i ≤ 400 → (∀ x ∈ out,ok80 x = true) →
  Ev (fun k=>impl_present.l0 k out l (l.length : Int) (i : Int) a b) (itemsOf (out ++ rowsAt (l.drop i) a b)):=by
 induction d with
 | zero =>
  intro i out hi ho _ _ hz
  rw [List.drop_eq_nil_of_le (by omega)]
  refine Ev.step (fun k=>by rw [impl_present.l0]) (Ev.congr (fun k=>if_neg (by omega)) ?_)
  refine Ev.bind (a:=itemsOf out) ⟨0,fun k _=>i_gathered out (by omega) hz⟩ ?_
  simpa [rowsAt] using Ev.now _
 | succ d ih =>
  intro i out hi ho h4 h5 hz
  have hlt : i < l.length:=by omega
  have hm : rd_T90 l (i : Int) ∈ l:=by
   have : rd_T90 l (i : Int) ∈ l.drop i:=by rw [rdR_drop hlt];exact List.mem_cons_self
   exact List.mem_of_mem_drop this
  refine Ev.step (fun k=>by rw [impl_present.l0]) (Ev.congr (fun k=>(if_pos (by omega)).trans ((if_pos (by omega)).trans (if_pos (by omega)))) ?_)
  rw [up1 hlt (by omega),rdR_drop hlt]
  have hk:=hok _ hm
  generalize rd_T90 l (i : Int) = r at *
  refine Ev.bind ⟨0,fun k _=>i_belowT (rowOk_time hk) hT⟩ ?_
  cases h : leT r.f2.f0 r.f2.f1 a b with
  | true =>
   rw [show rowsAt (r :: l.drop (i + 1)) a b = itR r :: rowsAt (l.drop (i + 1)) a b by simp [rowsAt,h]]
   have:=ih (i + 1) (out ++ [itR r]) (by omega) (by simp;omega) (by omega) (by omega) fun x hx=>by
    rcases List.mem_append.1 hx with hx | hx
    ·exact hz x hx
    ·rw [List.mem_singleton.1 hx];exact rowOk_it hk
   exact Ev.congr (fun k=>(if_pos rfl).trans (if_pos (by omega))) (by simpa [itR] using this)
  | false =>
   rw [show rowsAt (r :: l.drop (i + 1)) a b = rowsAt (l.drop (i + 1)) a b by simp [rowsAt,h]]
   exact Ev.congr (fun k=>if_neg (by simp)) (ih (i + 1) out (by omega) (by omega) (by omega) (by omega) hz)
theorem i_batchAt (l : List Rw) (a b : Int) (hl : l.length ≤ 1048576) : Ev (fun k=>impl_BatchAt.f k l a b) (batchAt l a b):=by
 unfold impl_BatchAt.f batchAt
 refine Ev.bind (i_rows l hl) ?_
 cases hok : rowsOk l with
 | false=>exact Ev.congr (fun k=>if_neg (by simp)) (Ev.now _)
 | true =>
  obtain ⟨h1,g1⟩:=rowsOk_facts hok
  refine Ev.congr (fun k=>if_pos rfl) (Ev.bind ⟨0,fun k _=>i_ok _ _⟩ ?_)
  cases hT : okT a b with
  | false=>exact Ev.congr (fun k=>if_neg (by simp)) (Ev.now _)
  | true =>
   refine Ev.congr (fun k=>if_pos rfl) (Ev.bind (a:=itemsOf (rowsAt l a b)) ?_ (Ev.now _))
   unfold impl_present.f
   have:=present_loop l a b hT hl g1 l.length 0 [] (by omega) (by simp) (by omega) (by omega) (by simp)
   simpa using this

/-! drawn rows -/
def smallRow (r : Rw) : Prop:=rowOk r = true ∧ -3 ≤ r.f3 ∧ r.f3 ≤ 3
theorem rd_val (i : Int) (h0 : 0 ≤ i) (h1 : i < 9) : 0 ≤ rd [0,1,2,3,4,9,10,57,99] i ∧ rd [0,1,2,3,4,9,10,57,99] i ≤ 99:=by
 have c : i = 0 ∨ i = 1 ∨ i = 2 ∨ i = 3 ∨ i = 4 ∨ i = 5 ∨ i = 6 ∨ i = 7 ∨ i = 8:=by omega
 rcases c with rfl | rfl | rfl | rfl | rfl | rfl | rfl | rfl | rfl <;> decide
theorem rd_diff (i : Int) (h0 : 0 ≤ i) (h1 : i < 8) : -3 ≤ rd [1,1,1,2,-1,-1,3,0] i ∧ rd [1,1,1,2,-1,-1,3,0] i ≤ 3:=by
 have c : i = 0 ∨ i = 1 ∨ i = 2 ∨ i = 3 ∨ i = 4 ∨ i = 5 ∨ i = 6 ∨ i = 7:=by omega
 rcases c with rfl | rfl | rfl | rfl | rfl | rfl | rfl | rfl <;> decide
theorem row_p (l : List Int) (hl : ∀ x ∈ l,0 ≤ x ∧ x ≤ 255) (hn : l.length ≤ 2000) (p : Int) (hp : 0 ≤ p) (hp2 : p ≤ 700000000) :
  EvP (fun k=>spec_l71Row.f k l p) (fun r=>smallRow ⟨r.1,r.2.1,⟨r.2.2.1,r.2.2.2.1⟩,r.2.2.2.2.1⟩ ∧ p ≤ r.2.2.2.2.2 ∧ r.2.2.2.2.2 ≤ p + 6):=by
 unfold spec_l71Row.f
 refine EvP.bind (pick_p l hl hn p 4 hp (by omega) (by omega)) fun a ha=>EvP.let_ rfl (EvP.bind (pick_p l hl hn a.2 9 (by omega) (by omega) (by omega)) fun b hb=>EvP.pos hb.1 (EvP.pos (by simpa using hb.2.1) ?_))
 refine EvP.bind (time_p l hl hn b.2 (by omega) (by omega)) fun c hc=>EvP.let_ rfl (EvP.bind (pick_p l hl hn c.2.2 8 (by omega) (by omega) (by omega)) fun e he=>EvP.pos he.1 (EvP.pos (by simpa using he.2.1) (EvP.ret ?_)))
 have h1:=rd_val b.1 hb.1 hb.2.1
 have h2:=rd_diff e.1 he.1 he.2.1
 refine ⟨⟨?_,h2⟩,by simp only;omega,by simp only;omega⟩
 simp only [rowOk,okT,Bool.and_eq_true,decide_eq_true_eq]
 omega
theorem rdR_mem {l : List Rw} {i : Int} (h0 : 0 ≤ i) (h : i < (l.length : Int)) : rd_T90 l i ∈ l:=by
 obtain ⟨n,rfl⟩:=Int.eq_ofNat_of_zero_le h0
 have:=rdR_drop (xs:=l) (i:=n) (by omega)
 exact List.mem_of_mem_drop (this ▸ List.mem_cons_self)
theorem rows_loop (l : List Int) (hl : ∀ x ∈ l,0 ≤ x ∧ x ≤ 255) (hn : l.length ≤ 2000) (d : Nat) : ∀ (out : List Rw) (p : Int),d ≤ 1000 → 0 ≤ p → p + 9 * d ≤ 600000000 → (∀ x ∈ out,smallRow x) → out.length + d ≤ 1000 →
  EvP (fun k=>spec_l71Rows.l0 k out (d : Int) l p) (fun r=>r.1.length = out.length + d ∧ (∀ x ∈ r.1,smallRow x) ∧ p ≤ r.2 ∧ r.2 ≤ p + 9 * d):=by
 induction d with
 | zero =>
  intro out p _ _ _ ho _
  refine EvP.step (fun k=>by rw [spec_l71Rows.l0]) ?_
  exact (EvP.neg (by omega) (EvP.ret ⟨by simp,ho,by omega,by omega⟩))
 | succ d ih =>
  intro out p hd hp hp2 ho hlen
  have e : wrap64 (((d + 1 : Nat) : Int) - 1) = (d : Int):=by rw [w64 (by omega) (by omega)];omega
  have add : ∀ (x : Rw) (q : Int),smallRow x → p ≤ q → q ≤ p + 9 → EvP (fun k=>spec_l71Rows.l0 k (out ++ [x]) (d : Int) l q) (fun r=>r.1.length = out.length + (d + 1) ∧ (∀ x ∈ r.1,smallRow x) ∧ p ≤ r.2 ∧ r.2 ≤ p + 9 * ((d + 1 : Nat) : Int)):=fun x q hx h1 h2=>by
   refine (ih (out ++ [x]) q (by omega) (by omega) (by omega) (fun y hy=>?_) (by simp;omega)).mono fun r hr=>?_
   ·rcases List.mem_append.1 hy with hy | hy
    ·exact ho y hy
    ·rw [List.mem_singleton.1 hy]
     exact hx
   ·obtain ⟨g1,g2,g3,g4⟩:=hr
    exact ⟨by rw [g1];simp;omega,g2,by omega,by omega⟩
  refine EvP.step (fun k=>by rw [spec_l71Rows.l0]) (EvP.pos (by omega) (EvP.bind (row_p l hl hn p hp (by omega)) fun a ha=>?_))
  obtain ⟨x0,x1,x2,x3,x4,q⟩:=a
  obtain ⟨hx,hq1,hq2⟩:=ha
  simp only at hx hq1 hq2 ⊢
  have join : ∀ (b : Bool) (q2 : Int),(b = true → 0 < out.length) → q ≤ q2 → q2 ≤ q + 1 → EvP (fun k=>spec_l71Rows.j1 k out ((d + 1 : Nat) : Int) b l q2 x0 x1 x2 x3 x4) (fun r=>r.1.length = out.length + (d + 1) ∧ (∀ x ∈ r.1,smallRow x) ∧ p ≤ r.2 ∧ r.2 ≤ p + 9 * ((d + 1 : Nat) : Int)):=fun b q2 hb h1 h2=>by
   refine EvP.step (fun k=>by rw [spec_l71Rows.j1]) ?_
   rw [e]
   cases b with
   | false=>exact EvP.neg (by simp) (EvP.pos (by omega) (add _ q2 hx (by omega) (by omega)))
   | true =>
    have hpos:=hb rfl
    refine EvP.pos rfl (EvP.bind (pick_p l hl hn q2 (out.length : Int) (by omega) (by omega) (by omega)) fun c hc=>EvP.pos hc.1 (EvP.pos hc.2.1 ?_))
    have hy:=ho _ (rdR_mem hc.1 hc.2.1)
    generalize rd_T90 out c.1 = y at *
    have hy1:=hy.1
    have hx1:=hx.1
    simp only [rowOk,Bool.and_eq_true,decide_eq_true_eq] at hy1 hx1
    have b1:=hy.2
    have b2:=hx.2
    simp only at b2
    refine EvP.bind (pick_p l hl hn c.2 2 (by omega) (by omega) (by omega)) fun f hf=>EvP.ite (fun _=>EvP.pos (by omega) (add _ f.2 ?_ (by omega) (by omega))) (fun _=>EvP.pos (by omega) (add _ f.2 ?_ (by omega) (by omega)))
    ·have ew : wrap64 (-y.f3) = -y.f3:=w64 (by omega) (by omega)
     rw [ew]
     refine ⟨?_,by simp only;omega,by simp only;omega⟩
     simp only [rowOk,Bool.and_eq_true,decide_eq_true_eq]
     exact ⟨hy1.1,hy1.2.1,hx1.2.2.1,by omega⟩
    ·refine ⟨?_,by simp only;omega,by simp only;omega⟩
     simp only [rowOk,Bool.and_eq_true,decide_eq_true_eq]
     exact ⟨hy1.1,hy1.2.1,hx1.2.2.1,by omega⟩
  refine EvP.ite (fun h=>EvP.bind (pick_p l hl hn q 3 (by omega) (by omega) (by omega)) fun c hc=>join _ c.2 (fun _=>by omega) (by omega) (by omega)) (fun _=>join false q (fun h=>by simp at h) (by omega) (by omega))
theorem rows_p (l : List Int) (hl : ∀ x ∈ l,0 ≤ x ∧ x ≤ 255) (hn : l.length ≤ 2000) (p most : Int) (hp : 0 ≤ p) (hp2 : p ≤ 500000000) (hm : 0 ≤ most) (hm2 : most ≤ 100) :
  EvP (fun k=>spec_l71Rows.f k l p most) (fun r=>(r.1.length : Int) ≤ most ∧ (∀ x ∈ r.1,smallRow x) ∧ p ≤ r.2 ∧ r.2 ≤ p + 1 + 9 * most):=by
 unfold spec_l71Rows.f
 rw [w64 (by omega) (by omega)]
 refine EvP.bind (pick_p l hl hn p (most + 1) hp (by omega) (by omega)) fun a ha=>?_
 obtain ⟨v,q⟩:=a
 obtain ⟨n,rfl⟩:=Int.eq_ofNat_of_zero_le ha.1
 simp only at ha
 refine (rows_loop l hl hn n [] q (by omega) (by omega) (by omega) (fun x hx=>by simp at hx) (by simp;omega)).mono fun r hr=>?_
 obtain ⟨h1,h2,h3,h4⟩:=hr
 exact ⟨by rw [h1];simp;omega,h2,by omega,by omega⟩

/-! drawn rows,some spoilt -/
theorem rd_two (u v i : Int) (h0 : 0 ≤ i) (h1 : i < 2) : rd [u,v] i = u ∨ rd [u,v] i = v:=by
 have c : i = 0 ∨ i = 1:=by omega
 rcases c with rfl | rfl
 ·exact .inl rfl
 ·exact .inr rfl
theorem not_rowsOk {l : List Rw} {x : Rw} (h : rowOk x = false) : rowsOk (l ++ [x]) = false:=by
 unfold rowsOk
 rw [List.all_append]
 simp [h]
theorem spoil_p (l : List Int) (hl : ∀ x ∈ l,0 ≤ x ∧ x ≤ 255) (hn : l.length ≤ 2000) (p : Int) (hp : 0 ≤ p) (hp2 : p ≤ 600000000) (s : List Rw) (hs : s.length ≤ 1000) :
  EvP (fun k=>spec_l71Spoil.f k l p s) (fun r=>r.1.length = s.length + 1 ∧ rowsOk r.1 = false ∧ p ≤ r.2 ∧ r.2 ≤ p + 8):=by
 unfold spec_l71Spoil.f
 refine EvP.bind (row_p l hl hn p hp (by omega)) fun a ha=>EvP.bind (pick_p l hl hn a.2.2.2.2.2 5 (by omega) (by omega) (by omega)) fun b hb=>?_
 obtain ⟨x0,x1,x2,x3,x4,q⟩:=a
 obtain ⟨_,hq1,hq2⟩:=ha
 simp only at hq1 hq2 hb ⊢
 have fin : ∀ (x : Rw) (q2 : Int),rowOk x = false → p ≤ q2 → q2 ≤ p + 8 → EvP (fun _ : Nat=>(some ([] : List Rw)).bind fun y=>if y.length + s.length < 3518437208883 then (some (y ++ s)).bind fun y2=>(some [x]).bind fun y3=>if y2.length + y3.length < 3518437208883 then some (y2 ++ y3,q2) else none else none)
   (fun r=>r.1.length = s.length + 1 ∧ rowsOk r.1 = false ∧ p ≤ r.2 ∧ r.2 ≤ p + 8):=fun x q2 hx h1 h2 =>
  EvP.let_ rfl (EvP.pos (by simp;omega) (EvP.let_ rfl (EvP.let_ rfl (EvP.pos (by simp;omega) (EvP.ret ⟨by simp,not_rowsOk hx,h1,h2⟩)))))
 refine EvP.ite (fun _=>?_) (fun _=>EvP.ite (fun _=>?_) (fun _=>EvP.ite (fun _=>?_) (fun _=>EvP.ite (fun _=>?_) (fun _=>?_))))
 ·refine EvP.let_ rfl (EvP.bind (pick_p l hl hn b.2 2 (by omega) (by omega) (by omega)) fun c hc=>EvP.pos hc.1 (EvP.pos (by simpa using hc.2.1) (fin ⟨rd [-1,4] c.1,x1,⟨x2,x3⟩,x4⟩ c.2 ?_ (by omega) (by omega))))
  rcases rd_two (-1) 4 c.1 hc.1 hc.2.1 with e | e <;> simp [rowOk,e]
 ·refine EvP.let_ rfl (EvP.bind (pick_p l hl hn b.2 2 (by omega) (by omega) (by omega)) fun c hc=>EvP.pos hc.1 (EvP.pos (by simpa using hc.2.1) (fin ⟨x0,rd [-1,100] c.1,⟨x2,x3⟩,x4⟩ c.2 ?_ (by omega) (by omega))))
  rcases rd_two (-1) 100 c.1 hc.1 hc.2.1 with e | e <;> simp [rowOk,e]
 ·exact fin ⟨x0,x1,⟨-1,0⟩,x4⟩ b.2 (by simp [rowOk,okT]) (by omega) (by omega)
 ·refine EvP.let_ rfl (EvP.bind (pick_p l hl hn b.2 2 (by omega) (by omega) (by omega)) fun c hc=>EvP.pos hc.1 (EvP.pos (by simpa using hc.2.1) (fin ⟨x0,x1,⟨x2,x3⟩,rd [-100000,100000] c.1⟩ c.2 ?_ (by omega) (by omega))))
  rcases rd_two (-100000) 100000 c.1 hc.1 hc.2.1 with e | e <;> simp [rowOk,e]
 ·exact fin ⟨x0,x1,⟨x2,8⟩,x4⟩ b.2 (by simp [rowOk,okT]) (by omega) (by omega)
theorem any_p (l : List Int) (hl : ∀ x ∈ l,0 ≤ x ∧ x ≤ 255) (hn : l.length ≤ 2000) (p : Int) (hp : 0 ≤ p) (hp2 : p ≤ 400000000) :
  EvP (fun k=>spec_l71Any.f k l p) (fun r=>r.1.length ≤ 11 ∧ ((∀ x ∈ r.1,smallRow x) ∨ rowsOk r.1 = false) ∧ p ≤ r.2 ∧ r.2 ≤ p + 110):=by
 unfold spec_l71Any.f
 refine EvP.bind (rows_p l hl hn p 10 hp (by omega) (by omega) (by omega)) fun a ha=>EvP.bind (pick_p l hl hn a.2 14 (by omega) (by omega) (by omega)) fun b hb=>EvP.ite (fun _=>?_) (fun _=>EvP.ret ⟨by simp only;omega,.inl ha.2.1,by simp only;omega,by simp only;omega⟩)
 exact EvP.bind (spoil_p l hl hn b.2 (by omega) (by omega) a.1 (by omega)) fun c hc=>EvP.ret ⟨by simp only;omega,.inr hc.2.1,by simp only;omega,by simp only;omega⟩
/-! BatchTimes -/
def batchTimes (l : List Rw) : List Tm:=if rowsOk l then bt_timesL l else []
theorem bt_len (l : List Rw) : (bt_timesL l).length ≤ 64:=bt_pre_len _ _
theorem batchTimes_len (l : List Rw) : (batchTimes l).length ≤ 64:=by
 unfold batchTimes
 split
 ·exact bt_len l
 ·simp
theorem i_batchtimes (l : List Rw) (hl : l.length ≤ 1048576) : Ev (fun k=>impl_BatchTimes.f k l) (batchTimes l):=by
 unfold impl_BatchTimes.f batchTimes
 refine Ev.bind (b_rows l hl) ?_
 cases h : rowsOk l with
 | false=>exact Ev.congr (fun k=>if_neg (by simp)) (Ev.now _)
 | true =>
  obtain ⟨h1,g1⟩:=rowsOk_facts h
  refine Ev.congr (fun k=>(if_pos rfl).trans (if_pos ⟨by omega,List.all_eq_true.2 fun x hx=>?_⟩)) (Ev.now _)
  have:=g1 x hx
  simp only [rowOk,okT,Bool.and_eq_true,decide_eq_true_eq] at this
  simp only [bt_okR,bt_ok,Bool.and_eq_true,bt_wf64_iff]
  omega
theorem bt_l2 (l out : List Rw) (o : List Tm) (a b : Int) (R : List Tm) (hl : l.length ≤ 1048576) (ho : o.length ≤ 1000) (d : Nat) : ∀ j : Nat,j + d = l.length →
  Ev (fun k=>spec_BatchTimes.l1 k l (o ++ (if bt_has (l.drop j) ⟨a,b⟩ = true then [⟨a,b⟩] else [])) a (wrap64 (b + 1))) R → Ev (fun k=>spec_BatchTimes.l2 k l o a b (j : Int) a b) R:=by
 induction d with
 | zero =>
  intro j hj hk
  rw [List.drop_eq_nil_of_le (by omega)] at hk
  refine Ev.step (fun k=>by rw [spec_BatchTimes.l2]) (Ev.congr (fun k=>if_neg (by omega)) ?_)
  simpa [bt_has] using hk
 | succ d ih =>
  intro j hj hk
  refine Ev.step (fun k=>by rw [spec_BatchTimes.l2]) (Ev.congr (fun k=>(if_pos (by omega)).trans (if_pos (by omega))) ?_)
  rw [rdR_drop (by omega : j < l.length)] at hk
  rw [up1 (by omega : j < l.length) (by omega)]
  generalize rd_T90 l (j : Int) = r at *
  have e : bt_has (r :: l.drop (j + 1)) ⟨a,b⟩ = ((r.f2.f0 == a && r.f2.f1 == b) || bt_has (l.drop (j + 1)) ⟨a,b⟩):=rfl
  rw [e] at hk
  cases h : (r.f2.f0 == a && r.f2.f1 == b) with
  | true =>
   rw [h,Bool.true_or,if_pos rfl] at hk
   exact Ev.congr (fun k=>(if_pos rfl).trans (if_pos (by omega))) hk
  | false =>
   rw [h,Bool.false_or] at hk
   exact Ev.congr (fun k=>if_neg (by simp)) (ih (j + 1) (by omega) hk)
theorem bt_l1 (l : List Rw) (a : Nat) (ha : a < 8) (R : List Tm) (hl : l.length ≤ 1048576) (hk : Ev (fun k=>spec_BatchTimes.l0 k l (bt_pre (bt_has l) (8 * (a + 1))) ((a + 1 : Nat) : Int)) R) (d : Nat) : ∀ b : Nat,b + d = 8 →
  Ev (fun k=>spec_BatchTimes.l1 k l (bt_pre (bt_has l) (8 * a + b)) (a : Int) (b : Int)) R:=by
 induction d with
 | zero =>
  intro b hb
  obtain rfl : b = 8:=by omega
  refine Ev.step (fun k=>by rw [spec_BatchTimes.l1]) (Ev.congr (fun k=>if_neg (by omega)) ?_)
  rw [w64 (by omega) (by omega)]
  exact hk
 | succ d ih =>
  intro b hb
  have hlen:=bt_pre_len (bt_has l) (8 * a + b)
  refine Ev.step (fun k=>by rw [spec_BatchTimes.l1]) (Ev.congr (fun k=>if_pos (by omega)) ?_)
  refine bt_l2 l l _ (a : Int) (b : Int) R hl (by omega) l.length 0 (by omega) ?_
  rw [List.drop_zero,← bt_pre_succ (bt_has l) a b (by omega),w64 (by omega) (by omega)]
  exact ih (b + 1) (by omega)
theorem bt_l0 (l : List Rw) (hl : l.length ≤ 1048576) (hok : rowsOk l = true) (d : Nat) : ∀ a : Nat,a + d = 8 → Ev (fun k=>spec_BatchTimes.l0 k l (bt_pre (bt_has l) (8 * a)) (a : Int)) (bt_timesL l):=by
 induction d with
 | zero =>
  intro a ha
  obtain rfl : a = 8:=by omega
  refine Ev.step (fun k=>by rw [spec_BatchTimes.l0]) (Ev.congr (fun k=>if_neg (by omega)) ?_)
  refine Ev.step (fun k=>by rw [spec_BatchTimes.j1]) (Ev.congr (fun k=>if_neg (by simp)) ?_)
  exact Ev.now _
 | succ d ih =>
  intro a ha
  refine Ev.step (fun k=>by rw [spec_BatchTimes.l0]) (Ev.congr (fun k=>if_pos (by omega)) (Ev.bind (s_rows l hl) ?_))
  rw [hok]
  refine Ev.step (fun k=>by rw [spec_BatchTimes.j1]) (Ev.congr (fun k=>if_pos rfl) ?_)
  exact bt_l1 l a (by omega) _ hl (ih (a + 1) (by omega)) 8 0 (by omega)
theorem s_batchtimes (l : List Rw) (hl : l.length ≤ 1048576) : Ev (fun k=>spec_BatchTimes.f k l) (batchTimes l):=by
 unfold spec_BatchTimes.f batchTimes
 cases hok : rowsOk l with
 | true=>exact bt_l0 l hl hok 8 0 (by omega)
 | false =>
  refine Ev.step (fun k=>by rw [spec_BatchTimes.l0]) (Ev.congr (fun k=>if_pos (by omega)) (Ev.bind (s_rows l hl) ?_))
  rw [hok]
  refine Ev.step (fun k=>by rw [spec_BatchTimes.j1]) (Ev.congr (fun k=>if_neg (by simp)) ?_)
  exact Ev.now _

theorem drawtimes_p (l : List Int) (hl : ∀ x ∈ l,0 ≤ x ∧ x ≤ 255) : EvP (fun k=>spec_DrawBatchTimes.f k l) (fun r=>r.length ≤ 11):=by
 obtain ⟨l',ho,hl',hn⟩:=open_p l hl
 unfold spec_DrawBatchTimes.f
 exact EvP.let_ ho (EvP.bind (any_p l' hl' hn 0 (by omega) (by omega)) fun a ha=>EvP.ret ha.1)
theorem filter_or {α : Type} (p q : α → Bool) (L : List α) : (L.filter fun i=>p i || q i).length ≤ (L.filter p).length + (L.filter q).length:=by
 induction L with
 | nil=>simp
 | cons x r ih =>
  simp only [List.filter_cons]
  cases p x <;> cases q x <;> simp <;> omega
theorem pre_one (x : Tm) (n : Nat) : (bt_pre (bt_eq x) n).length ≤ 1:=by
 unfold bt_pre
 rw [List.length_map]
 have hp : ((List.range n).filter fun i=>bt_eq x ⟨((i / 8 : Nat) : Int),((i % 8 : Nat) : Int)⟩).Pairwise (· < ·):=List.pairwise_lt_range.filter _
 have hm : ∀ i ∈ (List.range n).filter (fun i=>bt_eq x ⟨((i / 8 : Nat) : Int),((i % 8 : Nat) : Int)⟩),x = ⟨((i / 8 : Nat) : Int),((i % 8 : Nat) : Int)⟩:=fun i hi=>bt_eq_iff.1 (List.mem_filter.1 hi).2
 generalize (List.range n).filter (fun i=>bt_eq x ⟨((i / 8 : Nat) : Int),((i % 8 : Nat) : Int)⟩) = L at *
 match L,hp,hm with
 | [],_,_=>simp
 | [_],_,_=>simp
 | i :: j :: r,hp,hm =>
  have h1:=(List.pairwise_cons.1 hp).1 j List.mem_cons_self
  have h2:=(hm i List.mem_cons_self).symm.trans (hm j (List.mem_cons_of_mem _ List.mem_cons_self))
  have h3:=congrArg (fun t : Tm=>t.f0) h2
  have h4:=congrArg (fun t : Tm=>t.f1) h2
  simp only at h3 h4
  omega
theorem has_len (n : Nat) (l : List Rw) : (bt_pre (bt_has l) n).length ≤ l.length:=by
 induction l with
 | nil =>
  unfold bt_pre bt_has
  simp
 | cons x r ih =>
  have h1:=pre_one ⟨x.f2.f0,x.f2.f1⟩ n
  have h2:=filter_or (fun i : Nat=>bt_eq ⟨x.f2.f0,x.f2.f1⟩ ⟨((i / 8 : Nat) : Int),((i % 8 : Nat) : Int)⟩) (fun i : Nat=>bt_has r ⟨((i / 8 : Nat) : Int),((i % 8 : Nat) : Int)⟩) (List.range n)
  unfold bt_pre at *
  rw [List.length_map] at *
  have e : (fun i : Nat=>bt_has (x :: r) ⟨((i / 8 : Nat) : Int),((i % 8 : Nat) : Int)⟩) = fun i : Nat=>bt_eq ⟨x.f2.f0,x.f2.f1⟩ ⟨((i / 8 : Nat) : Int),((i % 8 : Nat) : Int)⟩ || bt_has r ⟨((i / 8 : Nat) : Int),((i % 8 : Nat) : Int)⟩:=rfl
  rw [e,List.length_cons]
  omega
theorem times_ok (l : List Rw) : ∀ t ∈ bt_timesL l,okT t.f0 t.f1 = true:=by
 intro t ht
 unfold bt_timesL bt_pre at ht
 obtain ⟨i,hi,rfl⟩:=List.mem_map.1 ht
 have:=List.mem_range.1 (List.mem_filter.1 hi).1
 exact decide_eq_true (by simp only;omega)
theorem times_mem {l : List Rw} {r : Rw} (hr : r ∈ l) (h : okT r.f2.f0 r.f2.f1 = true) : (⟨r.f2.f0,r.f2.f1⟩ : Tm) ∈ bt_timesL l:=by
 have h2:=okT_true h
 obtain ⟨a,ha⟩:=Int.eq_ofNat_of_zero_le h2.1
 obtain ⟨b,hb⟩:=Int.eq_ofNat_of_zero_le h2.2.2.1
 have e1 : (8 * a + b) / 8 = a:=by omega
 have e2 : (8 * a + b) % 8 = b:=by omega
 unfold bt_timesL bt_pre
 refine List.mem_map.2 ⟨8 * a + b,List.mem_filter.2 ⟨List.mem_range.2 (by omega),?_⟩,by rw [e1,e2,ha,hb]⟩
 rw [e1,e2]
 exact List.any_eq_true.2 ⟨r,hr,bt_eq_iff.2 (by rw [ha,hb])⟩
theorem not_covered {l : List Rw} (hok : ∀ x ∈ l,rowOk x = true) {a b : Int} (ht : okT a b = true) (h : coT (pFrontOf (bt_timesL l)) a b = false) : batchAt l a b = []:=by
 have e : rowsAt l a b = []:=by
  unfold rowsAt
  rw [List.filter_eq_nil_iff.2,List.map_nil]
  intro r hr hle
  have hT:=rowOk_time (hok r hr)
  obtain ⟨x,hx,h0,h1⟩:=(pF_stair (times_ok l)).dom _ (times_mem hr hT)
  have h2:=leT_true hle
  simp only at h0 h1
  rw [coT_mk (pF_ok _) ht hx (by omega) (by omega)] at h
  exact absurd h (by simp)
 unfold batchAt
 rw [e]
 split <;> rfl
theorem times_loop2 (a : List Rw) (ha : a.length ≤ 1000) (hok : rowsOk a = true) (d : Nat) : ∀ i : Nat,i + d = allT.length →
  Ev (fun k=>laws_FnBatchTimes.l0 k a (bt_timesL a) (pFrontOf (bt_timesL a)) allT (i : Int)) true:=by
 have hlen:=has_len 64 a
 have hpl : (pFrontOf (bt_timesL a)).length ≤ 8:=fOk_len (pF_ok _)
 induction d with
 | zero =>
  intro i hi
  refine Ev.step (fun k=>by rw [laws_FnBatchTimes.l0]) (Ev.congr (fun k=>if_neg (by omega)) ?_)
  rw [decide_eq_true (by unfold bt_timesL;omega)]
  exact Ev.now _
 | succ d ih =>
  intro i hi
  have h64:=allT_len
  have hm : rd_T36 allT (i : Int) ∈ allT:=by
   have:=rdT_drop (xs:=allT) (i:=i) (by omega)
   exact List.mem_of_mem_drop (this ▸ List.mem_cons_self)
  have nx:=ih (i + 1) (by omega)
  refine Ev.step (fun k=>by rw [laws_FnBatchTimes.l0]) (Ev.congr (fun k=>(if_pos (by omega)).trans (if_pos (by omega))) ?_)
  rw [up1 (by omega : i < allT.length) (by omega)]
  have hk:=allT_ok _ hm
  generalize rd_T36 allT (i : Int) = t at *
  have ht : okT t.f0 t.f1 = true:=decide_eq_true (by omega)
  refine Ev.bind (i_covers _ t.f0 t.f1 (by omega)) ?_
  cases hc : coT (pFrontOf (bt_timesL a)) t.f0 t.f1 with
  | true=>exact Ev.congr (fun k=>if_pos rfl) nx
  | false =>
   have e:=i_batchAt a t.f0 t.f1 (by omega)
   rw [not_covered (rowsOk_facts hok).2 ht hc] at e
   exact Ev.congr (fun k=>if_neg (by simp)) (Ev.bind e (Ev.congr (fun k=>if_neg (by simp)) nx))
theorem FnBatchTimes : laws_FnBatchTimes.Pure:=by
 intro l _ _ hb
 have hl : ∀ x ∈ l,0 ≤ x ∧ x ≤ 255:=fun x hx=>byte_wf (hb x hx)
 refine EvP.rounds ?_
 unfold laws_FnBatchTimes.f
 refine EvP.ite (fun _=>EvP.ret rfl) fun _=>EvP.bind (drawtimes_p l hl) fun a ha=>?_
 have hlen:=batchTimes_len a
 have ei:=i_batchtimes a (by omega)
 have es:=s_batchtimes a (by omega)
 refine EvP.bind (EvP.of_ev ei rfl) fun x hx=>?_
 subst hx
 refine EvP.bind (EvP.of_ev es rfl) fun x hx=>?_
 subst hx
 have el:=lwTimes_ev (batchTimes a) (batchTimes a) (by omega)
 rw [eqL_self] at el
 refine EvP.bind (EvP.of_ev el rfl) fun t ht=>?_
 subst ht
 refine EvP.pos rfl (EvP.bind (EvP.of_ev (s_rows a (by omega)) rfl) fun t ht=>?_)
 subst ht
 cases hok : rowsOk a with
 | false =>
  have out : EvP (fun k=>laws_FnBatchTimes.j0 k a (batchTimes a) true) (· = true):=by
   refine EvP.step (fun k=>by rw [laws_FnBatchTimes.j0]) (EvP.pos rfl (EvP.bind (EvP.of_ev es rfl) fun x hx=>?_))
   subst hx
   exact EvP.bind (EvP.of_ev el rfl) fun t ht=>EvP.ret ht.symm
  exact out
 | true =>
  have et : batchTimes a = bt_timesL a:=by
   unfold batchTimes
   rw [hok]
   rfl
  rw [et] at hlen ⊢
  refine EvP.step (fun k=>by rw [laws_FnBatchTimes.j0]) (EvP.neg (by simp) (EvP.let_ (i_frontof (bt_timesL a) (by omega)) (EvP.bind (EvP.of_ev lwAll_ev rfl) fun t ht=>?_)))
  subst ht
  exact EvP.of_ev (times_loop2 a (by omega) hok allT.length 0 (by omega)) rfl
end Go.Proofs.Ytpggfdjnebccnaa.Pure
