/- The plain law of FnExactBatchTimes. -/
import Derived.Test.YtpggfdjnebccnaaVFnExactBatchTimesx
namespace Go.Proofs.Ytpggfdjnebccnaa.Pure
open Go.RowKit Go.Proofs.Ytpggfdjnebccnaa.PFnExactBatchTimes Go.Proofs.YtpggfdjnebccnaaW.PrintWords Go.Proofs.YtpggfdjnebccnaaW.PrintLast Go.Proofs.Ytpggfdjnebccnaa.EvP
set_option linter.unusedVariables false
/-! what the functions on times say -/
def okT (a b : Int) : Bool:=decide (0 ≤ a ∧ a ≤ 7 ∧ 0 ≤ b ∧ b ≤ 7)
theorem s_ok (a b : Int) : spec_TimeOk.f a b = some (okT a b):=by
 unfold spec_TimeOk.f spec_l6In.f okT
 by_cases h0 : 0 ≤ a <;> by_cases h1 : a ≤ 7 <;> by_cases h2 : 0 ≤ b <;> by_cases h3 : b ≤ 7 <;> simp [h0,h1,h2,h3]

theorem b_ok (a b : Int) : bt_TimeOk.f a b = some (okT a b):=by
 unfold bt_TimeOk.f okT
 by_cases h0 : 0 ≤ a <;> by_cases h1 : a ≤ 7 <;> by_cases h2 : 0 ≤ b <;> by_cases h3 : b ≤ 7 <;> simp [h0,h1,h2,h3]

theorem up1 {i n : Nat} (h : i < n) (hn : n ≤ 4611686018427387904) : wrap64 ((i : Int) + 1) = ((i + 1 : Nat) : Int):=by
 rw [w64 (by omega) (by omega)];rfl

/-! lists of times -/
abbrev Tm:=S36
theorem rdT_drop {xs : List Tm} {i : Nat} (h : i < xs.length) : xs.drop i = rd_T36 xs (i : Int) :: xs.drop (i + 1):=by
 unfold rd_T36
 rw [List.drop_eq_getElem_cons h,List.getD_eq_getElem?_getD,Int.toNat_natCast,List.getElem?_eq_getElem h]
 rfl

/-! lists of rows -/
abbrev Rw:=S90
theorem rdR_drop {xs : List Rw} {i : Nat} (h : i < xs.length) : xs.drop i = rd_T90 xs (i : Int) :: xs.drop (i + 1):=by
 unfold rd_T90
 rw [List.drop_eq_getElem_cons h,List.getD_eq_getElem?_getD,Int.toNat_natCast,List.getElem?_eq_getElem h]
 rfl

theorem eqTimeS_loop (l : List Tm) (hl : l.length ≤ 1048576) (d : Nat) : ∀ i : Nat,i + d = l.length → Ev (fun k=>laws_eqTimeS.l0 k l l (i : Int)) true:=by
 induction d with
 | zero =>
  intro i hi
  refine Ev.step (fun k=>by rw [laws_eqTimeS.l0]) ?_
  exact Ev.congr (fun k=>if_neg (by omega)) (Ev.now _)
 | succ d ih =>
  intro i hi
  refine Ev.step (fun k=>by rw [laws_eqTimeS.l0]) ?_
  refine Ev.congr (fun k=>(if_pos (by omega)).trans ((if_pos (by omega)).trans (if_pos (by omega)))) ?_
  refine Ev.bind (a:=true) ⟨0,fun k _=>by simp [laws_eqTime.f]⟩ (Ev.congr (fun k=>if_pos rfl) ?_)
  rw [up1 (by omega : i < l.length) (by omega)]
  exact ih (i + 1) (by omega)
theorem eqTimeS_ev (l : List Tm) (hl : l.length ≤ 1048576) : Ev (fun k=>laws_eqTimeS.f k l l) true:=by
 unfold laws_eqTimeS.f
 exact Ev.congr (fun k=>if_pos rfl) (eqTimeS_loop l hl l.length 0 (by omega))

/-! the laws' own rows made into the program's -/
abbrev RwA:=S93
def cvR (x : RwA) : Rw:=⟨x.f0,x.f1,⟨x.f2.f0,x.f2.f1⟩,x.f3⟩
theorem rdB_drop {xs : List RwA} {i : Nat} (h : i < xs.length) : xs.drop i = rd_T93 xs (i : Int) :: xs.drop (i + 1):=by
 unfold rd_T93
 rw [List.drop_eq_getElem_cons h,List.getD_eq_getElem?_getD,Int.toNat_natCast,List.getElem?_eq_getElem h]
 rfl
theorem toRowS_loop (l : List RwA) (hl : l.length ≤ 1048576) (d : Nat) : ∀ (i : Nat) (out : List Rw),i + d = l.length → out.length = l.length →
  Ev (fun k=>laws_toRowS.l0 k l out (i : Int)) (out.take i ++ (l.drop i).map cvR):=by
 induction d with
 | zero =>
  intro i out hi ho
  refine Ev.step (fun k=>by rw [laws_toRowS.l0]) ?_
  refine Ev.congr (fun k=>if_neg (by omega)) ?_
  rw [List.take_of_length_le (by omega),List.drop_eq_nil_of_le (by omega)]
  simpa using Ev.now out
 | succ d ih =>
  intro i out hi ho
  have hlt : i < l.length:=by omega
  refine Ev.step (fun k=>by rw [laws_toRowS.l0]) ?_
  refine Ev.congr (fun k=>(if_pos (by omega)).trans (if_pos (by omega))) ?_
  refine Ev.bind (Ev.now _) ?_
  refine Ev.congr (fun k=>if_pos (by omega)) ?_
  rw [up1 hlt (by omega)]
  have:=ih (i + 1) (out.set i (cvR (rd_T93 l (i : Int)))) (by omega) (by simpa using ho)
  rw [List.take_succ_eq_append_getElem (by simp;omega),List.getElem_set_self,List.take_set_of_le (by omega)] at this
  rw [rdB_drop hlt,List.map_cons]
  simpa [cvR] using this
theorem toRowS_ev (l : List RwA) (hl : l.length ≤ 1048576) : Ev (fun k=>laws_toRowS.f k l) (l.map cvR):=by
 unfold laws_toRowS.f
 refine Ev.congr (fun k=>(if_pos (by omega)).trans (if_pos (by omega))) ?_
 simpa using toRowS_loop l hl l.length 0 (List.replicate ((l.length : Int)).toNat z90) (by omega) (by simp)
theorem eqRowS_loop (l : List Rw) (hl : l.length ≤ 1048576) (d : Nat) : ∀ i : Nat,i + d = l.length → Ev (fun k=>laws_eqRowS.l0 k l l (i : Int)) true:=by
 induction d with
 | zero =>
  intro i hi
  refine Ev.step (fun k=>by rw [laws_eqRowS.l0]) ?_
  exact Ev.congr (fun k=>if_neg (by omega)) (Ev.now _)
 | succ d ih =>
  intro i hi
  refine Ev.step (fun k=>by rw [laws_eqRowS.l0]) ?_
  refine Ev.congr (fun k=>(if_pos (by omega)).trans ((if_pos (by omega)).trans (if_pos (by omega)))) ?_
  refine Ev.bind (a:=true) ⟨0,fun k _=>by simp [laws_eqRow.f,laws_eqTime.f]⟩ (Ev.congr (fun k=>if_pos rfl) ?_)
  rw [up1 (by omega : i < l.length) (by omega)]
  exact ih (i + 1) (by omega)
theorem eqRowS_ev (l : List Rw) (hl : l.length ≤ 1048576) : Ev (fun k=>laws_eqRowS.f k l l) true:=by
 unfold laws_eqRowS.f
 exact Ev.congr (fun k=>if_pos rfl) (eqRowS_loop l hl l.length 0 (by omega))
theorem szRowS_big (l : List RwA) (a : Int) (hm : l.length ≤ maxLen) (h0 : 0 ≤ a) (h : a < l.length) : laws_szRowS.f l a = some (-1):=by
 unfold maxLen at hm
 unfold laws_szRowS.f
 rw [w64 (by omega) (by omega),if_pos (by omega)]
theorem szRowS_small (l : List RwA) (a : Int) (ha : a ≤ 1048576) (h : (l.length : Int) ≤ a) : laws_szRowS.f l a = some (a - (l.length : Int)):=by
 unfold laws_szRowS.f
 rw [w64 (by omega) (by omega),if_neg (by omega)]

/-! marks on times -/
def numsT (a : Int) : Nat → List Tm
 | 0=>[]
 | n + 1=>⟨a,a + 1⟩ :: numsT (a + 2) n
theorem rdT_set {l : List Tm} {i : Nat} (h : i < l.length) (v : Tm) : rd_T36 (l.set i v) (i : Int) = v:=by
 unfold rd_T36
 rw [List.getD_eq_getElem?_getD,Int.toNat_natCast,List.getElem?_set_self h]
 rfl
theorem markT_loop (d : Nat) : ∀ (l : List Tm) (i : Nat) (a : Int),i + d = l.length → l.length ≤ 1048576 → 0 ≤ a → a + 2 * d ≤ 100000000 →
  Ev (fun k=>laws_markTimeS.l0 k l a (i : Int)) (a + 2 * (d : Int),l.take i ++ numsT a d):=by
 induction d with
 | zero =>
  intro l i a hi _ _ _
  refine Ev.step (fun k=>by rw [laws_markTimeS.l0]) (Ev.congr (fun k=>if_neg (by omega)) ?_)
  rw [List.take_of_length_le (by omega)]
  simpa [numsT] using Ev.now (a,l)
 | succ d ih =>
  intro l i a hi hl h0 h1
  have hlt : i < l.length:=by omega
  refine Ev.step (fun k=>by rw [laws_markTimeS.l0]) (Ev.congr (fun k=>(if_pos (by omega)).trans (if_pos (by omega))) ?_)
  refine Ev.bind (Ev.now _) ?_
  have e1 : wrap64 (a + 1) = a + 1:=w64 (by omega) (by omega)
  have e2 : wrap64 (a + 1 + 1) = a + 2:=by rw [w64 (by omega) (by omega)];omega
  simp only [e1,e2,up1 hlt (by omega : l.length ≤ 4611686018427387904),Int.toNat_natCast,rdT_set hlt,List.set_set]
  have:=ih (l.set i ⟨a,a + 1⟩) (i + 1) (a + 2) (by simp;omega) (by simpa using hl) (by omega) (by omega)
  rw [List.take_succ_eq_append_getElem (by simpa using hlt),List.getElem_set_self,List.take_set_of_le (by omega)] at this
  have e4 : a + 2 + 2 * (d : Int) = a + 2 * ((d + 1 : Nat) : Int):=by omega
  rw [e4] at this
  simpa [numsT] using this
theorem markT_at (l : List Tm) (hl : l.length ≤ 1048576) (a : Int) (h0 : 0 ≤ a) (h1 : a ≤ 10000000) : Ev (fun k=>laws_markTimeS.f k l a) (a + 2 * (l.length : Int),numsT a l.length):=by
 unfold laws_markTimeS.f
 simpa using markT_loop l.length l 0 a (by omega) hl h0 (by omega)
theorem markT_ev (l : List Tm) (hl : l.length ≤ 1048576) : Ev (fun k=>laws_markTimeS.f k l 1) (1 + 2 * (l.length : Int),numsT 1 l.length):=markT_at l hl 1 (by omega) (by omega)
theorem numsT_len (n : Nat) : ∀ a,(numsT a n).length = n:=by
 induction n with
 | zero=>intro a;rfl
 | succ n ih=>intro a;simp [numsT,ih]
theorem heldT_loop (d : Nat) : ∀ (l : List Tm) (i : Nat) (a : Int),i + d = l.length → l.length ≤ 1048576 → 0 ≤ a → a + 2 * d ≤ 100000000 → l.drop i = numsT a d →
  Ev (fun k=>laws_heldTimeS.l0 k l a (i : Int)) (a + 2 * (d : Int)):=by
 induction d with
 | zero =>
  intro l i a hi _ _ _ _
  refine Ev.step (fun k=>by rw [laws_heldTimeS.l0]) (Ev.congr (fun k=>if_neg (by omega)) ?_)
  simpa using Ev.now a
 | succ d ih =>
  intro l i a hi hl h0 h1 hd
  have hlt : i < l.length:=by omega
  rw [rdT_drop hlt] at hd
  obtain ⟨hx,hr⟩:=List.cons.inj hd
  refine Ev.step (fun k=>by rw [laws_heldTimeS.l0]) (Ev.congr (fun k=>(if_pos (by omega)).trans (if_pos (by omega))) ?_)
  have e1 : wrap64 (a + 1) = a + 1:=w64 (by omega) (by omega)
  have e2 : wrap64 (a + 1 + 1) = a + 2:=by rw [w64 (by omega) (by omega)];omega
  rw [e1,e2,up1 hlt (by omega),hx]
  have:=ih l (i + 1) (a + 2) (by omega) hl (by omega) (by omega) hr
  have e4 : a + 2 + 2 * (d : Int) = a + 2 * ((d + 1 : Nat) : Int):=by omega
  rw [e4] at this
  exact Ev.congr (fun k=>(if_pos rfl).trans (if_pos rfl)) this
theorem heldT_ev (n : Nat) (hn : n ≤ 1048576) : Ev (fun k=>laws_heldTimeS.f k (numsT 1 n) 1) (1 + 2 * (n : Int)):=by
 unfold laws_heldTimeS.f
 have:=heldT_loop n (numsT 1 n) 0 1 (by rw [numsT_len];omega) (by rw [numsT_len];omega) (by omega) (by omega) (by simp)
 simpa using this

theorem s_in (a b c : Int) : spec_l6In.f a b c = some (decide (b ≤ a ∧ a ≤ c)):=by
 unfold spec_l6In.f
 by_cases h0 : b ≤ a <;> by_cases h1 : a ≤ c <;> simp [h0,h1]

def rowOk (r : Rw) : Bool:=decide (0 ≤ r.f0 ∧ r.f0 ≤ 3) && (decide (0 ≤ r.f1 ∧ r.f1 ≤ 99) && (okT r.f2.f0 r.f2.f1 && decide (-99999 ≤ r.f3 ∧ r.f3 ≤ 99999)))
def rowsOk (l : List Rw) : Bool:=decide (l.length ≤ 400) && l.all rowOk
theorem s_l2Row (r : Rw) : spec_l2Row.f r.f0 r.f1 r.f2.f0 r.f2.f1 r.f3 = some (rowOk r):=by
 unfold spec_l2Row.f rowOk
 simp only [s_in,s_ok,Option.bind_some]
 cases decide (0 ≤ r.f0 ∧ r.f0 ≤ 3) <;> cases decide (0 ≤ r.f1 ∧ r.f1 ≤ 99) <;> cases okT r.f2.f0 r.f2.f1 <;> rfl
theorem s_rows_loop (l : List Rw) (hl : l.length ≤ 1048576) (d : Nat) : ∀ i : Nat,i + d = l.length → Ev (fun k=>spec_RowsOk.l0 k l (i : Int)) ((l.drop i).all rowOk):=by
 induction d with
 | zero =>
  intro i hi
  rw [List.drop_eq_nil_of_le (by omega)]
  refine Ev.step (fun k=>by rw [spec_RowsOk.l0]) ?_
  exact Ev.congr (fun k=>if_neg (by omega)) (Ev.now _)
 | succ d ih =>
  intro i hi
  refine Ev.step (fun k=>by rw [spec_RowsOk.l0]) ?_
  refine Ev.congr (fun k=>(if_pos (by omega)).trans (if_pos (by omega))) ?_
  refine Ev.bind ⟨0,fun k _=>s_l2Row _⟩ ?_
  rw [rdR_drop (by omega : i < l.length),List.all_cons]
  cases rowOk (rd_T90 l (i : Int)) with
  | false=>exact Ev.now _
  | true =>
   refine Ev.congr (fun k=>if_pos rfl) ?_
   rw [up1 (by omega : i < l.length) (by omega)]
   exact ih (i + 1) (by omega)
theorem s_rows (l : List Rw) (hl : l.length ≤ 1048576) : Ev (fun k=>spec_RowsOk.f k l) (rowsOk l):=by
 unfold spec_RowsOk.f rowsOk
 by_cases h : l.length ≤ 400
 ·rw [decide_eq_true h]
  exact Ev.congr (fun k=>if_neg (by omega)) (by simpa using s_rows_loop l hl l.length 0 (by omega))
 ·rw [decide_eq_false h]
  exact Ev.congr (fun k=>if_pos (by omega)) (Ev.now _)

theorem b_rows_loop (l : List Rw) (hl : l.length ≤ 1048576) (d : Nat) : ∀ i : Nat,i + d = l.length → Ev (fun k=>bt_RowsOk.l0 k l l (l.length : Int) (i : Int)) (((l.drop i).all rowOk) && decide (l.length ≤ 400)):=by
 induction d with
 | zero =>
  intro i hi
  rw [List.drop_eq_nil_of_le (by omega)]
  refine Ev.step (fun k=>by rw [bt_RowsOk.l0]) ?_
  refine Ev.congr (fun k=>if_neg (by omega)) ?_
  have : decide ((l.length : Int) ≤ 400) = decide (l.length ≤ 400):=by rw [decide_eq_decide];omega
  rw [this]
  exact Ev.now _
 | succ d ih =>
  intro i hi
  refine Ev.step (fun k=>by rw [bt_RowsOk.l0]) ?_
  refine Ev.congr (fun k=>(if_pos (by omega)).trans ((if_pos (by omega)).trans (if_pos (by omega)))) ?_
  rw [rdR_drop (by omega : i < l.length),List.all_cons,up1 (by omega : i < l.length) (by omega)]
  generalize rd_T90 l (i : Int) = r
  have no : rowOk r = false → Ev (fun _ : Nat=>some false) ((rowOk r && ((l.drop (i + 1)).all rowOk)) && decide (l.length ≤ 400)):=fun h=>by rw [h];exact Ev.now _
  by_cases c0 : r.f0 < 0
  ·exact Ev.congr (fun k=>if_pos c0) (no (by simp [rowOk];omega))
  refine Ev.congr (fun k=>if_neg c0) ?_
  by_cases c1 : r.f0 ≥ 4
  ·exact Ev.congr (fun k=>if_pos c1) (no (by simp [rowOk];omega))
  refine Ev.congr (fun k=>if_neg c1) ?_
  by_cases c2 : r.f1 < 0
  ·exact Ev.congr (fun k=>if_pos c2) (no (by simp [rowOk];omega))
  refine Ev.congr (fun k=>if_neg c2) ?_
  by_cases c3 : r.f1 ≥ 100
  ·exact Ev.congr (fun k=>if_pos c3) (no (by simp [rowOk];omega))
  refine Ev.congr (fun k=>if_neg c3) (Ev.bind ⟨0,fun k _=>b_ok _ _⟩ ?_)
  cases c4 : okT r.f2.f0 r.f2.f1 with
  | false=>exact Ev.congr (fun k=>if_neg (by simp)) (no (by simp [rowOk,c4]))
  | true =>
   refine Ev.congr (fun k=>if_pos rfl) ?_
   by_cases c5 : r.f3 < -99999
   ·exact Ev.congr (fun k=>if_pos c5) (no (by simp [rowOk];omega))
   refine Ev.congr (fun k=>if_neg c5) ?_
   by_cases c6 : r.f3 > 99999
   ·exact Ev.congr (fun k=>if_pos c6) (no (by simp [rowOk];omega))
   refine Ev.congr (fun k=>if_neg c6) ?_
   have : rowOk r = true:=by simp only [rowOk,c4,Bool.and_eq_true,decide_eq_true_eq,true_and];omega
   rw [this,Bool.true_and]
   exact ih (i + 1) (by omega)
theorem b_rows (l : List Rw) (hl : l.length ≤ 1048576) : Ev (fun k=>bt_RowsOk.f k l) (rowsOk l):=by
 unfold bt_RowsOk.f rowsOk
 rw [Bool.and_comm]
 simpa using b_rows_loop l hl l.length 0 (by omega)

theorem rowsOk_facts {l : List Rw} (h : rowsOk l = true) : l.length ≤ 400 ∧ ∀ x ∈ l,rowOk x = true:=by
 unfold rowsOk at h
 simp only [Bool.and_eq_true,decide_eq_true_eq] at h
 exact ⟨h.1,List.all_eq_true.1 h.2⟩

/-! BatchTimes -/
def batchTimes (l : List Rw) : List Tm:=if rowsOk l then bt_timesL l else []
theorem bt_len (l : List Rw) : (bt_timesL l).length ≤ 64:=bt_pre_len _ _
theorem batchTimes_len (l : List Rw) : (batchTimes l).length ≤ 64:=by
 unfold batchTimes
 split
 ·exact bt_len l
 ·simp
theorem i_batchtimes (l : List Rw) (hl : l.length ≤ 1048576) : Ev (fun k=>impl_BatchTimes.f k l) (batchTimes l):=by
 unfold impl_BatchTimes.f batchTimes
 refine Ev.bind (b_rows l hl) ?_
 cases h : rowsOk l with
 | false=>exact Ev.congr (fun k=>if_neg (by simp)) (Ev.now _)
 | true =>
  obtain ⟨h1,g1⟩:=rowsOk_facts h
  refine Ev.congr (fun k=>(if_pos rfl).trans (if_pos ⟨by omega,List.all_eq_true.2 fun x hx=>?_⟩)) (Ev.now _)
  have:=g1 x hx
  simp only [rowOk,okT,Bool.and_eq_true,decide_eq_true_eq] at this
  simp only [bt_okR,bt_ok,Bool.and_eq_true,bt_wf64_iff]
  omega
theorem bt_l2 (l out : List Rw) (o : List Tm) (a b : Int) (R : List Tm) (hl : l.length ≤ 1048576) (ho : o.length ≤ 1000) (d : Nat) : ∀ j : Nat,j + d = l.length →
  Ev (fun k=>spec_BatchTimes.l1 k l (o ++ (if bt_has (l.drop j) ⟨a,b⟩ = true then [⟨a,b⟩] else [])) a (wrap64 (b + 1))) R → Ev (fun k=>spec_BatchTimes.l2 k l o a b (j : Int) a b) R:=by
 induction d with
 | zero =>
  intro j hj hk
  rw [List.drop_eq_nil_of_le (by omega)] at hk
  refine Ev.step (fun k=>by rw [spec_BatchTimes.l2]) (Ev.congr (fun k=>if_neg (by omega)) ?_)
  simpa [bt_has] using hk
 | succ d ih =>
  intro j hj hk
  refine Ev.step (fun k=>by rw [spec_BatchTimes.l2]) (Ev.congr (fun k=>(if_pos (by omega)).trans (if_pos (by omega))) ?_)
  rw [rdR_drop (by omega : j < l.length)] at hk
  rw [up1 (by omega : j < l.length) (by omega)]
  generalize rd_T90 l (j : Int) = r at *
  have e : bt_has (r :: l.drop (j + 1)) ⟨a,b⟩ = ((r.f2.f0 == a && r.f2.f1 == b) || bt_has (l.drop (j + 1)) ⟨a,b⟩):=rfl
  rw [e] at hk
  cases h : (r.f2.f0 == a && r.f2.f1 == b) with
  | true =>
   rw [h,Bool.true_or,if_pos rfl] at hk
   exact Ev.congr (fun k=>(if_pos rfl).trans (if_pos (by omega))) hk
  | false =>
   rw [h,Bool.false_or] at hk
   exact Ev.congr (fun k=>if_neg (by simp)) (ih (j + 1) (by omega) hk)
theorem bt_l1 (l : List Rw) (a : Nat) (ha : a < 8) (R : List Tm) (hl : l.length ≤ 1048576) (hk : Ev (fun k=>spec_BatchTimes.l0 k l (bt_pre (bt_has l) (8 * (a + 1))) ((a + 1 : Nat) : Int)) R) (d : Nat) : ∀ b : Nat,b + d = 8 →
  Ev (fun k=>spec_BatchTimes.l1 k l (bt_pre (bt_has l) (8 * a + b)) (a : Int) (b : Int)) R:=by
 induction d with
 | zero =>
  intro b hb
  obtain rfl : b = 8:=by omega
  refine Ev.step (fun k=>by rw [spec_BatchTimes.l1]) (Ev.congr (fun k=>if_neg (by omega)) ?_)
  rw [w64 (by omega) (by omega)]
  exact hk
 | succ d ih =>
  intro b hb
  have hlen:=bt_pre_len (bt_has l) (8 * a + b)
  refine Ev.step (fun k=>by rw [spec_BatchTimes.l1]) (Ev.congr (fun k=>if_pos (by omega)) ?_)
  refine bt_l2 l l _ (a : Int) (b : Int) R hl (by omega) l.length 0 (by omega) ?_
  rw [List.drop_zero,← bt_pre_succ (bt_has l) a b (by omega),w64 (by omega) (by omega)]
  exact ih (b + 1) (by omega)
theorem bt_l0 (l : List Rw) (hl : l.length ≤ 1048576) (hok : rowsOk l = true) (d : Nat) : ∀ a : Nat,a + d = 8 → Ev (fun k=>spec_BatchTimes.l0 k l (bt_pre (bt_has l) (8 * a)) (a : Int)) (bt_timesL l):=by
 induction d with
 | zero =>
  intro a ha
  obtain rfl : a = 8:=by omega
  refine Ev.step (fun k=>by rw [spec_BatchTimes.l0]) (Ev.congr (fun k=>if_neg (by omega)) ?_)
  refine Ev.step (fun k=>by rw [spec_BatchTimes.j1]) (Ev.congr (fun k=>if_neg (by simp)) ?_)
  exact Ev.now _
 | succ d ih =>
  intro a ha
  refine Ev.step (fun k=>by rw [spec_BatchTimes.l0]) (Ev.congr (fun k=>if_pos (by omega)) (Ev.bind (s_rows l hl) ?_))
  rw [hok]
  refine Ev.step (fun k=>by rw [spec_BatchTimes.j1]) (Ev.congr (fun k=>if_pos rfl) ?_)
  exact bt_l1 l a (by omega) _ hl (ih (a + 1) (by omega)) 8 0 (by omega)
theorem s_batchtimes (l : List Rw) (hl : l.length ≤ 1048576) : Ev (fun k=>spec_BatchTimes.f k l) (batchTimes l):=by
 unfold spec_BatchTimes.f batchTimes
 cases hok : rowsOk l with
 | true=>exact bt_l0 l hl hok 8 0 (by omega)
 | false =>
  refine Ev.step (fun k=>by rw [spec_BatchTimes.l0]) (Ev.congr (fun k=>if_pos (by omega)) (Ev.bind (s_rows l hl) ?_))
  rw [hok]
  refine Ev.step (fun k=>by rw [spec_BatchTimes.j1]) (Ev.congr (fun k=>if_neg (by simp)) ?_)
  exact Ev.now _

theorem markR1 (l : List Rw) (hl : l.length ≤ 1048576) : laws_markRowS.f l 1 = some (1 + 5 * (l.length : Int),nums90 1 l.length):=by
 unfold laws_markRowS.f
 rw [if_pos ⟨by omega,by omega,by omega⟩]
theorem FnExactBatchTimes (l : List RwA) (hm : l.length ≤ maxLen) {P : Prop} (_ : P) : ∃ k,laws_FnExactBatchTimes.f k l = some true:=by
 refine Ev.rounds ?_
 unfold laws_FnExactBatchTimes.f
 by_cases h : 1048576 < l.length
 ·exact Ev.bind ⟨0,fun k _=>szRowS_big l 1048576 hm (by omega) (by omega)⟩ (Ev.congr (fun k=>if_pos (by omega)) (Ev.now _))
 have hl : l.length ≤ 1048576:=by omega
 have hc : (l.map cvR).length ≤ 1048576:=by simpa using hl
 refine Ev.bind ⟨0,fun k _=>szRowS_small l 1048576 (by omega) (by omega)⟩ (Ev.congr (fun k=>if_neg (by omega)) ?_)
 have es:=s_batchtimes (l.map cvR) hc
 have ei:=i_batchtimes (l.map cvR) hc
 have hr:=batchTimes_len (l.map cvR)
 generalize batchTimes (l.map cvR) = r at *
 have m1:=fun k : Nat=>markR1 (l.map cvR) hc
 refine Ev.bind (toRowS_ev l hl) (Ev.bind es (Ev.bind (toRowS_ev l hl) (Ev.bind ei (Ev.bind (eqTimeS_ev _ (by omega)) (Ev.congr (fun k=>if_pos rfl) ?_)))))
 refine Ev.bind (toRowS_ev l hl) (Ev.bind (eqRowS_ev _ hc) (Ev.congr (fun k=>if_pos rfl) ?_))
 refine Ev.bind ⟨0,fun k _=>m1 k⟩ (Ev.congr (fun k=>if_neg (by simp only;omega)) (Ev.bind (eqTimeS_ev _ (by omega)) ?_))
 refine Ev.step (fun k=>by rw [laws_FnExactBatchTimes.j0]) (Ev.congr (fun k=>if_neg (by simp)) ?_)
 refine Ev.bind (markT_ev _ (by omega)) (Ev.bind (heldT_ev _ (by omega)) (Ev.congr (fun k=>(if_neg (by omega)).trans (if_pos rfl)) ?_))
 exact Ev.bind (toRowS_ev l hl) (Ev.bind ei (Ev.bind (eqTimeS_ev _ (by omega)) (Ev.congr (fun k=>if_pos rfl) (Ev.bind (heldT_ev _ (by omega)) (Ev.congr (fun k=>(if_neg (by omega)).trans (if_pos rfl)) (Ev.now _))))))
end Go.Proofs.Ytpggfdjnebccnaa.Pure
