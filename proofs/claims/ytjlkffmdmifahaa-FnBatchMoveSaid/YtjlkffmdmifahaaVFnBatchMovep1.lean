/- Functions that the law comes to: each as a plain Lean function, with the contract of the Go function. -/
import Derived.Test.YtjlkffmdmifahaaVFnBatchMovew
import Derived.Test.YtjlkffmdmifahaaVFnBatchMovep0
namespace Go.Proofs.Ytjlkffmdmifahaa.PFnBatchMove
open Go.RowKit Go.Proofs.YtjlkffmdmifahaaW.PrintWords Go.Proofs.YtjlkffmdmifahaaW.PrintLast Go.Proofs.YtjlkffmdmifahaaW.PrintMore
attribute [local go_sem] max2_int min2_int max_two min_two max_three min_three max_four min_four
set_option linter.unusedVariables false
set_option linter.unusedSimpArgs false
attribute [local go_sem high] eqA36 eqA38 eqA83
def spec_l6Open.f (l0 : List Int) : Option (List Int × Int) := if (l0.length : Int) > 2000 then (if 2000 ≤ (l0.length : Int) then (some (l0.take 2000, 0)) else (none)) else (some (l0, 0))
set_option maxHeartbeats 8000000 in
set_option maxRecDepth 100000 in
theorem spec_l6Open.calls (A0 : Option Addr) (c0 : Nat) (l0 : List Int) (r1 : List Int) (r2 : Int) (w0 w : World) (hB : Below w0.heap.size w0 w) (hr0 : Kd.C (Kd.int .u8) w0 A0 l0.length l0) (hc0 : l0.length ≤ c0) (h : spec_l6Open.f l0 = some (r1,r2)) :
  Calls Try.prog 50 #[.slice A0 l0.length c0] w fun e w'=>∃ g_ : Nat,e = .returned (.pointer (some ⟨g_,0,none⟩)) ∧ IsS87 w0 w' g_ r1 r2 ∧ Below w0.heap.size w0 w' ∧ Below w.heap.size w w':=by
 have hu87:=Try.underlying87
 have HR0:=Aside0.mk hr0
 have HC0:=Aside0.mk hc0
 clear hr0 hc0
 have HBW:=am (Below.refl w.heap.size w)
 have HW0:=Aside0.mk hB.size
 have HB:=Aside0.mk hB
 clear hB
 have H : (if (l0.length : Int) > 2000 then (if 2000 ≤ (l0.length : Int) then (some (l0.take 2000,0)) else (none)) else (some (l0,0))) = some (r1,r2):=h
 clear h
 by_cases c2 : (l0.length : Int) > 2000
 ·rw [if_pos c2] at H
  have c2b0 : decide (2000 < (l0.length : Int)) = true:=decide_eq_true c2
  have c2b1 : decide (2000 < l0.length) = true:=decide_eq_true (by omega)
  clear c2
  have c3 : 2000 ≤ (l0.length : Int):=nn_ H
  rw [if_pos c3] at H
  have c3b0:=eq_true c3
  have c3b1 : decide (2000 ≤ (l0.length : Int)) = true:=decide_eq_true c3
  clear c3
  simp only [Option.some.injEq,Prod.mk.injEq] at H
  obtain ⟨rfl,rfl⟩:=H
  obtain ⟨i04,hi04,_,hsz4,_⟩:=info_parts info5
  obtain ⟨hcut4,hA4,hC4⟩:=print_take_of (P:=Try.prog) (Value.int .u8) 0 22 5 .i64 Try.underlying22 hi04 hsz4 A0 c0 l0 2000 (by omega) (of_decide_eq_true Q8) HC0.out
  have HR101:=am (Kd.C_of_reads (h1:=fun _=>rfl) (hA4 _ (Kd.reads_of_C HR0.out)))
  have HC101:=Aside0.mk hC4
  clear hA4 hC4 hi04 hsz4
  go_enter Try.func50,Try.ntmps50
  go_wp2_with (first|((with_reducible refine gate_dst (N:=10) rfl ?_);refine bE_ 10 #[.slice A0 (l0.take 2000).length c0,.int .i64 0] 87 ?_;intro gb102 hg w5 hbox hb;replace HB:=am (below_step Q80 hb);have BK102:=am (hbox);have GW102:=am ((by rw [hg];exact (below_size Q81) : w.heap.size ≤ gb102));have GE102:=am ((Nat.le_trans HW0.out (by rw [hg];exact (below_size Q81) : w.heap.size ≤ gb102) : w0.heap.size ≤ gb102));replace HBW:=am (below_step HBW.out hb);clear hb hbox hg))
  go_ret
  exact ⟨_,rfl,(show IsS87 w0 _ gb102 (l0.take 2000) 0 from ⟨_,_,by (with_reducible repeat (first|refine blk_drewN ?_ _|refine blk_drew ?_|refine blk_alloc ?_ _));exact BK102.out,GE102.out,HR101.out⟩),by repeat (first|(with_reducible first|exact HB.out|apply below_alloc|apply pw_below_drewN|apply below_drew1|refine below_set ?_ GE102.out)|exact HB.out),by repeat (first|(with_reducible first|exact HBW.out|apply below_alloc|apply pw_below_drewN|apply below_drew1|refine below_set ?_ GW102.out)|exact HBW.out)⟩
 ·rw [if_neg c2] at H
  have c2b0 : decide (2000 < (l0.length : Int)) = false:=decide_eq_false c2
  have c2b1 : decide (2000 < l0.length) = false:=decide_eq_false (by omega)
  clear c2
  simp only [Option.some.injEq,Prod.mk.injEq] at H
  obtain ⟨rfl,rfl⟩:=H
  go_enter Try.func50,Try.ntmps50
  go_wp2_with (first|((with_reducible refine gate_dst (N:=10) rfl ?_);refine bE_ 10 #[.slice A0 l0.length c0,.int .i64 0] 87 ?_;intro gb103 hg w6 hbox hb;replace HB:=am (below_step Q80 hb);have BK103:=am (hbox);have GW103:=am ((by rw [hg];exact (below_size Q81) : w.heap.size ≤ gb103));have GE103:=am ((Nat.le_trans HW0.out (by rw [hg];exact (below_size Q81) : w.heap.size ≤ gb103) : w0.heap.size ≤ gb103));replace HBW:=am (below_step HBW.out hb);clear hb hbox hg))
  go_ret
  exact ⟨_,rfl,(show IsS87 w0 _ gb103 l0 0 from ⟨_,_,by (with_reducible repeat (first|refine blk_drewN ?_ _|refine blk_drew ?_|refine blk_alloc ?_ _));exact BK103.out,GE103.out,HR0.out⟩),by repeat (first|(with_reducible first|exact HB.out|apply below_alloc|apply pw_below_drewN|apply below_drew1|refine below_set ?_ GE103.out)|exact HB.out),by repeat (first|(with_reducible first|exact HBW.out|apply below_alloc|apply pw_below_drewN|apply below_drew1|refine below_set ?_ GW103.out)|exact HBW.out)⟩
def spec_l6Rd_pick.j0 : Nat → Int → Bool → List Int → Int → Option (Int × Int)
 | 0, _, _, _, _ => none
 | k + 1, x1, x24, x1000, x1001 => if x24 = true then (some (0, x1001)) else (if (wrap64 (x1001 - 1)) < (x1000.length : Int) then (if 0 ≤ (wrap64 (x1001 - 1)) then (if x1 = 0 then (none) else (some (Int.tmod (wrap64 (rd x1000 (wrap64 (x1001 - 1)))) x1, x1001))) else (none)) else (if (x1000.length : Int) = 0 then (none) else (if 0 ≤ (Int.tmod (wrap64 (x1001 - 1)) (x1000.length : Int)) then (if (Int.tmod (wrap64 (x1001 - 1)) (x1000.length : Int)) < (x1000.length : Int) then (if 0 ≤ (Int.tmod (wrap64 ((wrap64 ((wrap64 (x1001 - 1)) * 7)) + 3)) (x1000.length : Int)) then (if (Int.tmod (wrap64 ((wrap64 ((wrap64 (x1001 - 1)) * 7)) + 3)) (x1000.length : Int)) < (x1000.length : Int) then (if x1 = 0 then (none) else (some (Int.tmod (Go.bits .xor .i64 (wrap64 ((wrap64 ((wrap64 ((wrap64 ((wrap64 (rd x1000 (Int.tmod (wrap64 (x1001 - 1)) (x1000.length : Int)))) * 131)) + (wrap64 ((wrap64 (rd x1000 (Int.tmod (wrap64 ((wrap64 ((wrap64 (x1001 - 1)) * 7)) + 3)) (x1000.length : Int)))) * 1117)))) + (wrap64 ((wrap64 (x1001 - 1)) * 29)))) + (wrap64 ((wrap64 (Int.tdiv (wrap64 (x1001 - 1)) (x1000.length : Int))) * 53)))) (wrap64 (Int.tdiv (wrap64 ((wrap64 ((wrap64 ((wrap64 ((wrap64 (rd x1000 (Int.tmod (wrap64 (x1001 - 1)) (x1000.length : Int)))) * 131)) + (wrap64 ((wrap64 (rd x1000 (Int.tmod (wrap64 ((wrap64 ((wrap64 (x1001 - 1)) * 7)) + 3)) (x1000.length : Int)))) * 1117)))) + (wrap64 ((wrap64 (x1001 - 1)) * 29)))) + (wrap64 ((wrap64 (Int.tdiv (wrap64 (x1001 - 1)) (x1000.length : Int))) * 53)))) 64))) x1, x1001))) else (none)) else (none)) else (none)) else (none))))
def spec_l6Rd_pick.f (k : Nat) (s0_0 : List Int) (s0_1 : Int) (a1 : Int) : Option (Int × Int) := if a1 < 1 then (spec_l6Rd_pick.j0 k a1 true s0_0 (wrap64 (s0_1 + 1))) else (spec_l6Rd_pick.j0 k a1 ((s0_0.length : Int) == 0) s0_0 (wrap64 (s0_1 + 1)))
theorem spec_l6Rd_pick.mono_l : ∀ k,(∀ y0 y1 y2 y3,LeO (spec_l6Rd_pick.j0 k y0 y1 y2 y3) (spec_l6Rd_pick.j0 (k + 1) y0 y1 y2 y3))
 | 0=>fun _ _ _ _ r h=>by simp [spec_l6Rd_pick.j0] at h
 | k + 1=>by
  have ih0:=spec_l6Rd_pick.mono_l k
  ·intro y0 y1 y2 y3
   unfold spec_l6Rd_pick.j0
   repeat' first
   | (with_reducible exact ih0 _ _ _ _)
   | (with_reducible exact LeO.refl _)
   | (with_reducible exact LeO.none _)
   | (with_reducible refine LeO.ite ?_ ?_)
   | (with_reducible refine LeO.bind ?_ (fun _=>?_))
   | exact ih0 _ _ _ _
   | exact LeO.none _
   | refine LeO.ite ?_ ?_
   | refine LeO.bind ?_ (fun _=>?_)
theorem spec_l6Rd_pick.mono : ∀ a0 a1 a2 k,LeO (spec_l6Rd_pick.f k a0 a1 a2) (spec_l6Rd_pick.f (k + 1) a0 a1 a2):=by
 intro a0 a1 a2 k
 have ih0:=spec_l6Rd_pick.mono_l k
 unfold spec_l6Rd_pick.f
 repeat' first
   | (with_reducible exact ih0 _ _ _ _)
   | (with_reducible exact LeO.refl _)
   | (with_reducible exact LeO.none _)
   | (with_reducible refine LeO.ite ?_ ?_)
   | (with_reducible refine LeO.bind ?_ (fun _=>?_))
   | exact ih0 _ _ _ _
   | exact LeO.none _
   | refine LeO.ite ?_ ?_
   | refine LeO.bind ?_ (fun _=>?_)
set_option maxHeartbeats 8000000 in
set_option maxRecDepth 100000 in
theorem spec_l6Rd_pick.calls (k : Nat) (g : Nat) (s0_0 : List Int) (s0_1 : Int) (a1 : Int) (r1 : Int) (r2 : Int) (w0 w : World) (hI : IsS87 w0 w g s0_0 s0_1) (hB : Below w0.heap.size w0 w) (h : spec_l6Rd_pick.f k s0_0 s0_1 a1 = some (r1,r2)) :
  Calls Try.prog 68 #[.pointer (some ⟨g,0,none⟩),.int .i64 a1] w fun e w'=>e = .returned (.int .i64 r1) ∧ IsS87 w0 w' g s0_0 r2 ∧ Below w0.heap.size w0 w' ∧ KeepBut w w' g none:=by
 have HI0:=Aside0.mk hI
 have HK:=am (KeepBut.refl w g none)
 have HL:=Aside0.mk hB.size
 clear hI
 have HW0:=Aside0.mk hB.size
 have HB:=Aside0.mk hB
 clear hB
 have H : (if a1 < 1 then (spec_l6Rd_pick.j0 k a1 true s0_0 (wrap64 (s0_1 + 1))) else (spec_l6Rd_pick.j0 k a1 ((s0_0.length : Int) == 0) s0_0 (wrap64 (s0_1 + 1)))) = some (r1,r2):=h
 clear h
 have HC3:=Aside0.mk H
 clear H
 obtain ⟨ASz4_0,cSz4_0,HGz4,hgz4,HSz4_0⟩:=HI0.out
 have hcz4_0:=cellS87_0 HGz4
 have hcz4_1:=cellS87_1 HGz4
 have hfz4_1:=blk_frozen HGz4 1
 clear HGz4 hgz4
 go_enter Try.func68,Try.ntmps68
 go_upto_region 2 with (fail)
 repeat (go_quiet (fail);go_upto_region 2 with (fail))
 go_cut [24] (fun v24 wc=>∃ (kq : Nat) (x24_2 : Bool),v24 = .bool x24_2 ∧ Aside0 (spec_l6Rd_pick.j0 kq a1 x24_2 s0_0 (wrap64 (s0_1 + 1)) = some (r1,r2)) ∧ Aside0 (kq ≤ k) ∧ Aside0 (IsS87 w0 wc g s0_0 (wrap64 (s0_1 + 1))) ∧ Aside0 (KeepBut w wc g none) ∧ Aside0 (Below w0.heap.size w0 wc))
 case first =>
  have H:=HC3.out
  clear HC3
  by_cases c5 : a1 < 1
  ·rw [if_pos c5] at H
   have c5b0 : decide (a1 < 1) = true:=decide_eq_true c5
   clear c5
   (first|rw [c5b0]|(simp only [i64_w,i32_w];rw [c5b0])|skip)
   have H':=Aside0.mk H
   clear H
   go_wp2
   repeat (go_quiet (fail);try go_wp2)
   go_meet
   case rel=>exact ⟨_,(true),Q7,H',⟨Q4⟩,⟨Q88⟩,⟨Q87⟩,⟨Q114⟩⟩
  ·rw [if_neg c5] at H
   have c5b0 : decide (a1 < 1) = false:=decide_eq_false c5
   clear c5
   (first|rw [c5b0]|(simp only [i64_w,i32_w];rw [c5b0])|skip)
   have H':=Aside0.mk H
   clear H
   obtain ⟨ASz6_0,cSz6_0,HGz6,hgz6,HSz6_0⟩:=HI0.out
   have hcz6_0:=cellS87_0 HGz6
   have hcz6_1:=cellS87_1 HGz6
   have hfz6_1:=blk_frozen HGz6 1
   clear HGz6 hgz6
   go_wp2
   repeat (go_quiet (fail);try go_wp2)
   go_meet
   case rel=>exact ⟨_,(((s0_0.length : Int) == 0)),Q7,H',⟨Q4⟩,⟨Q88⟩,⟨Q87⟩,⟨Q114⟩⟩
 case rest =>
  clear HC3
  try clear p2
  try clear c5
  try clear c5b0
  try clear c6
  try clear p6
  try clear hcz4_0
  try clear hcz4_1
  try clear hcz6_0
  try clear hcz6_1
  try clear hfz4_1
  try clear hfz6_1
  obtain ⟨kq,x24_2,rfl,HA,HJ2,HI0,HK,HB⟩:=hcut
  cases kq with
  | zero=>exact absurd HA.out (by simp [spec_l6Rd_pick.j0])
  | succ kj2 =>
   have H:=HA.out
   clear HA
   simp only [spec_l6Rd_pick.j0] at H
   by_cases c7 : x24_2 = true
   ·subst c7
    have H1 : (some (0,(wrap64 (s0_1 + 1)))) = some (r1,r2):=by rw [if_pos rfl] at H;exact H
    clear H
    have H:=H1
    clear H1
    simp only [Option.some.injEq,Prod.mk.injEq] at H
    obtain ⟨rfl,rfl⟩:=H
    go_wp2
    repeat (go_quiet (fail);try go_wp2)
    go_ret
    exact ⟨Q18,Q88,Q114,Q87⟩
   ·replace c7:=Bool.eq_false_iff.mpr c7
    subst c7
    have H1 : (if (wrap64 ((wrap64 (s0_1 + 1)) - 1)) < (s0_0.length : Int) then (if 0 ≤ (wrap64 ((wrap64 (s0_1 + 1)) - 1)) then (if a1 = 0 then (none) else (some (Int.tmod (wrap64 (rd s0_0 (wrap64 ((wrap64 (s0_1 + 1)) - 1)))) a1,(wrap64 (s0_1 + 1))))) else (none)) else (if (s0_0.length : Int) = 0 then (none) else (if 0 ≤ (Int.tmod (wrap64 ((wrap64 (s0_1 + 1)) - 1)) (s0_0.length : Int)) then (if (Int.tmod (wrap64 ((wrap64 (s0_1 + 1)) - 1)) (s0_0.length : Int)) < (s0_0.length : Int) then (if 0 ≤ (Int.tmod (wrap64 ((wrap64 ((wrap64 ((wrap64 (s0_1 + 1)) - 1)) * 7)) + 3)) (s0_0.length : Int)) then (if (Int.tmod (wrap64 ((wrap64 ((wrap64 ((wrap64 (s0_1 + 1)) - 1)) * 7)) + 3)) (s0_0.length : Int)) < (s0_0.length : Int) then (if a1 = 0 then (none) else (some (Int.tmod (Go.bits .xor .i64 (wrap64 ((wrap64 ((wrap64 ((wrap64 ((wrap64 (rd s0_0 (Int.tmod (wrap64 ((wrap64 (s0_1 + 1)) - 1)) (s0_0.length : Int)))) * 131)) + (wrap64 ((wrap64 (rd s0_0 (Int.tmod (wrap64 ((wrap64 ((wrap64 ((wrap64 (s0_1 + 1)) - 1)) * 7)) + 3)) (s0_0.length : Int)))) * 1117)))) + (wrap64 ((wrap64 ((wrap64 (s0_1 + 1)) - 1)) * 29)))) + (wrap64 ((wrap64 (Int.tdiv (wrap64 ((wrap64 (s0_1 + 1)) - 1)) (s0_0.length : Int))) * 53)))) (wrap64 (Int.tdiv (wrap64 ((wrap64 ((wrap64 ((wrap64 ((wrap64 (rd s0_0 (Int.tmod (wrap64 ((wrap64 (s0_1 + 1)) - 1)) (s0_0.length : Int)))) * 131)) + (wrap64 ((wrap64 (rd s0_0 (Int.tmod (wrap64 ((wrap64 ((wrap64 ((wrap64 (s0_1 + 1)) - 1)) * 7)) + 3)) (s0_0.length : Int)))) * 1117)))) + (wrap64 ((wrap64 ((wrap64 (s0_1 + 1)) - 1)) * 29)))) + (wrap64 ((wrap64 (Int.tdiv (wrap64 ((wrap64 (s0_1 + 1)) - 1)) (s0_0.length : Int))) * 53)))) 64))) a1,(wrap64 (s0_1 + 1))))) else (none)) else (none)) else (none)) else (none)))) = some (r1,r2):=by rw [if_neg (show ¬ (false = true) by decide)] at H;exact H
    clear H
    have H:=H1
    clear H1
    by_cases c8 : (wrap64 ((wrap64 (s0_1 + 1)) - 1)) < (s0_0.length : Int)
    ·rw [if_pos c8] at H
     have c8b0 : decide ((wrap64 ((wrap64 (s0_1 + 1)) - 1)) < (s0_0.length : Int)) = true:=decide_eq_true c8
     clear c8
     obtain ⟨ji9,hji9⟩ : ∃ j_ : Int,(wrap64 ((wrap64 (s0_1 + 1)) - 1)) = j_:=⟨_,rfl⟩
     replace H : (if 0 ≤ (ji9) then (if a1 = 0 then (none) else (some (Int.tmod (wrap64 (rd s0_0 (ji9))) a1,(wrap64 (s0_1 + 1))))) else (none)) = some (r1,r2):=by first|(rw [hji9] at H;exact H)|(simp only [hji9] at H ⊢;exact H)
     (try rw [hji9] at c8b0)
     have hji9w : (IntKind.i64.wrap ((wrap64 (s0_1 + 1)) - 1)) = ji9:=(i64_w _).trans hji9
     have c10 : 0 ≤ (ji9):=nn_ H
     rw [if_pos c10] at H
     have c10b0 : decide (0 ≤ (ji9)) = true:=decide_eq_true c10
     clear c10
     by_cases c11 : a1 = 0
     ·rw [if_pos c11] at H
      exact absurd H (by simp)
     ·rw [if_neg c11] at H
      have c11b0 : (a1 == 0) = false:=beq_eq_false_iff_ne.mpr c11
      have c11b1 : (a1 != 0) = true:=bne_iff_ne.mpr c11
      simp only [Option.some.injEq,Prod.mk.injEq] at H
      obtain ⟨rfl,rfl⟩:=H
      obtain ⟨ASz12_0,cSz12_0,HGz12,hgz12,HSz12_0⟩:=HI0.out
      have hcz12_0:=cellS87_0 HGz12
      have hcz12_1:=cellS87_1 HGz12
      have hfz12_1:=blk_frozen HGz12 1
      clear HGz12 hgz12
      have p104 : 0 ≤ ((ji9) : Int):=of_decide_eq_true Q8
      have q104 : (ji9) < (s0_0.length : Int):=of_decide_eq_true Q8
      obtain ⟨ad104,e104,hx104_0⟩:=Kd.at_int HSz12_0 (ji9) p104 q104
      cases e104
      replace hx104_0:=pw_cell_below HB.out hx104_0
      replace p104:=eq_true p104
      replace q104:=eq_true q104
      go_wp2
      repeat (go_quiet (fail);try go_wp2)
      go_ret
      exact ⟨by first|rfl|(simp [errW_none,errW_some] <;> rfl)|(simp only [← hji9];first|rfl|(simp [errW_none,errW_some] <;> rfl))|(simp [*,errW_none,errW_some] <;> rfl),Q88,Q114,Q87⟩
    ·rw [if_neg c8] at H
     have c8b0 : decide ((wrap64 ((wrap64 (s0_1 + 1)) - 1)) < (s0_0.length : Int)) = false:=decide_eq_false c8
     clear c8
     by_cases c13 : (s0_0.length : Int) = 0
     ·rw [if_pos c13] at H
      exact absurd H (by simp)
     ·rw [if_neg c13] at H
      have c13b0 : ((s0_0.length : Int) == 0) = false:=beq_eq_false_iff_ne.mpr c13
      have c13b1 : ((s0_0.length : Int) != 0) = true:=bne_iff_ne.mpr c13
      have c13b2 : ¬ (s0_0 = []):=fun h_=>c13 (by rw [h_];rfl)
      obtain ⟨ji14,hji14⟩ : ∃ j_ : Int,(Int.tmod (wrap64 ((wrap64 (s0_1 + 1)) - 1)) (s0_0.length : Int)) = j_:=⟨_,rfl⟩
      replace H : (if 0 ≤ (ji14) then (if (ji14) < (s0_0.length : Int) then (if 0 ≤ (Int.tmod (wrap64 ((wrap64 ((wrap64 ((wrap64 (s0_1 + 1)) - 1)) * 7)) + 3)) (s0_0.length : Int)) then (if (Int.tmod (wrap64 ((wrap64 ((wrap64 ((wrap64 (s0_1 + 1)) - 1)) * 7)) + 3)) (s0_0.length : Int)) < (s0_0.length : Int) then (if a1 = 0 then (none) else (some (Int.tmod (Go.bits .xor .i64 (wrap64 ((wrap64 ((wrap64 ((wrap64 ((wrap64 (rd s0_0 (ji14))) * 131)) + (wrap64 ((wrap64 (rd s0_0 (Int.tmod (wrap64 ((wrap64 ((wrap64 ((wrap64 (s0_1 + 1)) - 1)) * 7)) + 3)) (s0_0.length : Int)))) * 1117)))) + (wrap64 ((wrap64 ((wrap64 (s0_1 + 1)) - 1)) * 29)))) + (wrap64 ((wrap64 (Int.tdiv (wrap64 ((wrap64 (s0_1 + 1)) - 1)) (s0_0.length : Int))) * 53)))) (wrap64 (Int.tdiv (wrap64 ((wrap64 ((wrap64 ((wrap64 ((wrap64 (rd s0_0 (ji14))) * 131)) + (wrap64 ((wrap64 (rd s0_0 (Int.tmod (wrap64 ((wrap64 ((wrap64 ((wrap64 (s0_1 + 1)) - 1)) * 7)) + 3)) (s0_0.length : Int)))) * 1117)))) + (wrap64 ((wrap64 ((wrap64 (s0_1 + 1)) - 1)) * 29)))) + (wrap64 ((wrap64 (Int.tdiv (wrap64 ((wrap64 (s0_1 + 1)) - 1)) (s0_0.length : Int))) * 53)))) 64))) a1,(wrap64 (s0_1 + 1))))) else (none)) else (none)) else (none)) else (none)) = some (r1,r2):=by first|(rw [hji14] at H;exact H)|(simp only [hji14] at H ⊢;exact H)
      have c15 : 0 ≤ (ji14):=nn_ H
      rw [if_pos c15] at H
      have c15b0 : decide (0 ≤ (ji14)) = true:=decide_eq_true c15
      clear c15
      have c16 : (ji14) < (s0_0.length : Int):=nn_ H
      rw [if_pos c16] at H
      have c16b0 : decide ((ji14) < (s0_0.length : Int)) = true:=decide_eq_true c16
      clear c16
      obtain ⟨ji17,hji17⟩ : ∃ j_ : Int,(Int.tmod (wrap64 ((wrap64 ((wrap64 ((wrap64 (s0_1 + 1)) - 1)) * 7)) + 3)) (s0_0.length : Int)) = j_:=⟨_,rfl⟩
      replace H : (if 0 ≤ (ji17) then (if (ji17) < (s0_0.length : Int) then (if a1 = 0 then (none) else (some (Int.tmod (Go.bits .xor .i64 (wrap64 ((wrap64 ((wrap64 ((wrap64 ((wrap64 (rd s0_0 (ji14))) * 131)) + (wrap64 ((wrap64 (rd s0_0 (ji17))) * 1117)))) + (wrap64 ((wrap64 ((wrap64 (s0_1 + 1)) - 1)) * 29)))) + (wrap64 ((wrap64 (Int.tdiv (wrap64 ((wrap64 (s0_1 + 1)) - 1)) (s0_0.length : Int))) * 53)))) (wrap64 (Int.tdiv (wrap64 ((wrap64 ((wrap64 ((wrap64 ((wrap64 (rd s0_0 (ji14))) * 131)) + (wrap64 ((wrap64 (rd s0_0 (ji17))) * 1117)))) + (wrap64 ((wrap64 ((wrap64 (s0_1 + 1)) - 1)) * 29)))) + (wrap64 ((wrap64 (Int.tdiv (wrap64 ((wrap64 (s0_1 + 1)) - 1)) (s0_0.length : Int))) * 53)))) 64))) a1,(wrap64 (s0_1 + 1))))) else (none)) else (none)) = some (r1,r2):=by first|(rw [hji17] at H;exact H)|(simp only [hji17] at H ⊢;exact H)
      have c18 : 0 ≤ (ji17):=nn_ H
      rw [if_pos c18] at H
      have c18b0 : decide (0 ≤ (ji17)) = true:=decide_eq_true c18
      clear c18
      have c19 : (ji17) < (s0_0.length : Int):=nn_ H
      rw [if_pos c19] at H
      have c19b0 : decide ((ji17) < (s0_0.length : Int)) = true:=decide_eq_true c19
      clear c19
      by_cases c20 : a1 = 0
      ·rw [if_pos c20] at H
       exact absurd H (by simp)
      ·rw [if_neg c20] at H
       have c20b0 : (a1 == 0) = false:=beq_eq_false_iff_ne.mpr c20
       have c20b1 : (a1 != 0) = true:=bne_iff_ne.mpr c20
       simp only [Option.some.injEq,Prod.mk.injEq] at H
       obtain ⟨rfl,rfl⟩:=H
       obtain ⟨ASz21_0,cSz21_0,HGz21,hgz21,HSz21_0⟩:=HI0.out
       have hcz21_0:=cellS87_0 HGz21
       have hcz21_1:=cellS87_1 HGz21
       have hfz21_1:=blk_frozen HGz21 1
       clear HGz21 hgz21
       have p105 : 0 ≤ ((ji14) : Int):=of_decide_eq_true Q8
       have q105 : (ji14) < (s0_0.length : Int):=of_decide_eq_true Q8
       obtain ⟨ad105,e105,hx105_0⟩:=Kd.at_int HSz21_0 (ji14) p105 q105
       cases e105
       replace hx105_0:=pw_cell_below HB.out hx105_0
       replace p105:=eq_true p105
       replace q105:=eq_true q105
       have p106 : 0 ≤ ((ji17) : Int):=of_decide_eq_true Q8
       have q106 : (ji17) < (s0_0.length : Int):=of_decide_eq_true Q8
       obtain ⟨ad106,e106,hx106_0⟩:=Kd.at_int HSz21_0 (ji17) p106 q106
       obtain rfl : ad105 = ad106:=(by injection e106)
       replace hx106_0:=pw_cell_below HB.out hx106_0
       replace p106:=eq_true p106
       replace q106:=eq_true q106
       go_wp2
       repeat (go_quiet (fail);try go_wp2)
       go_ret
       exact ⟨by first|rfl|(simp [errW_none,errW_some] <;> rfl)|(simp only [← hji14,← hji17];first|rfl|(simp [errW_none,errW_some] <;> rfl))|(simp [*,errW_none,errW_some] <;> rfl),Q88,Q114,Q87⟩
def spec_l71Time.f (k : Nat) (s0_0 : List Int) (s0_1 : Int) : Option (Int × Int × Int) := (spec_l6Rd_pick.f k s0_0 s0_1 10).bind fun bt108 => (if bt108.1 = 0 then ((spec_l6Rd_pick.f k s0_0 bt108.2 8).bind fun bt110 => ((spec_l6Rd_pick.f k s0_0 bt110.2 8).bind fun bt112 => (some (bt110.1, bt112.1, bt112.2)))) else ((spec_l6Rd_pick.f k s0_0 bt108.2 4).bind fun bt114 => ((spec_l6Rd_pick.f k s0_0 bt114.2 4).bind fun bt116 => (some (bt114.1, bt116.1, bt116.2)))))
set_option maxHeartbeats 8000000 in
set_option maxRecDepth 100000 in
theorem spec_l71Time.calls (k : Nat) (g : Nat) (s0_0 : List Int) (s0_1 : Int) (r1 : Int) (r2 : Int) (r3 : Int) (w0 w : World) (hI : IsS87 w0 w g s0_0 s0_1) (hB : Below w0.heap.size w0 w) (h : spec_l71Time.f k s0_0 s0_1 = some (r1,r2,r3)) :
  Calls Try.prog 92 #[.pointer (some ⟨g,0,none⟩)] w fun e w'=>e = .returned (.agg #[.int .i64 r1,.int .i64 r2]) ∧ IsS87 w0 w' g s0_0 r3 ∧ Below w0.heap.size w0 w' ∧ KeepBut w w' g none:=by
 have hu36:=Try.underlying36
 have HI0:=Aside0.mk hI
 have HK:=am (KeepBut.refl w g none)
 have HL:=Aside0.mk hB.size
 clear hI
 have HW0:=Aside0.mk hB.size
 have HB:=Aside0.mk hB
 clear hB
 have H : ((spec_l6Rd_pick.f k s0_0 s0_1 10).bind fun bt108=>(if bt108.1 = 0 then ((spec_l6Rd_pick.f k s0_0 bt108.2 8).bind fun bt110=>((spec_l6Rd_pick.f k s0_0 bt110.2 8).bind fun bt112=>(some (bt110.1,bt112.1,bt112.2)))) else ((spec_l6Rd_pick.f k s0_0 bt108.2 4).bind fun bt114=>((spec_l6Rd_pick.f k s0_0 bt114.2 4).bind fun bt116=>(some (bt114.1,bt116.1,bt116.2)))))) = some (r1,r2,r3):=h
 clear h
 replace H:=Option.bind_eq_some_iff.mp H
 obtain ⟨⟨t108,t109⟩,A20,H⟩:=H
 replace H : (if t108 = 0 then ((spec_l6Rd_pick.f k s0_0 t109 8).bind fun bt110=>((spec_l6Rd_pick.f k s0_0 bt110.2 8).bind fun bt112=>(some (bt110.1,bt112.1,bt112.2)))) else ((spec_l6Rd_pick.f k s0_0 t109 4).bind fun bt114=>((spec_l6Rd_pick.f k s0_0 bt114.2 4).bind fun bt116=>(some (bt114.1,bt116.1,bt116.2))))) = some (r1,r2,r3):=H
 have A2:=Aside0.mk A20
 clear A20
 by_cases c3 : t108 = 0
 ·rw [if_pos c3] at H
  have c3b0 : (t108 == 0) = true:=beq_iff_eq.mpr c3
  have c3b1 : (t108 != 0) = false:=bne_eq_false_iff_eq.mpr c3
  clear c3
  replace H:=Option.bind_eq_some_iff.mp H
  obtain ⟨⟨t110,t111⟩,A40,H⟩:=H
  replace H : ((spec_l6Rd_pick.f k s0_0 t111 8).bind fun bt112=>(some (t110,bt112.1,bt112.2))) = some (r1,r2,r3):=H
  have A4:=Aside0.mk A40
  clear A40
  replace H:=Option.bind_eq_some_iff.mp H
  obtain ⟨⟨t112,t113⟩,A50,H⟩:=H
  replace H : (some (t110,t112,t113)) = some (r1,r2,r3):=H
  have A5:=Aside0.mk A50
  clear A50
  simp only [Option.some.injEq,Prod.mk.injEq] at H
  obtain ⟨rfl,rfl,rfl⟩:=H
  go_enter Try.func92,Try.ntmps92
  go_wp2_with (first|((with_reducible refine gate_dst (N:=2) rfl ?_);refine bE_ 2 #[.int .i64 0,.int .i64 0] 36 ?_;intro gb107 hg w6 hbox hb;replace HB:=am (below_step Q114 hb);have BK107:=am (hbox);have GW107:=am ((Q174 : w.heap.size ≤ gb107));have GE107:=am ((Nat.le_trans HW0.out (Q174 : w.heap.size ≤ gb107) : w0.heap.size ≤ gb107));replace HK:=am (KeepBut.trans Q87 (KeepBut.of_below hb g none) (.inl rfl));have NB0_107:=am ((by rw [hg];exact Nat.ne_of_lt (IsS87.lt (show IsS87 w0 _ g s0_0 s0_1 from by repeat (first|(with_reducible first|exact HI0.out|apply IsS87.alloc|apply IsS87.drewN|apply IsS87.drew|apply IsS87.set_1)|exact HI0.out))) : g ≠ gb107));have NB107_0:=am ((by rw [hg];exact Nat.ne_of_gt (IsS87.lt (show IsS87 w0 _ g s0_0 s0_1 from by repeat (first|(with_reducible first|exact HI0.out|apply IsS87.alloc|apply IsS87.drewN|apply IsS87.drew|apply IsS87.set_1)|exact HI0.out))) : gb107 ≠ g));replace HI0:=am (IsS87.below Q88 hb);clear hb hbox hg)|((with_reducible refine gate_callee (f:=68) rfl ?_);refine goesL_ (some 4) rfl rfl Try.func68 Q1 rfl #[.pointer (some ⟨g,0,none⟩),.int .i64 10] rfl Q84 ?_;(with_reducible refine (spec_l6Rd_pick.calls k g s0_0 s0_1 10 t108 t109 w0 _ ?side1 ?side2 A2.out).mono ?_);(case side1=>exact Q128);(case side2=>exact Q144);rintro e w7 ⟨rfl,hi,hb,hk⟩;refine ⟨_,rfl,?_⟩;replace BK107:=am (KeepBut.blk hk (g':=gb107) (o:=.cells #[.int .i64 0,.int .i64 0] 36 (0,0)) Q41 NB107_0.out (by simp));replace HK:=am (KeepBut.trans Q123 hk (.inl rfl));replace HB:=am (hb);replace HI0:=am (hi);(try clear hb hk hi))|((with_reducible refine gate_callee (f:=68) rfl ?_);refine goesL_ (some 7) rfl rfl Try.func68 Q1 rfl #[.pointer (some ⟨g,0,none⟩),.int .i64 8] rfl Q84 ?_;(with_reducible refine (spec_l6Rd_pick.calls k g s0_0 t109 8 t110 t111 w0 _ ?side1 ?side2 A4.out).mono ?_);(case side1=>exact Q128);(case side2=>exact Q144);rintro e w8 ⟨rfl,hi,hb,hk⟩;refine ⟨_,rfl,?_⟩;replace BK107:=am (KeepBut.blk hk (g':=gb107) (o:=.cells #[.int .i64 0,.int .i64 0] 36 (0,0)) Q41 NB107_0.out (by simp));replace HK:=am (KeepBut.trans Q123 hk (.inl rfl));replace HB:=am (hb);replace HI0:=am (hi);(try clear hb hk hi))|((with_reducible refine gate_callee (f:=68) rfl ?_);refine goesL_ (some 9) rfl rfl Try.func68 Q1 rfl #[.pointer (some ⟨g,0,none⟩),.int .i64 8] rfl Q84 ?_;(with_reducible refine (spec_l6Rd_pick.calls k g s0_0 t111 8 t112 t113 w0 _ ?side1 ?side2 A5.out).mono ?_);(case side1=>exact Q128);(case side2=>exact Q144);rintro e w9 ⟨rfl,hi,hb,hk⟩;refine ⟨_,rfl,?_⟩;replace BK107:=am (KeepBut.blk hk (g':=gb107) (o:=.cells #[.int .i64 0,.int .i64 0] 36 (0,0)) Q41 NB107_0.out (by simp));replace HK:=am (KeepBut.trans Q123 hk (.inl rfl));replace HB:=am (hb);replace HI0:=am (hi);(try clear hb hk hi);have hnb10:=NB107_0.out;have hnc10:=NB0_107.out;obtain ⟨hcz11_0,hcz11_1,hfz11_0,hfz11_1⟩:=bx2_ BK107))
  refine bodyPost_ret (results_cell_row rfl _ _ gb107 36 #[.int .i64 t110,.int .i64 t112] (0,0) _ rfl (by (with_reducible repeat (first|refine blk_drewN ?_ _|refine blk_drew ?_|refine blk_alloc ?_ _));refine blk_put (cs:=#[.int .i64 t110,.int .i64 0]) ?_ 1 _ rfl;(with_reducible repeat (first|refine blk_drewN ?_ _|refine blk_drew ?_|refine blk_alloc ?_ _));refine blk_put (cs:=#[.int .i64 0,.int .i64 0]) ?_ 0 _ rfl;(with_reducible repeat (first|refine blk_drewN ?_ _|refine blk_drew ?_|refine blk_alloc ?_ _));exact BK107.out) Try.underlying36 rfl Q1) rfl ?_
  exact ⟨Q18,Q128,Q144,Q123⟩
 ·rw [if_neg c3] at H
  have c3b0 : (t108 == 0) = false:=beq_eq_false_iff_ne.mpr c3
  have c3b1 : (t108 != 0) = true:=bne_iff_ne.mpr c3
  replace H:=Option.bind_eq_some_iff.mp H
  obtain ⟨⟨t114,t115⟩,A120,H⟩:=H
  replace H : ((spec_l6Rd_pick.f k s0_0 t115 4).bind fun bt116=>(some (t114,bt116.1,bt116.2))) = some (r1,r2,r3):=H
  have A12:=Aside0.mk A120
  clear A120
  replace H:=Option.bind_eq_some_iff.mp H
  obtain ⟨⟨t116,t117⟩,A130,H⟩:=H
  replace H : (some (t114,t116,t117)) = some (r1,r2,r3):=H
  have A13:=Aside0.mk A130
  clear A130
  simp only [Option.some.injEq,Prod.mk.injEq] at H
  obtain ⟨rfl,rfl,rfl⟩:=H
  go_enter Try.func92,Try.ntmps92
  go_wp2_with (first|((with_reducible refine gate_dst (N:=2) rfl ?_);refine bE_ 2 #[.int .i64 0,.int .i64 0] 36 ?_;intro gb107 hg w14 hbox hb;replace HB:=am (below_step Q114 hb);have BK107:=am (hbox);have GW107:=am ((Q174 : w.heap.size ≤ gb107));have GE107:=am ((Nat.le_trans HW0.out (Q174 : w.heap.size ≤ gb107) : w0.heap.size ≤ gb107));replace HK:=am (KeepBut.trans Q87 (KeepBut.of_below hb g none) (.inl rfl));have NB0_107:=am ((by rw [hg];exact Nat.ne_of_lt (IsS87.lt (show IsS87 w0 _ g s0_0 s0_1 from by repeat (first|(with_reducible first|exact HI0.out|apply IsS87.alloc|apply IsS87.drewN|apply IsS87.drew|apply IsS87.set_1)|exact HI0.out))) : g ≠ gb107));have NB107_0:=am ((by rw [hg];exact Nat.ne_of_gt (IsS87.lt (show IsS87 w0 _ g s0_0 s0_1 from by repeat (first|(with_reducible first|exact HI0.out|apply IsS87.alloc|apply IsS87.drewN|apply IsS87.drew|apply IsS87.set_1)|exact HI0.out))) : gb107 ≠ g));replace HI0:=am (IsS87.below Q88 hb);clear hb hbox hg)|((with_reducible refine gate_callee (f:=68) rfl ?_);refine goesL_ (some 4) rfl rfl Try.func68 Q1 rfl #[.pointer (some ⟨g,0,none⟩),.int .i64 10] rfl Q84 ?_;(with_reducible refine (spec_l6Rd_pick.calls k g s0_0 s0_1 10 t108 t109 w0 _ ?side1 ?side2 A2.out).mono ?_);(case side1=>exact Q128);(case side2=>exact Q144);rintro e w15 ⟨rfl,hi,hb,hk⟩;refine ⟨_,rfl,?_⟩;replace BK107:=am (KeepBut.blk hk (g':=gb107) (o:=.cells #[.int .i64 0,.int .i64 0] 36 (0,0)) Q41 NB107_0.out (by simp));replace HK:=am (KeepBut.trans Q123 hk (.inl rfl));replace HB:=am (hb);replace HI0:=am (hi);(try clear hb hk hi))|((with_reducible refine gate_callee (f:=68) rfl ?_);refine goesL_ (some 12) rfl rfl Try.func68 Q1 rfl #[.pointer (some ⟨g,0,none⟩),.int .i64 4] rfl Q84 ?_;(with_reducible refine (spec_l6Rd_pick.calls k g s0_0 t109 4 t114 t115 w0 _ ?side1 ?side2 A12.out).mono ?_);(case side1=>exact Q128);(case side2=>exact Q144);rintro e w16 ⟨rfl,hi,hb,hk⟩;refine ⟨_,rfl,?_⟩;replace BK107:=am (KeepBut.blk hk (g':=gb107) (o:=.cells #[.int .i64 0,.int .i64 0] 36 (0,0)) Q41 NB107_0.out (by simp));replace HK:=am (KeepBut.trans Q123 hk (.inl rfl));replace HB:=am (hb);replace HI0:=am (hi);(try clear hb hk hi))|((with_reducible refine gate_callee (f:=68) rfl ?_);refine goesL_ (some 14) rfl rfl Try.func68 Q1 rfl #[.pointer (some ⟨g,0,none⟩),.int .i64 4] rfl Q84 ?_;(with_reducible refine (spec_l6Rd_pick.calls k g s0_0 t115 4 t116 t117 w0 _ ?side1 ?side2 A13.out).mono ?_);(case side1=>exact Q128);(case side2=>exact Q144);rintro e w17 ⟨rfl,hi,hb,hk⟩;refine ⟨_,rfl,?_⟩;replace BK107:=am (KeepBut.blk hk (g':=gb107) (o:=.cells #[.int .i64 0,.int .i64 0] 36 (0,0)) Q41 NB107_0.out (by simp));replace HK:=am (KeepBut.trans Q123 hk (.inl rfl));replace HB:=am (hb);replace HI0:=am (hi);(try clear hb hk hi);have hnb18:=NB107_0.out;have hnc18:=NB0_107.out;obtain ⟨hcz19_0,hcz19_1,hfz19_0,hfz19_1⟩:=bx2_ BK107))
  refine bodyPost_ret (results_cell_row rfl _ _ gb107 36 #[.int .i64 t114,.int .i64 t116] (0,0) _ rfl (by (with_reducible repeat (first|refine blk_drewN ?_ _|refine blk_drew ?_|refine blk_alloc ?_ _));refine blk_put (cs:=#[.int .i64 t114,.int .i64 0]) ?_ 1 _ rfl;(with_reducible repeat (first|refine blk_drewN ?_ _|refine blk_drew ?_|refine blk_alloc ?_ _));refine blk_put (cs:=#[.int .i64 0,.int .i64 0]) ?_ 0 _ rfl;(with_reducible repeat (first|refine blk_drewN ?_ _|refine blk_drew ?_|refine blk_alloc ?_ _));exact BK107.out) Try.underlying36 rfl Q1) rfl ?_
  exact ⟨Q18,Q128,Q144,Q123⟩
def spec_l71Row.f (k : Nat) (s0_0 : List Int) (s0_1 : Int) : Option (Int × Int × Int × Int × Int × Int) := (spec_l6Rd_pick.f k s0_0 s0_1 4).bind fun bt119 => ((some (([0, 1, 2, 3, 4, 9, 10, 57, 99] : List Int) : List Int)).bind fun y121 => ((spec_l6Rd_pick.f k s0_0 bt119.2 9).bind fun bt124 => (if 0 ≤ bt124.1 then (if bt124.1 < (y121.length : Int) then ((spec_l71Time.f k s0_0 bt124.2).bind fun bt127 => ((some (([1, 1, 1, 2, (-1), (-1), 3, 0] : List Int) : List Int)).bind fun y130 => ((spec_l6Rd_pick.f k s0_0 bt127.2.2 8).bind fun bt133 => (if 0 ≤ bt133.1 then (if bt133.1 < (y130.length : Int) then (some (bt119.1, rd y121 bt124.1, bt127.1, bt127.2.1, rd y130 bt133.1, bt133.2)) else (none)) else (none))))) else (none)) else (none))))
def spec_l71Row.T1 : Bool × List (List Nat × List Nat) := (true, [([], []), ([0], [0]), ([], []), ([], []), ([3, 1], [3]), ([2, 4], [2, 4]), ([5], [5]), ([], []), ([7, 4], [7]), ([], []), ([], []), ([10, 8], [10]), ([9, 11], [9, 11]), ([12], [12]), ([1, 6, 8, 13], [1, 6, 8, 13]), ([14, 11, 0, 1, 2, 3, 4, 5, 6, 7, 8, 9, 10, 11, 12, 13, 14], [14])])
def spec_l71Row.B1 : List Nat := [0, 1, 0, 0, 11, 31, 63, 0, 155, 0, 0, 1435, 3995, 8091, 16383, 32767]
theorem spec_l71Row.tab1 : rtab .any (opsOf Try.f70 1) = spec_l71Row.T1:=by kernel_rfl
theorem spec_l71Row.bits1 : waitsOk spec_l71Row.T1.2 spec_l71Row.B1 = true:=by kernel_rfl
set_option maxHeartbeats 8000000 in
set_option maxRecDepth 100000 in
theorem spec_l71Row.calls (k : Nat) (g : Nat) (s0_0 : List Int) (s0_1 : Int) (r1 : Int) (r2 : Int) (r3 : Int) (r4 : Int) (r5 : Int) (r6 : Int) (w0 w : World) (hI : IsS87 w0 w g s0_0 s0_1) (hB : Below w0.heap.size w0 w) (h : spec_l71Row.f k s0_0 s0_1 = some (r1,r2,r3,r4,r5,r6)) :
  Calls Try.prog 70 #[.pointer (some ⟨g,0,none⟩)] w fun e w'=>e = .returned (.agg #[.int .i64 r1,.int .i64 r2,.int .i64 r3,.int .i64 r4,.int .i64 r5]) ∧ IsS87 w0 w' g s0_0 r6 ∧ Below w0.heap.size w0 w' ∧ KeepBut w w' g none:=by
 have hu38:=Try.underlying38
 have HI0:=Aside0.mk hI
 have HK:=am (KeepBut.refl w g none)
 have HL:=Aside0.mk hB.size
 clear hI
 have HW0:=Aside0.mk hB.size
 have HB:=Aside0.mk hB
 clear hB
 have H : ((spec_l6Rd_pick.f k s0_0 s0_1 4).bind fun bt119=>((some (([0,1,2,3,4,9,10,57,99] : List Int) : List Int)).bind fun y121=>((spec_l6Rd_pick.f k s0_0 bt119.2 9).bind fun bt124=>(if 0 ≤ bt124.1 then (if bt124.1 < (y121.length : Int) then ((spec_l71Time.f k s0_0 bt124.2).bind fun bt127=>((some (([1,1,1,2,(-1),(-1),3,0] : List Int) : List Int)).bind fun y130=>((spec_l6Rd_pick.f k s0_0 bt127.2.2 8).bind fun bt133=>(if 0 ≤ bt133.1 then (if bt133.1 < (y130.length : Int) then (some (bt119.1,rd y121 bt124.1,bt127.1,bt127.2.1,rd y130 bt133.1,bt133.2)) else (none)) else (none))))) else (none)) else (none))))) = some (r1,r2,r3,r4,r5,r6):=h
 clear h
 replace H:=Option.bind_eq_some_iff.mp H
 obtain ⟨⟨t119,t120⟩,A20,H⟩:=H
 replace H : ((some (([0,1,2,3,4,9,10,57,99] : List Int) : List Int)).bind fun y121=>((spec_l6Rd_pick.f k s0_0 t120 9).bind fun bt124=>(if 0 ≤ bt124.1 then (if bt124.1 < (y121.length : Int) then ((spec_l71Time.f k s0_0 bt124.2).bind fun bt127=>((some (([1,1,1,2,(-1),(-1),3,0] : List Int) : List Int)).bind fun y130=>((spec_l6Rd_pick.f k s0_0 bt127.2.2 8).bind fun bt133=>(if 0 ≤ bt133.1 then (if bt133.1 < (y130.length : Int) then (some (t119,rd y121 bt124.1,bt127.1,bt127.2.1,rd y130 bt133.1,bt133.2)) else (none)) else (none))))) else (none)) else (none)))) = some (r1,r2,r3,r4,r5,r6):=H
 have A2:=Aside0.mk A20
 clear A20
 obtain ⟨y121,hy_⟩ : ∃ y_ : List Int,y_ = (([0,1,2,3,4,9,10,57,99] : List Int)):=⟨_,rfl⟩
 replace H : ((spec_l6Rd_pick.f k s0_0 t120 9).bind fun bt124=>(if 0 ≤ bt124.1 then (if bt124.1 < (y121.length : Int) then ((spec_l71Time.f k s0_0 bt124.2).bind fun bt127=>((some (([1,1,1,2,(-1),(-1),3,0] : List Int) : List Int)).bind fun y130=>((spec_l6Rd_pick.f k s0_0 bt127.2.2 8).bind fun bt133=>(if 0 ≤ bt133.1 then (if bt133.1 < (y130.length : Int) then (some (t119,rd y121 bt124.1,bt127.1,bt127.2.1,rd y130 bt133.1,bt133.2)) else (none)) else (none))))) else (none)) else (none))) = some (r1,r2,r3,r4,r5,r6):=Q162
 have Ny121:=Aside0.mk hy_
 clear hy_
 replace H:=Option.bind_eq_some_iff.mp H
 obtain ⟨⟨t124,t125⟩,A30,H⟩:=H
 replace H : (if 0 ≤ t124 then (if t124 < (y121.length : Int) then ((spec_l71Time.f k s0_0 t125).bind fun bt127=>((some (([1,1,1,2,(-1),(-1),3,0] : List Int) : List Int)).bind fun y130=>((spec_l6Rd_pick.f k s0_0 bt127.2.2 8).bind fun bt133=>(if 0 ≤ bt133.1 then (if bt133.1 < (y130.length : Int) then (some (t119,rd y121 t124,bt127.1,bt127.2.1,rd y130 bt133.1,bt133.2)) else (none)) else (none))))) else (none)) else (none)) = some (r1,r2,r3,r4,r5,r6):=H
 have A3:=Aside0.mk A30
 clear A30
 have c4 : 0 ≤ t124:=nn_ H
 rw [if_pos c4] at H
 have c4b0 : decide (0 ≤ t124) = true:=decide_eq_true c4
 clear c4
 have c5 : t124 < (y121.length : Int):=nn_ H
 rw [if_pos c5] at H
 have c5b0 : decide (t124 < (y121.length : Int)) = true:=decide_eq_true c5
 clear c5
 replace H:=Option.bind_eq_some_iff.mp H
 obtain ⟨⟨t127,t128,t129⟩,A60,H⟩:=H
 replace H : ((some (([1,1,1,2,(-1),(-1),3,0] : List Int) : List Int)).bind fun y130=>((spec_l6Rd_pick.f k s0_0 t129 8).bind fun bt133=>(if 0 ≤ bt133.1 then (if bt133.1 < (y130.length : Int) then (some (t119,rd y121 t124,t127,t128,rd y130 bt133.1,bt133.2)) else (none)) else (none)))) = some (r1,r2,r3,r4,r5,r6):=H
 have A6:=Aside0.mk A60
 clear A60
 obtain ⟨y130,hy_⟩ : ∃ y_ : List Int,y_ = (([1,1,1,2,(-1),(-1),3,0] : List Int)):=⟨_,rfl⟩
 replace H : ((spec_l6Rd_pick.f k s0_0 t129 8).bind fun bt133=>(if 0 ≤ bt133.1 then (if bt133.1 < (y130.length : Int) then (some (t119,rd y121 t124,t127,t128,rd y130 bt133.1,bt133.2)) else (none)) else (none))) = some (r1,r2,r3,r4,r5,r6):=Q162
 have Ny130:=Aside0.mk hy_
 clear hy_
 replace H:=Option.bind_eq_some_iff.mp H
 obtain ⟨⟨t133,t134⟩,A70,H⟩:=H
 replace H : (if 0 ≤ t133 then (if t133 < (y130.length : Int) then (some (t119,rd y121 t124,t127,t128,rd y130 t133,t134)) else (none)) else (none)) = some (r1,r2,r3,r4,r5,r6):=H
 have A7:=Aside0.mk A70
 clear A70
 have c8 : 0 ≤ t133:=nn_ H
 rw [if_pos c8] at H
 have c8b0 : decide (0 ≤ t133) = true:=decide_eq_true c8
 clear c8
 have c9 : t133 < (y130.length : Int):=nn_ H
 rw [if_pos c9] at H
 have c9b0 : decide (t133 < (y130.length : Int)) = true:=decide_eq_true c9
 clear c9
 simp only [Option.some.injEq,Prod.mk.injEq] at H
 obtain ⟨rfl,rfl,rfl,rfl,rfl,rfl⟩:=H
 go_enter Try.func70,Try.ntmps70
 try go_wp2_with (first|((with_reducible refine gate_dst (N:=2) rfl ?_);refine bE_ 2 #[.int .i64 0,.int .i64 0,.int .i64 0,.int .i64 0,.int .i64 0] 38 ?_;intro gb118 hg w10 hbox hb;replace HB:=am (below_step Q114 hb);have BK118:=am (hbox);have GW118:=am ((Q174 : w.heap.size ≤ gb118));have GE118:=am ((Nat.le_trans HW0.out (Q174 : w.heap.size ≤ gb118) : w0.heap.size ≤ gb118));replace HK:=am (KeepBut.trans Q87 (KeepBut.of_below hb g none) (.inl rfl));have NB0_118:=am ((by rw [hg];exact Nat.ne_of_lt (IsS87.lt (show IsS87 w0 _ g s0_0 s0_1 from by repeat (first|(with_reducible first|exact HI0.out|apply IsS87.alloc|apply IsS87.drewN|apply IsS87.drew|apply IsS87.set_1)|exact HI0.out))) : g ≠ gb118));have NB118_0:=am ((by rw [hg];exact Nat.ne_of_gt (IsS87.lt (show IsS87 w0 _ g s0_0 s0_1 from by repeat (first|(with_reducible first|exact HI0.out|apply IsS87.alloc|apply IsS87.drewN|apply IsS87.drew|apply IsS87.set_1)|exact HI0.out))) : gb118 ≠ g));replace HI0:=am (IsS87.below Q88 hb);clear hb hbox hg))
 have pi126 : (0 ≤ (t124 : Int)) = True:=eq_true (of_decide_eq_true Q8)
 have qi126 : (t124 < (y121.length : Int)) = True:=eq_true (of_decide_eq_true Q8)
 have pi135 : (0 ≤ (t133 : Int)) = True:=eq_true (of_decide_eq_true Q8)
 have qi135 : (t133 < (y130.length : Int)) = True:=eq_true (of_decide_eq_true Q8)
 replace BK118:=am (blk_drew BK118.out)
 replace HI0:=am (IsS87.drew HI0.out)
 replace HK:=am (keep_drew HK.out)
 replace HB:=am (below_drew1 HB.out)
 refine start_ (n:=16) (S:=fun w'=>True) (ds:=[]) b16_0 Q1 rfl rfl trivial (fun hHeld=>?_);refine with_tabW spec_l71Row.tab1 spec_l71Row.bits1 (fun HT_ HW_=>?_)
 generalize w10.drew = w11 at BK118 HI0 HK HB hHeld ⊢
 refine pU_ 0 3 b16_1 ?_
 refine pU_ 3 6 c2 ?_
 refine pU_ 7 10 c3 ?_
 refine pU_ 10 13 c4 ?_
 refine inv_at [1,2,4,5,6,8,9,11,12,13,14,15] (fun a0_ b a w'=>∃ (v122 : Value) (adz_v122 : Addr) (v131 : Value) (adz_v131 : Addr) (m5_ : Value) (m12_ : Value),a = putSel a0_ b [(1,4,.int .i64 t119),(2,5,v122),(4,7,.int .i64 t124),(5,8,m5_),(6,9,.int .i64 (rd y121 t124)),(8,11,.agg #[.int .i64 t127,.int .i64 t128]),(9,12,v131),(11,14,.int .i64 t133),(12,15,m12_),(13,16,.int .i64 (rd y130 t133)),(14,17,.agg #[.int .i64 t119,.int .i64 (rd y121 t124),.int .i64 t127,.int .i64 t128,.int .i64 (rd y130 t133)])] ∧ (b 15 = false → w'.heap[gb118]? = some (.cells #[.int .i64 0,.int .i64 0,.int .i64 0,.int .i64 0,.int .i64 0] 38 (0,0))) ∧ (b 1 = false → IsS87 w0 w' g s0_0 s0_1) ∧ (KeepBut w w' g none) ∧ (Below w0.heap.size w0 w') ∧ (b 1 = true → b 4 = false → IsS87 w0 w' g s0_0 t120) ∧ (b 2 = true → Kd.R (Kd.int .i64) 3 w' w.heap.size (fun _=>True) v122 y121) ∧ (b 2 = true → ∃ c_,(v122 : Value) = .slice (some adz_v122) y121.length c_) ∧ (b 4 = true → b 8 = false → IsS87 w0 w' g s0_0 t125) ∧ (b 8 = true → b 11 = false → IsS87 w0 w' g s0_0 t129) ∧ (b 9 = true → Kd.R (Kd.int .i64) 3 w' w.heap.size (fun _=>True) v131 y130) ∧ (b 9 = true → ∃ c_,(v131 : Value) = .slice (some adz_v131) y130.length c_) ∧ (b 11 = true → IsS87 w0 w' g s0_0 t134) ∧ (b 15 = true → w'.heap[gb118]? = some (.cells #[.int .i64 t119,.int .i64 (rd y121 t124),.int .i64 t127,.int .i64 t128,.int .i64 (rd y130 t133)] 38 (0,0))) ∧ (b 5 = true → (m5_ : Value) = .pointer (some (adz_v122.add (t124).toNat))) ∧ (b 12 = true → (m12_ : Value) = .pointer (some (adz_v131.add (t133).toNat)))) HT_.out HW_.out Q1 Q1 ?_ ?_ ?_
 ·exact ⟨.bool false,⟨0,0,none⟩,.bool false,⟨0,0,none⟩,.bool false,.bool false,by simp only [putSel,Bool.false_eq_true,if_false],fun _=>BK118.out,fun _=>HI0.out,HK.out,HB.out,fun h_=>absurd h_ Q0,fun h_=>absurd h_ Q0,fun h_=>absurd h_ Q0,fun h_=>absurd h_ Q0,fun h_=>absurd h_ Q0,fun h_=>absurd h_ Q0,fun h_=>absurd h_ Q0,fun h_=>absurd h_ Q0,fun h_=>absurd h_ Q0,fun h_=>absurd h_ Q0,fun h_=>absurd h_ Q0⟩
 ·skip
  clear BK118 HB HI0 HK
  refine steps_cons ?_ ?_
  ·rintro b a w' ⟨v122,adz_v122,v131,adz_v131,m5_,m12_,ha,Q_BK118,Q_HI0,Q_HK,Q_HB,Q_HI0_e1,Q_HO123,Q_HA_HO123,Q_HI0_e4,Q_HI0_e8,Q_HO132,Q_HA_HO132,Q_HI0_e11,Q_BK118_e15,Q_X5_,Q_X12_⟩ hb_ hon hoff
   refine ⟨_,rfl,fun K hK=>?_⟩
   have e3 : a.tmps[3]? = some (.pointer (some ⟨g,0,none⟩)):=by rw [ha];exact (putSel_off rfl).trans rfl
   replace ha:=Aside0.mk ha
   have BK118:=am (Q_BK118 (hoff 15 Q1))
   have HI0:=am (Q_HI0 hb_)
   have HK:=Aside0.mk Q_HK
   have HB:=Aside0.mk Q_HB
   refine goes_ Try.func68 Q1 rfl #[.pointer (some ⟨g,0,none⟩),.int .i64 4] (by rfl) rfl rfl (by first|(simp only [List.map_toArray,List.map_cons,List.map_nil,Act.eval,Array.getD_eq_getD_getElem?,Option.getD_some,e3];done)|(simp only [List.map_toArray,List.map_cons,List.map_nil,Act.eval,Array.getD_eq_getD_getElem?,Option.getD_some,e3];rfl)) ?_
   with_reducible refine (spec_l6Rd_pick.calls k g s0_0 s0_1 4 t119 t120 w0 _ ?side1 ?side2 A2.out).mono ?_
   (case side1=>exact Q129)
   (case side2=>exact Q145)
   rintro e w12 ⟨rfl,hi,hb,hk⟩
   refine ⟨_,rfl,?_⟩
   have n0_:=am (KeepBut.blk hk (g':=gb118) (o:=.cells #[.int .i64 0,.int .i64 0,.int .i64 0,.int .i64 0,.int .i64 0] 38 (0,0)) Q42 NB118_0.out (by simp))
   have n1_:=am (KeepBut.trans Q124 hk (.inl rfl))
   have n2_:=am (hb)
   have n3_:=am (hi)
   have z_HO123:=fun (h0_ : b 2 = true)=>(show Kd.R (Kd.int .i64) 3 w12 w.heap.size (fun _=>True) v122 y121 from by first|exact (Kd.R_mono (Kd.R_keep (IsS87.apart (show IsS87 w0 _ g s0_0 s0_1 from by repeat (first|(with_reducible first|exact HI0.out|apply IsS87.alloc|apply IsS87.drewN|apply IsS87.drew|apply IsS87.set_1|refine IsS87.far ?_ NB0_118.out _)|exact HI0.out)) Q39 Q0) hk (fun _ h=>h.2)) (fun _ h=>h.1))|exact Kd.R_mono (Kd.R_mono (Kd.R_keep (IsS87.apart (show IsS87 w0 _ g s0_0 s0_1 from by repeat (first|(with_reducible first|exact HI0.out|apply IsS87.alloc|apply IsS87.drewN|apply IsS87.drew|apply IsS87.set_1|refine IsS87.far ?_ NB0_118.out _)|exact HI0.out)) Q39 Q0) hk (fun _ h=>h.2)) (fun _ h=>h.1)) (fun _ h_=>by first|trivial|exact h_|exact h_.1))
   have z_HO132:=fun (h0_ : b 9 = true)=>(show Kd.R (Kd.int .i64) 3 w12 w.heap.size (fun _=>True) v131 y130 from by first|exact (Kd.R_mono (Kd.R_keep (IsS87.apart (show IsS87 w0 _ g s0_0 s0_1 from by repeat (first|(with_reducible first|exact HI0.out|apply IsS87.alloc|apply IsS87.drewN|apply IsS87.drew|apply IsS87.set_1|refine IsS87.far ?_ NB0_118.out _)|exact HI0.out)) Q40 Q0) hk (fun _ h=>h.2)) (fun _ h=>h.1))|exact Kd.R_mono (Kd.R_mono (Kd.R_keep (IsS87.apart (show IsS87 w0 _ g s0_0 s0_1 from by repeat (first|(with_reducible first|exact HI0.out|apply IsS87.alloc|apply IsS87.drewN|apply IsS87.drew|apply IsS87.set_1|refine IsS87.far ?_ NB0_118.out _)|exact HI0.out)) Q40 Q0) hk (fun _ h=>h.2)) (fun _ h=>h.1)) (fun _ h_=>by first|trivial|exact h_|exact h_.1))
   clear BK118
   clear HK
   clear HB
   clear HI0
   have BK118:=n0_
   have HK:=n1_
   have HB:=n2_
   have HI0:=n3_
   clear n0_ n1_ n2_ n3_
   (try clear hb)
   (try clear hb2)
   (try clear hk)
   (try clear hi)
   refine hK.out _ _ ⟨v122,adz_v122,v131,adz_v131,m5_,m12_,(by rw [ha.out];exact putSel_upk 0 hb_ rfl rfl rfl),fun _=>Q42,fun h0_=>absurd ((up_self b 1).symm.trans h0_) Q0,Q124,Q145,fun _ _=>Q129,z_HO123,Q_HA_HO123,fun h0_ _=>absurd ((hoff 4 Q1).symm.trans h0_) Q0,fun h0_ _=>absurd ((hoff 8 Q1).symm.trans h0_) Q0,z_HO132,Q_HA_HO132,fun h0_=>absurd ((hoff 11 Q1).symm.trans h0_) Q0,fun h0_=>absurd ((hoff 15 Q1).symm.trans h0_) Q0,fun h0_=>absurd ((hoff 5 Q1).symm.trans h0_) Q0,fun h0_=>absurd ((hoff 12 Q1).symm.trans h0_) Q0⟩
  refine steps_cons ?_ ?_
  ·rintro b a w' ⟨v122,adz_v122,v131,adz_v131,m5_,m12_,ha,Q_BK118,Q_HI0,Q_HK,Q_HB,Q_HI0_e1,Q_HO123,Q_HA_HO123,Q_HI0_e4,Q_HI0_e8,Q_HO132,Q_HA_HO132,Q_HI0_e11,Q_BK118_e15,Q_X5_,Q_X12_⟩ hb_ hon hoff
   refine ⟨_,rfl,fun K hK=>?_⟩
   replace ha:=Aside0.mk ha
   have BK118:=am (Q_BK118 (hoff 15 Q1))
   have HK:=Aside0.mk Q_HK
   have HB:=Aside0.mk Q_HB
   refine Kd.R_lit_step (Kd.int .i64) _ 3 ?hg (N:=5) ?hd (xs:=([0,1,2,3,4,9,10,57,99] : List Int)) (inner:=[.int .i64 0,.int .i64 1,.int .i64 2,.int .i64 3,.int .i64 4,.int .i64 9,.int .i64 10,.int .i64 57,.int .i64 99]) (ok:=fun _=>True) (okp:=fun _=>True) ?hr ?hp (fun _ hk=>hk) trivial (Below.refl _ _) (Nat.le_refl _) (by simp) ?_;(case hd=>rfl);(case hg=>rfl);(case hr=>first|(go_simp;done)|(go_simp;rfl));(case hp=>exact (Reps.one (show Kd.M (Kd.int .i64) _ _ _ 0 [.int .i64 0] from rfl) (Reps.one (show Kd.M (Kd.int .i64) _ _ _ 1 [.int .i64 1] from rfl) (Reps.one (show Kd.M (Kd.int .i64) _ _ _ 2 [.int .i64 2] from rfl) (Reps.one (show Kd.M (Kd.int .i64) _ _ _ 3 [.int .i64 3] from rfl) (Reps.one (show Kd.M (Kd.int .i64) _ _ _ 4 [.int .i64 4] from rfl) (Reps.one (show Kd.M (Kd.int .i64) _ _ _ 9 [.int .i64 9] from rfl) (Reps.one (show Kd.M (Kd.int .i64) _ _ _ 10 [.int .i64 10] from rfl) (Reps.one (show Kd.M (Kd.int .i64) _ _ _ 57 [.int .i64 57] from rfl) (Reps.one (show Kd.M (Kd.int .i64) _ _ _ 99 [.int .i64 99] from rfl) (Reps.none _ _)))))))))))
   intro v122 w12 ho13 hb hg_ hnew_
   clear hg_ hnew_
   (first|rw [← Ny121.out] at ho13|(simp only [Int.reduceToNat] at ho13;rw [← Ny121.out] at ho13))
   have n0_:=am (Kd.R_lower ho13 (keep_size (w:=w) (g:=g) (row:=none) Q124))
   have n2_:=am (blk_below (g:=gb118) (o:=.cells #[.int .i64 0,.int .i64 0,.int .i64 0,.int .i64 0,.int .i64 0] 38 (0,0)) Q42 hb)
   have n3_:=am (KeepBut.trans Q124 (KeepBut.of_below hb g none) (.inl rfl))
   have n4_:=am (below_step Q90 hb)
   have z_HI0:=fun (h0_ : b 1 = false)=>(show IsS87 w0 w12 g s0_0 s0_1 from by first|exact (IsS87.below (by repeat (first|(with_reducible first|exact (Q_HI0 h0_)|apply IsS87.alloc|apply IsS87.drewN|apply IsS87.drew|apply IsS87.set_1|refine IsS87.far ?_ NB0_118.out _)|exact (Q_HI0 h0_))) hb))
   have z_HI0_e1:=fun (h0_ : b 1 = true) (h1_ : b 4 = false)=>(show IsS87 w0 w12 g s0_0 t120 from by first|exact (IsS87.below (by repeat (first|(with_reducible first|exact (Q_HI0_e1 h0_ h1_)|apply IsS87.alloc|apply IsS87.drewN|apply IsS87.drew|apply IsS87.set_1|refine IsS87.far ?_ NB0_118.out _)|exact (Q_HI0_e1 h0_ h1_))) hb))
   have z_HI0_e4:=fun (h0_ : b 4 = true) (h1_ : b 8 = false)=>(show IsS87 w0 w12 g s0_0 t125 from by first|exact (IsS87.below (by repeat (first|(with_reducible first|exact (Q_HI0_e4 h0_ h1_)|apply IsS87.alloc|apply IsS87.drewN|apply IsS87.drew|apply IsS87.set_1|refine IsS87.far ?_ NB0_118.out _)|exact (Q_HI0_e4 h0_ h1_))) hb))
   have z_HI0_e8:=fun (h0_ : b 8 = true) (h1_ : b 11 = false)=>(show IsS87 w0 w12 g s0_0 t129 from by first|exact (IsS87.below (by repeat (first|(with_reducible first|exact (Q_HI0_e8 h0_ h1_)|apply IsS87.alloc|apply IsS87.drewN|apply IsS87.drew|apply IsS87.set_1|refine IsS87.far ?_ NB0_118.out _)|exact (Q_HI0_e8 h0_ h1_))) hb))
   have z_HO132:=fun (h0_ : b 9 = true)=>(show Kd.R (Kd.int .i64) 3 w12 w.heap.size (fun _=>True) v131 y130 from by first|exact (Kd.R_elder' Q40 (Kd.R_base ho13) hb)|exact Kd.R_mono (Kd.R_elder' Q40 (Kd.R_base ho13) hb) (fun _ h_=>by first|trivial|exact h_|exact h_.1))
   have z_HI0_e11:=fun (h0_ : b 11 = true)=>(show IsS87 w0 w12 g s0_0 t134 from by first|exact (IsS87.below (by repeat (first|(with_reducible first|exact (Q_HI0_e11 h0_)|apply IsS87.alloc|apply IsS87.drewN|apply IsS87.drew|apply IsS87.set_1|refine IsS87.far ?_ NB0_118.out _)|exact (Q_HI0_e11 h0_))) hb))
   clear BK118
   clear HK
   clear HB
   have HO123:=n0_
   have BK118:=n2_
   have HK:=n3_
   have HB:=n4_
   clear n0_ n2_ n3_ n4_
   clear hb ho13
   obtain ⟨Ao14,co14,eo14⟩:=Kd.R_slice HO123.out
   subst eo14
   obtain ⟨ado14,fo14,_⟩:=Kd.at_int (Kd.R_reads' HO123.out).2.2 0 Q0 (by rw [Ny121.out];simp)
   cases fo14
   refine hK.out _ _ ⟨.slice (some ado14) y121.length co14,ado14,v131,adz_v131,m5_,m12_,(by rw [ha.out];exact putSel_upk 1 hb_ rfl rfl rfl),fun _=>Q42,z_HI0,Q124,Q90,z_HI0_e1,fun _=>(by (with_reducible repeat (first|apply Kd.R_alloc|apply Kd.R_drewN|apply Kd.R_drew));exact HO123.out),fun _=>⟨_,rfl⟩,z_HI0_e4,z_HI0_e8,z_HO132,Q_HA_HO132,z_HI0_e11,fun h0_=>absurd ((hoff 15 Q1).symm.trans h0_) Q0,fun h0_=>absurd ((hoff 5 Q1).symm.trans h0_) Q0,Q_X12_⟩
  refine steps_cons ?_ ?_
  ·rintro b a w' ⟨v122,adz_v122,v131,adz_v131,m5_,m12_,ha,Q_BK118,Q_HI0,Q_HK,Q_HB,Q_HI0_e1,Q_HO123,Q_HA_HO123,Q_HI0_e4,Q_HI0_e8,Q_HO132,Q_HA_HO132,Q_HI0_e11,Q_BK118_e15,Q_X5_,Q_X12_⟩ hb_ hon hoff
   refine ⟨_,rfl,fun K hK=>?_⟩
   have e6 : a.tmps[6]? = some (.pointer (some ⟨g,0,none⟩)):=by rw [ha];exact (putSel_off rfl).trans rfl
   replace ha:=Aside0.mk ha
   have BK118:=am (Q_BK118 (hoff 15 Q1))
   have HK:=Aside0.mk Q_HK
   have HB:=Aside0.mk Q_HB
   have HI0:=am (Q_HI0_e1 (hon 1 Q1) hb_)
   refine goes_ Try.func68 Q1 rfl #[.pointer (some ⟨g,0,none⟩),.int .i64 9] (by rfl) rfl rfl (by first|(simp only [List.map_toArray,List.map_cons,List.map_nil,Act.eval,Array.getD_eq_getD_getElem?,Option.getD_some,e6];done)|(simp only [List.map_toArray,List.map_cons,List.map_nil,Act.eval,Array.getD_eq_getD_getElem?,Option.getD_some,e6];rfl)) ?_
   with_reducible refine (spec_l6Rd_pick.calls k g s0_0 t120 9 t124 t125 w0 _ ?side1 ?side2 A3.out).mono ?_
   (case side1=>exact Q129)
   (case side2=>exact Q145)
   rintro e w14 ⟨rfl,hi,hb,hk⟩
   refine ⟨_,rfl,?_⟩
   have n0_:=am (KeepBut.blk hk (g':=gb118) (o:=.cells #[.int .i64 0,.int .i64 0,.int .i64 0,.int .i64 0,.int .i64 0] 38 (0,0)) Q42 NB118_0.out (by simp))
   have n1_:=am (KeepBut.trans Q124 hk (.inl rfl))
   have n2_:=am (hb)
   have n3_:=am (hi)
   have z_HO123:=fun (h0_ : b 2 = true)=>(show Kd.R (Kd.int .i64) 3 w14 w.heap.size (fun _=>True) v122 y121 from by first|exact (Kd.R_mono (Kd.R_keep (IsS87.apart (show IsS87 w0 _ g s0_0 t120 from by repeat (first|(with_reducible first|exact HI0.out|apply IsS87.alloc|apply IsS87.drewN|apply IsS87.drew|apply IsS87.set_1|refine IsS87.far ?_ NB0_118.out _)|exact HI0.out)) Q39 Q0) hk (fun _ h=>h.2)) (fun _ h=>h.1))|exact Kd.R_mono (Kd.R_mono (Kd.R_keep (IsS87.apart (show IsS87 w0 _ g s0_0 t120 from by repeat (first|(with_reducible first|exact HI0.out|apply IsS87.alloc|apply IsS87.drewN|apply IsS87.drew|apply IsS87.set_1|refine IsS87.far ?_ NB0_118.out _)|exact HI0.out)) Q39 Q0) hk (fun _ h=>h.2)) (fun _ h=>h.1)) (fun _ h_=>by first|trivial|exact h_|exact h_.1))
   have z_HO132:=fun (h0_ : b 9 = true)=>(show Kd.R (Kd.int .i64) 3 w14 w.heap.size (fun _=>True) v131 y130 from by first|exact (Kd.R_mono (Kd.R_keep (IsS87.apart (show IsS87 w0 _ g s0_0 t120 from by repeat (first|(with_reducible first|exact HI0.out|apply IsS87.alloc|apply IsS87.drewN|apply IsS87.drew|apply IsS87.set_1|refine IsS87.far ?_ NB0_118.out _)|exact HI0.out)) Q40 Q0) hk (fun _ h=>h.2)) (fun _ h=>h.1))|exact Kd.R_mono (Kd.R_mono (Kd.R_keep (IsS87.apart (show IsS87 w0 _ g s0_0 t120 from by repeat (first|(with_reducible first|exact HI0.out|apply IsS87.alloc|apply IsS87.drewN|apply IsS87.drew|apply IsS87.set_1|refine IsS87.far ?_ NB0_118.out _)|exact HI0.out)) Q40 Q0) hk (fun _ h=>h.2)) (fun _ h=>h.1)) (fun _ h_=>by first|trivial|exact h_|exact h_.1))
   clear BK118
   clear HK
   clear HB
   clear HI0
   have BK118:=n0_
   have HK:=n1_
   have HB:=n2_
   have HI0:=n3_
   clear n0_ n1_ n2_ n3_
   (try clear hb)
   (try clear hb2)
   (try clear hk)
   (try clear hi)
   refine hK.out _ _ ⟨v122,adz_v122,v131,adz_v131,m5_,m12_,(by rw [ha.out];exact putSel_upk 2 hb_ rfl rfl rfl),fun _=>Q42,fun h0_=>absurd ((hon 1 Q1).symm.trans h0_) Q0,Q124,Q145,fun _ h1_=>absurd ((up_self b 4).symm.trans h1_) Q0,z_HO123,Q_HA_HO123,fun _ _=>Q129,fun h0_ _=>absurd ((hoff 8 Q1).symm.trans h0_) Q0,z_HO132,Q_HA_HO132,fun h0_=>absurd ((hoff 11 Q1).symm.trans h0_) Q0,fun h0_=>absurd ((hoff 15 Q1).symm.trans h0_) Q0,fun h0_=>absurd ((hoff 5 Q1).symm.trans h0_) Q0,fun h0_=>absurd ((hoff 12 Q1).symm.trans h0_) Q0⟩
  refine steps_cons ?_ ?_
  ·rintro b a w' ⟨v122,adz_v122,v131,adz_v131,m5_,m12_,ha,Q_BK118,Q_HI0,Q_HK,Q_HB,Q_HI0_e1,Q_HO123,Q_HA_HO123,Q_HI0_e4,Q_HI0_e8,Q_HO132,Q_HA_HO132,Q_HI0_e11,Q_BK118_e15,Q_X5_,Q_X12_⟩ hb_ hon hoff
   refine ⟨_,rfl,fun K hK=>?_⟩
   have e5 : a.tmps[5]? = some (v122):=by rw [ha];exact putSel_on (e:=(2,5,v122)) 1 rfl rfl (hon 2 Q1) rfl
   have e7 : a.tmps[7]? = some (.int .i64 t124):=by rw [ha];exact putSel_on (e:=(4,7,.int .i64 t124)) 2 rfl rfl (hon 4 Q1) rfl
   replace ha:=Aside0.mk ha
   have BK118:=am (Q_BK118 (hoff 15 Q1))
   have HK:=Aside0.mk Q_HK
   have HB:=Aside0.mk Q_HB
   have HO123:=am (Q_HO123 (hon 2 Q1))
   have HA_HO123:=am (Q_HA_HO123 (hon 2 Q1))
   obtain ⟨c_,hv_⟩:=HA_HO123.out
   rw [hv_] at e5
   refine value_ (w1:=w') (v:=.pointer (some (adz_v122.add (t124).toNat))) (by rfl) rfl ?_ ?_
   ·go_simp
    (try simp only [i64_w])
    try rfl
   refine hK.out _ _ ⟨v122,adz_v122,v131,adz_v131,(.pointer (some (adz_v122.add (t124).toNat))),m12_,(by rw [ha.out];exact putSel_upk 3 hb_ rfl rfl rfl),Q_BK118,fun h0_=>absurd ((hon 1 Q1).symm.trans h0_) Q0,Q_HK,Q_HB,fun _ h1_=>absurd ((hon 4 Q1).symm.trans h1_) Q0,Q_HO123,Q_HA_HO123,Q_HI0_e4,Q_HI0_e8,Q_HO132,Q_HA_HO132,Q_HI0_e11,fun h0_=>absurd ((hoff 15 Q1).symm.trans h0_) Q0,fun _=>rfl,Q_X12_⟩
  refine steps_cons ?_ ?_
  ·rintro b a w' ⟨v122,adz_v122,v131,adz_v131,m5_,m12_,ha,Q_BK118,Q_HI0,Q_HK,Q_HB,Q_HI0_e1,Q_HO123,Q_HA_HO123,Q_HI0_e4,Q_HI0_e8,Q_HO132,Q_HA_HO132,Q_HI0_e11,Q_BK118_e15,Q_X5_,Q_X12_⟩ hb_ hon hoff
   refine ⟨_,rfl,fun K hK=>?_⟩
   have e8 : a.tmps[8]? = some (m5_):=by rw [ha];exact putSel_on (e:=(5,8,m5_)) 3 rfl rfl (hon 5 Q1) rfl
   rw [Q_X5_ (hon 5 Q1)] at e8
   replace ha:=Aside0.mk ha
   have BK118:=am (Q_BK118 (hoff 15 Q1))
   have HK:=Aside0.mk Q_HK
   have HB:=Aside0.mk Q_HB
   have HO123:=am (Q_HO123 (hon 2 Q1))
   have HA_HO123:=am (Q_HA_HO123 (hon 2 Q1))
   obtain ⟨c_,hv_⟩:=HA_HO123.out
   have hF_:=HO123.out
   rw [hv_] at hF_
   obtain ⟨ad_,ea_,hx_⟩:=Kd.at_int (Kd.R_reads' hF_).2.2 t124 (of_eq_true pi126) (of_eq_true qi126)
   cases ea_
   refine value_ (w1:=w') (v:=.int .i64 (rd y121 t124)) (by rfl) rfl ?_ ?_
   ·go_simp
    (try simp only [i64_w])
    try rfl
   refine hK.out _ _ ⟨v122,adz_v122,v131,adz_v131,m5_,m12_,(by rw [ha.out];exact putSel_upk 4 hb_ rfl rfl rfl),Q_BK118,fun h0_=>absurd ((hon 1 Q1).symm.trans h0_) Q0,Q_HK,Q_HB,fun _ h1_=>absurd ((hon 4 Q1).symm.trans h1_) Q0,Q_HO123,Q_HA_HO123,Q_HI0_e4,Q_HI0_e8,Q_HO132,Q_HA_HO132,Q_HI0_e11,fun h0_=>absurd ((hoff 15 Q1).symm.trans h0_) Q0,Q_X5_,Q_X12_⟩
  refine steps_cons ?_ ?_
  ·rintro b a w' ⟨v122,adz_v122,v131,adz_v131,m5_,m12_,ha,Q_BK118,Q_HI0,Q_HK,Q_HB,Q_HI0_e1,Q_HO123,Q_HA_HO123,Q_HI0_e4,Q_HI0_e8,Q_HO132,Q_HA_HO132,Q_HI0_e11,Q_BK118_e15,Q_X5_,Q_X12_⟩ hb_ hon hoff
   refine ⟨_,rfl,fun K hK=>?_⟩
   have e10 : a.tmps[10]? = some (.pointer (some ⟨g,0,none⟩)):=by rw [ha];exact (putSel_off rfl).trans rfl
   replace ha:=Aside0.mk ha
   have BK118:=am (Q_BK118 (hoff 15 Q1))
   have HK:=Aside0.mk Q_HK
   have HB:=Aside0.mk Q_HB
   have HI0:=am (Q_HI0_e4 (hon 4 Q1) hb_)
   refine goes_ Try.func92 Q1 rfl #[.pointer (some ⟨g,0,none⟩)] (by rfl) rfl rfl (by first|(simp only [List.map_toArray,List.map_cons,List.map_nil,Act.eval,Array.getD_eq_getD_getElem?,Option.getD_some,e10];done)|(simp only [List.map_toArray,List.map_cons,List.map_nil,Act.eval,Array.getD_eq_getD_getElem?,Option.getD_some,e10];rfl)) ?_
   with_reducible refine (spec_l71Time.calls k g s0_0 t125 t127 t128 t129 w0 _ ?side1 ?side2 A6.out).mono ?_
   (case side1=>exact Q129)
   (case side2=>exact Q145)
   rintro e w15 ⟨rfl,hi,hb,hk⟩
   refine ⟨_,rfl,?_⟩
   have n0_:=am (KeepBut.blk hk (g':=gb118) (o:=.cells #[.int .i64 0,.int .i64 0,.int .i64 0,.int .i64 0,.int .i64 0] 38 (0,0)) Q42 NB118_0.out (by simp))
   have n1_:=am (KeepBut.trans Q124 hk (.inl rfl))
   have n2_:=am (hb)
   have n3_:=am (hi)
   have z_HO123:=fun (h0_ : b 2 = true)=>(show Kd.R (Kd.int .i64) 3 w15 w.heap.size (fun _=>True) v122 y121 from by first|exact (Kd.R_mono (Kd.R_keep (IsS87.apart (show IsS87 w0 _ g s0_0 t125 from by repeat (first|(with_reducible first|exact HI0.out|apply IsS87.alloc|apply IsS87.drewN|apply IsS87.drew|apply IsS87.set_1|refine IsS87.far ?_ NB0_118.out _)|exact HI0.out)) Q39 Q0) hk (fun _ h=>h.2)) (fun _ h=>h.1))|exact Kd.R_mono (Kd.R_mono (Kd.R_keep (IsS87.apart (show IsS87 w0 _ g s0_0 t125 from by repeat (first|(with_reducible first|exact HI0.out|apply IsS87.alloc|apply IsS87.drewN|apply IsS87.drew|apply IsS87.set_1|refine IsS87.far ?_ NB0_118.out _)|exact HI0.out)) Q39 Q0) hk (fun _ h=>h.2)) (fun _ h=>h.1)) (fun _ h_=>by first|trivial|exact h_|exact h_.1))
   have z_HO132:=fun (h0_ : b 9 = true)=>(show Kd.R (Kd.int .i64) 3 w15 w.heap.size (fun _=>True) v131 y130 from by first|exact (Kd.R_mono (Kd.R_keep (IsS87.apart (show IsS87 w0 _ g s0_0 t125 from by repeat (first|(with_reducible first|exact HI0.out|apply IsS87.alloc|apply IsS87.drewN|apply IsS87.drew|apply IsS87.set_1|refine IsS87.far ?_ NB0_118.out _)|exact HI0.out)) Q40 Q0) hk (fun _ h=>h.2)) (fun _ h=>h.1))|exact Kd.R_mono (Kd.R_mono (Kd.R_keep (IsS87.apart (show IsS87 w0 _ g s0_0 t125 from by repeat (first|(with_reducible first|exact HI0.out|apply IsS87.alloc|apply IsS87.drewN|apply IsS87.drew|apply IsS87.set_1|refine IsS87.far ?_ NB0_118.out _)|exact HI0.out)) Q40 Q0) hk (fun _ h=>h.2)) (fun _ h=>h.1)) (fun _ h_=>by first|trivial|exact h_|exact h_.1))
   clear BK118
   clear HK
   clear HB
   clear HI0
   have BK118:=n0_
   have HK:=n1_
   have HB:=n2_
   have HI0:=n3_
   clear n0_ n1_ n2_ n3_
   (try clear hb)
   (try clear hb2)
   (try clear hk)
   (try clear hi)
   refine hK.out _ _ ⟨v122,adz_v122,v131,adz_v131,m5_,m12_,(by rw [ha.out];exact putSel_upk 5 hb_ rfl rfl rfl),fun _=>Q42,fun h0_=>absurd ((hon 1 Q1).symm.trans h0_) Q0,Q124,Q145,fun _ h1_=>absurd ((hon 4 Q1).symm.trans h1_) Q0,z_HO123,Q_HA_HO123,fun _ h1_=>absurd ((up_self b 8).symm.trans h1_) Q0,fun _ _=>Q129,z_HO132,Q_HA_HO132,fun h0_=>absurd ((hoff 11 Q1).symm.trans h0_) Q0,fun h0_=>absurd ((hoff 15 Q1).symm.trans h0_) Q0,Q_X5_,fun h0_=>absurd ((hoff 12 Q1).symm.trans h0_) Q0⟩
  refine steps_cons ?_ ?_
  ·rintro b a w' ⟨v122,adz_v122,v131,adz_v131,m5_,m12_,ha,Q_BK118,Q_HI0,Q_HK,Q_HB,Q_HI0_e1,Q_HO123,Q_HA_HO123,Q_HI0_e4,Q_HI0_e8,Q_HO132,Q_HA_HO132,Q_HI0_e11,Q_BK118_e15,Q_X5_,Q_X12_⟩ hb_ hon hoff
   refine ⟨_,rfl,fun K hK=>?_⟩
   replace ha:=Aside0.mk ha
   have BK118:=am (Q_BK118 (hoff 15 Q1))
   have HK:=Aside0.mk Q_HK
   have HB:=Aside0.mk Q_HB
   refine Kd.R_lit_step (Kd.int .i64) _ 3 ?hg (N:=12) ?hd (xs:=([1,1,1,2,(-1),(-1),3,0] : List Int)) (inner:=[.int .i64 1,.int .i64 1,.int .i64 1,.int .i64 2,.int .i64 (-1),.int .i64 (-1),.int .i64 3,.int .i64 0]) (ok:=fun _=>True) (okp:=fun _=>True) ?hr ?hp (fun _ hk=>hk) trivial (Below.refl _ _) (Nat.le_refl _) (by simp) ?_;(case hd=>rfl);(case hg=>rfl);(case hr=>first|(go_simp;done)|(go_simp;rfl));(case hp=>exact (Reps.one (show Kd.M (Kd.int .i64) _ _ _ 1 [.int .i64 1] from rfl) (Reps.one (show Kd.M (Kd.int .i64) _ _ _ 1 [.int .i64 1] from rfl) (Reps.one (show Kd.M (Kd.int .i64) _ _ _ 1 [.int .i64 1] from rfl) (Reps.one (show Kd.M (Kd.int .i64) _ _ _ 2 [.int .i64 2] from rfl) (Reps.one (show Kd.M (Kd.int .i64) _ _ _ (-1) [.int .i64 (-1)] from rfl) (Reps.one (show Kd.M (Kd.int .i64) _ _ _ (-1) [.int .i64 (-1)] from rfl) (Reps.one (show Kd.M (Kd.int .i64) _ _ _ 3 [.int .i64 3] from rfl) (Reps.one (show Kd.M (Kd.int .i64) _ _ _ 0 [.int .i64 0] from rfl) (Reps.none _ _))))))))))
   intro v131 w12 ho13 hb hg_ hnew_
   clear hg_ hnew_
   (first|rw [← Ny130.out] at ho13|(simp only [Int.reduceToNat] at ho13;rw [← Ny130.out] at ho13))
   have n0_:=am (Kd.R_lower ho13 (keep_size (w:=w) (g:=g) (row:=none) Q124))
   have n2_:=am (blk_below (g:=gb118) (o:=.cells #[.int .i64 0,.int .i64 0,.int .i64 0,.int .i64 0,.int .i64 0] 38 (0,0)) Q42 hb)
   have n3_:=am (KeepBut.trans Q124 (KeepBut.of_below hb g none) (.inl rfl))
   have n4_:=am (below_step Q90 hb)
   have z_HI0:=fun (h0_ : b 1 = false)=>(show IsS87 w0 w12 g s0_0 s0_1 from by first|exact (IsS87.below (by repeat (first|(with_reducible first|exact (Q_HI0 h0_)|apply IsS87.alloc|apply IsS87.drewN|apply IsS87.drew|apply IsS87.set_1|refine IsS87.far ?_ NB0_118.out _)|exact (Q_HI0 h0_))) hb))
   have z_HI0_e1:=fun (h0_ : b 1 = true) (h1_ : b 4 = false)=>(show IsS87 w0 w12 g s0_0 t120 from by first|exact (IsS87.below (by repeat (first|(with_reducible first|exact (Q_HI0_e1 h0_ h1_)|apply IsS87.alloc|apply IsS87.drewN|apply IsS87.drew|apply IsS87.set_1|refine IsS87.far ?_ NB0_118.out _)|exact (Q_HI0_e1 h0_ h1_))) hb))
   have z_HO123:=fun (h0_ : b 2 = true)=>(show Kd.R (Kd.int .i64) 3 w12 w.heap.size (fun _=>True) v122 y121 from by first|exact (Kd.R_elder' Q39 (Kd.R_base ho13) hb)|exact Kd.R_mono (Kd.R_elder' Q39 (Kd.R_base ho13) hb) (fun _ h_=>by first|trivial|exact h_|exact h_.1))
   have z_HI0_e4:=fun (h0_ : b 4 = true) (h1_ : b 8 = false)=>(show IsS87 w0 w12 g s0_0 t125 from by first|exact (IsS87.below (by repeat (first|(with_reducible first|exact (Q_HI0_e4 h0_ h1_)|apply IsS87.alloc|apply IsS87.drewN|apply IsS87.drew|apply IsS87.set_1|refine IsS87.far ?_ NB0_118.out _)|exact (Q_HI0_e4 h0_ h1_))) hb))
   have z_HI0_e8:=fun (h0_ : b 8 = true) (h1_ : b 11 = false)=>(show IsS87 w0 w12 g s0_0 t129 from by first|exact (IsS87.below (by repeat (first|(with_reducible first|exact (Q_HI0_e8 h0_ h1_)|apply IsS87.alloc|apply IsS87.drewN|apply IsS87.drew|apply IsS87.set_1|refine IsS87.far ?_ NB0_118.out _)|exact (Q_HI0_e8 h0_ h1_))) hb))
   have z_HI0_e11:=fun (h0_ : b 11 = true)=>(show IsS87 w0 w12 g s0_0 t134 from by first|exact (IsS87.below (by repeat (first|(with_reducible first|exact (Q_HI0_e11 h0_)|apply IsS87.alloc|apply IsS87.drewN|apply IsS87.drew|apply IsS87.set_1|refine IsS87.far ?_ NB0_118.out _)|exact (Q_HI0_e11 h0_))) hb))
   clear BK118
   clear HK
   clear HB
   have HO132:=n0_
   have BK118:=n2_
   have HK:=n3_
   have HB:=n4_
   clear n0_ n2_ n3_ n4_
   clear hb ho13
   obtain ⟨Ao14,co14,eo14⟩:=Kd.R_slice HO132.out
   subst eo14
   obtain ⟨ado14,fo14,_⟩:=Kd.at_int (Kd.R_reads' HO132.out).2.2 0 Q0 (by rw [Ny130.out];simp)
   cases fo14
   refine hK.out _ _ ⟨v122,adz_v122,.slice (some ado14) y130.length co14,ado14,m5_,m12_,(by rw [ha.out];exact putSel_upk 6 hb_ rfl rfl rfl),fun _=>Q42,z_HI0,Q124,Q90,z_HI0_e1,z_HO123,Q_HA_HO123,z_HI0_e4,z_HI0_e8,fun _=>(by (with_reducible repeat (first|apply Kd.R_alloc|apply Kd.R_drewN|apply Kd.R_drew));exact HO132.out),fun _=>⟨_,rfl⟩,z_HI0_e11,fun h0_=>absurd ((hoff 15 Q1).symm.trans h0_) Q0,Q_X5_,fun h0_=>absurd ((hoff 12 Q1).symm.trans h0_) Q0⟩
  refine steps_cons ?_ ?_
  ·rintro b a w' ⟨v122,adz_v122,v131,adz_v131,m5_,m12_,ha,Q_BK118,Q_HI0,Q_HK,Q_HB,Q_HI0_e1,Q_HO123,Q_HA_HO123,Q_HI0_e4,Q_HI0_e8,Q_HO132,Q_HA_HO132,Q_HI0_e11,Q_BK118_e15,Q_X5_,Q_X12_⟩ hb_ hon hoff
   refine ⟨_,rfl,fun K hK=>?_⟩
   have e13 : a.tmps[13]? = some (.pointer (some ⟨g,0,none⟩)):=by rw [ha];exact (putSel_off rfl).trans rfl
   replace ha:=Aside0.mk ha
   have BK118:=am (Q_BK118 (hoff 15 Q1))
   have HK:=Aside0.mk Q_HK
   have HB:=Aside0.mk Q_HB
   have HI0:=am (Q_HI0_e8 (hon 8 Q1) hb_)
   refine goes_ Try.func68 Q1 rfl #[.pointer (some ⟨g,0,none⟩),.int .i64 8] (by rfl) rfl rfl (by first|(simp only [List.map_toArray,List.map_cons,List.map_nil,Act.eval,Array.getD_eq_getD_getElem?,Option.getD_some,e13];done)|(simp only [List.map_toArray,List.map_cons,List.map_nil,Act.eval,Array.getD_eq_getD_getElem?,Option.getD_some,e13];rfl)) ?_
   with_reducible refine (spec_l6Rd_pick.calls k g s0_0 t129 8 t133 t134 w0 _ ?side1 ?side2 A7.out).mono ?_
   (case side1=>exact Q129)
   (case side2=>exact Q145)
   rintro e w16 ⟨rfl,hi,hb,hk⟩
   refine ⟨_,rfl,?_⟩
   have n0_:=am (KeepBut.blk hk (g':=gb118) (o:=.cells #[.int .i64 0,.int .i64 0,.int .i64 0,.int .i64 0,.int .i64 0] 38 (0,0)) Q42 NB118_0.out (by simp))
   have n1_:=am (KeepBut.trans Q124 hk (.inl rfl))
   have n2_:=am (hb)
   have n3_:=am (hi)
   have z_HO123:=fun (h0_ : b 2 = true)=>(show Kd.R (Kd.int .i64) 3 w16 w.heap.size (fun _=>True) v122 y121 from by first|exact (Kd.R_mono (Kd.R_keep (IsS87.apart (show IsS87 w0 _ g s0_0 t129 from by repeat (first|(with_reducible first|exact HI0.out|apply IsS87.alloc|apply IsS87.drewN|apply IsS87.drew|apply IsS87.set_1|refine IsS87.far ?_ NB0_118.out _)|exact HI0.out)) Q39 Q0) hk (fun _ h=>h.2)) (fun _ h=>h.1))|exact Kd.R_mono (Kd.R_mono (Kd.R_keep (IsS87.apart (show IsS87 w0 _ g s0_0 t129 from by repeat (first|(with_reducible first|exact HI0.out|apply IsS87.alloc|apply IsS87.drewN|apply IsS87.drew|apply IsS87.set_1|refine IsS87.far ?_ NB0_118.out _)|exact HI0.out)) Q39 Q0) hk (fun _ h=>h.2)) (fun _ h=>h.1)) (fun _ h_=>by first|trivial|exact h_|exact h_.1))
   have z_HO132:=fun (h0_ : b 9 = true)=>(show Kd.R (Kd.int .i64) 3 w16 w.heap.size (fun _=>True) v131 y130 from by first|exact (Kd.R_mono (Kd.R_keep (IsS87.apart (show IsS87 w0 _ g s0_0 t129 from by repeat (first|(with_reducible first|exact HI0.out|apply IsS87.alloc|apply IsS87.drewN|apply IsS87.drew|apply IsS87.set_1|refine IsS87.far ?_ NB0_118.out _)|exact HI0.out)) Q40 Q0) hk (fun _ h=>h.2)) (fun _ h=>h.1))|exact Kd.R_mono (Kd.R_mono (Kd.R_keep (IsS87.apart (show IsS87 w0 _ g s0_0 t129 from by repeat (first|(with_reducible first|exact HI0.out|apply IsS87.alloc|apply IsS87.drewN|apply IsS87.drew|apply IsS87.set_1|refine IsS87.far ?_ NB0_118.out _)|exact HI0.out)) Q40 Q0) hk (fun _ h=>h.2)) (fun _ h=>h.1)) (fun _ h_=>by first|trivial|exact h_|exact h_.1))
   clear BK118
   clear HK
   clear HB
   clear HI0
   have BK118:=n0_
   have HK:=n1_
   have HB:=n2_
   have HI0:=n3_
   clear n0_ n1_ n2_ n3_
   (try clear hb)
   (try clear hb2)
   (try clear hk)
   (try clear hi)
   refine hK.out _ _ ⟨v122,adz_v122,v131,adz_v131,m5_,m12_,(by rw [ha.out];exact putSel_upk 7 hb_ rfl rfl rfl),fun _=>Q42,fun h0_=>absurd ((hon 1 Q1).symm.trans h0_) Q0,Q124,Q145,fun _ h1_=>absurd ((hon 4 Q1).symm.trans h1_) Q0,z_HO123,Q_HA_HO123,fun _ h1_=>absurd ((hon 8 Q1).symm.trans h1_) Q0,fun _ h1_=>absurd ((up_self b 11).symm.trans h1_) Q0,z_HO132,Q_HA_HO132,fun _=>Q129,fun h0_=>absurd ((hoff 15 Q1).symm.trans h0_) Q0,Q_X5_,fun h0_=>absurd ((hoff 12 Q1).symm.trans h0_) Q0⟩
  refine steps_cons ?_ ?_
  ·rintro b a w' ⟨v122,adz_v122,v131,adz_v131,m5_,m12_,ha,Q_BK118,Q_HI0,Q_HK,Q_HB,Q_HI0_e1,Q_HO123,Q_HA_HO123,Q_HI0_e4,Q_HI0_e8,Q_HO132,Q_HA_HO132,Q_HI0_e11,Q_BK118_e15,Q_X5_,Q_X12_⟩ hb_ hon hoff
   refine ⟨_,rfl,fun K hK=>?_⟩
   have e12 : a.tmps[12]? = some (v131):=by rw [ha];exact putSel_on (e:=(9,12,v131)) 6 rfl rfl (hon 9 Q1) rfl
   have e14 : a.tmps[14]? = some (.int .i64 t133):=by rw [ha];exact putSel_on (e:=(11,14,.int .i64 t133)) 7 rfl rfl (hon 11 Q1) rfl
   replace ha:=Aside0.mk ha
   have BK118:=am (Q_BK118 (hoff 15 Q1))
   have HK:=Aside0.mk Q_HK
   have HB:=Aside0.mk Q_HB
   have HO132:=am (Q_HO132 (hon 9 Q1))
   have HA_HO132:=am (Q_HA_HO132 (hon 9 Q1))
   have HI0:=am (Q_HI0_e11 (hon 11 Q1))
   obtain ⟨c_,hv_⟩:=HA_HO132.out
   rw [hv_] at e12
   refine value_ (w1:=w') (v:=.pointer (some (adz_v131.add (t133).toNat))) (by rfl) rfl ?_ ?_
   ·go_simp
    (try simp only [i64_w])
    try rfl
   refine hK.out _ _ ⟨v122,adz_v122,v131,adz_v131,m5_,(.pointer (some (adz_v131.add (t133).toNat))),(by rw [ha.out];exact putSel_upk 8 hb_ rfl rfl rfl),Q_BK118,fun h0_=>absurd ((hon 1 Q1).symm.trans h0_) Q0,Q_HK,Q_HB,fun _ h1_=>absurd ((hon 4 Q1).symm.trans h1_) Q0,Q_HO123,Q_HA_HO123,fun _ h1_=>absurd ((hon 8 Q1).symm.trans h1_) Q0,fun _ h1_=>absurd ((hon 11 Q1).symm.trans h1_) Q0,Q_HO132,Q_HA_HO132,Q_HI0_e11,fun h0_=>absurd ((hoff 15 Q1).symm.trans h0_) Q0,Q_X5_,fun _=>rfl⟩
  refine steps_cons ?_ ?_
  ·rintro b a w' ⟨v122,adz_v122,v131,adz_v131,m5_,m12_,ha,Q_BK118,Q_HI0,Q_HK,Q_HB,Q_HI0_e1,Q_HO123,Q_HA_HO123,Q_HI0_e4,Q_HI0_e8,Q_HO132,Q_HA_HO132,Q_HI0_e11,Q_BK118_e15,Q_X5_,Q_X12_⟩ hb_ hon hoff
   refine ⟨_,rfl,fun K hK=>?_⟩
   have e15 : a.tmps[15]? = some (m12_):=by rw [ha];exact putSel_on (e:=(12,15,m12_)) 8 rfl rfl (hon 12 Q1) rfl
   rw [Q_X12_ (hon 12 Q1)] at e15
   replace ha:=Aside0.mk ha
   have BK118:=am (Q_BK118 (hoff 15 Q1))
   have HK:=Aside0.mk Q_HK
   have HB:=Aside0.mk Q_HB
   have HO132:=am (Q_HO132 (hon 9 Q1))
   have HA_HO132:=am (Q_HA_HO132 (hon 9 Q1))
   have HI0:=am (Q_HI0_e11 (hon 11 Q1))
   obtain ⟨c_,hv_⟩:=HA_HO132.out
   have hF_:=HO132.out
   rw [hv_] at hF_
   obtain ⟨ad_,ea_,hx_⟩:=Kd.at_int (Kd.R_reads' hF_).2.2 t133 (of_eq_true pi135) (of_eq_true qi135)
   cases ea_
   refine value_ (w1:=w') (v:=.int .i64 (rd y130 t133)) (by rfl) rfl ?_ ?_
   ·go_simp
    (try simp only [i64_w])
    try rfl
   refine hK.out _ _ ⟨v122,adz_v122,v131,adz_v131,m5_,m12_,(by rw [ha.out];exact putSel_upk 9 hb_ rfl rfl rfl),Q_BK118,fun h0_=>absurd ((hon 1 Q1).symm.trans h0_) Q0,Q_HK,Q_HB,fun _ h1_=>absurd ((hon 4 Q1).symm.trans h1_) Q0,Q_HO123,Q_HA_HO123,fun _ h1_=>absurd ((hon 8 Q1).symm.trans h1_) Q0,fun _ h1_=>absurd ((hon 11 Q1).symm.trans h1_) Q0,Q_HO132,Q_HA_HO132,Q_HI0_e11,fun h0_=>absurd ((hoff 15 Q1).symm.trans h0_) Q0,Q_X5_,Q_X12_⟩
  refine steps_cons ?_ ?_
  ·rintro b a w' ⟨v122,adz_v122,v131,adz_v131,m5_,m12_,ha,Q_BK118,Q_HI0,Q_HK,Q_HB,Q_HI0_e1,Q_HO123,Q_HA_HO123,Q_HI0_e4,Q_HI0_e8,Q_HO132,Q_HA_HO132,Q_HI0_e11,Q_BK118_e15,Q_X5_,Q_X12_⟩ hb_ hon hoff
   refine ⟨_,rfl,fun K hK=>?_⟩
   have e4 : a.tmps[4]? = some (.int .i64 t119):=by rw [ha];exact putSel_on (e:=(1,4,.int .i64 t119)) 0 rfl rfl (hon 1 Q1) rfl
   have e9 : a.tmps[9]? = some (.int .i64 (rd y121 t124)):=by rw [ha];exact putSel_on (e:=(6,9,.int .i64 (rd y121 t124))) 4 rfl rfl (hon 6 Q1) rfl
   have e11 : a.tmps[11]? = some (.agg #[.int .i64 t127,.int .i64 t128]):=by rw [ha];exact putSel_on (e:=(8,11,.agg #[.int .i64 t127,.int .i64 t128])) 5 rfl rfl (hon 8 Q1) rfl
   have e16 : a.tmps[16]? = some (.int .i64 (rd y130 t133)):=by rw [ha];exact putSel_on (e:=(13,16,.int .i64 (rd y130 t133))) 9 rfl rfl (hon 13 Q1) rfl
   replace ha:=Aside0.mk ha
   have BK118:=am (Q_BK118 (hoff 15 Q1))
   have HK:=Aside0.mk Q_HK
   have HB:=Aside0.mk Q_HB
   have HO123:=am (Q_HO123 (hon 2 Q1))
   have HA_HO123:=am (Q_HA_HO123 (hon 2 Q1))
   have HO132:=am (Q_HO132 (hon 9 Q1))
   have HA_HO132:=am (Q_HA_HO132 (hon 9 Q1))
   have HI0:=am (Q_HI0_e11 (hon 11 Q1))
   refine value_ (w1:=w') (v:=.agg #[.int .i64 t119,.int .i64 (rd y121 t124),.int .i64 t127,.int .i64 t128,.int .i64 (rd y130 t133)]) (by rfl) rfl ?_ ?_
   ·go_simp
    (try simp only [i64_w])
    try rfl
   refine hK.out _ _ ⟨v122,adz_v122,v131,adz_v131,m5_,m12_,(by rw [ha.out];exact putSel_upk 10 hb_ rfl rfl rfl),Q_BK118,fun h0_=>absurd ((hon 1 Q1).symm.trans h0_) Q0,Q_HK,Q_HB,fun _ h1_=>absurd ((hon 4 Q1).symm.trans h1_) Q0,Q_HO123,Q_HA_HO123,fun _ h1_=>absurd ((hon 8 Q1).symm.trans h1_) Q0,fun _ h1_=>absurd ((hon 11 Q1).symm.trans h1_) Q0,Q_HO132,Q_HA_HO132,Q_HI0_e11,fun h0_=>absurd ((hoff 15 Q1).symm.trans h0_) Q0,Q_X5_,Q_X12_⟩
  refine steps_cons ?_ ?_
  ·rintro b a w' ⟨v122,adz_v122,v131,adz_v131,m5_,m12_,ha,Q_BK118,Q_HI0,Q_HK,Q_HB,Q_HI0_e1,Q_HO123,Q_HA_HO123,Q_HI0_e4,Q_HI0_e8,Q_HO132,Q_HA_HO132,Q_HI0_e11,Q_BK118_e15,Q_X5_,Q_X12_⟩ hb_ hon hoff
   refine ⟨_,rfl,fun K hK=>?_⟩
   have e2 : a.tmps[2]? = some (.pointer (some ⟨gb118,0,none⟩)):=by rw [ha];exact (putSel_off rfl).trans rfl
   have e17 : a.tmps[17]? = some (.agg #[.int .i64 t119,.int .i64 (rd y121 t124),.int .i64 t127,.int .i64 t128,.int .i64 (rd y130 t133)]):=by rw [ha];exact putSel_on (e:=(14,17,.agg #[.int .i64 t119,.int .i64 (rd y121 t124),.int .i64 t127,.int .i64 t128,.int .i64 (rd y130 t133)])) 10 rfl rfl (hon 14 Q1) rfl
   replace ha:=Aside0.mk ha
   have BK118:=am (Q_BK118 hb_)
   have HK:=Aside0.mk Q_HK
   have HB:=Aside0.mk Q_HB
   have HO123:=am (Q_HO123 (hon 2 Q1))
   have HA_HO123:=am (Q_HA_HO123 (hon 2 Q1))
   have HO132:=am (Q_HO132 (hon 9 Q1))
   have HA_HO132:=am (Q_HA_HO132 (hon 9 Q1))
   have HI0:=am (Q_HI0_e11 (hon 11 Q1))
   obtain ⟨co23,eo23⟩:=HA_HO123.out
   clear HA_HO123
   subst eo23
   obtain ⟨co24,eo24⟩:=HA_HO132.out
   clear HA_HO132
   subst eo24
   have hs25 : w'.cell? ⟨gb118,0,none⟩ = some (.int .i64 0):=(blk_cell BK118.out 0).trans rfl
   have hfs25:=blk_frozen BK118.out 0
   have hs26 : w'.cell? ⟨gb118,1,none⟩ = some (.int .i64 0):=(blk_cell BK118.out 1).trans rfl
   have hfs26:=blk_frozen BK118.out 1
   have hs27 : w'.cell? ⟨gb118,2,none⟩ = some (.int .i64 0):=(blk_cell BK118.out 2).trans rfl
   have hfs27:=blk_frozen BK118.out 2
   have hs28 : w'.cell? ⟨gb118,3,none⟩ = some (.int .i64 0):=(blk_cell BK118.out 3).trans rfl
   have hfs28:=blk_frozen BK118.out 3
   have hs29 : w'.cell? ⟨gb118,4,none⟩ = some (.int .i64 0):=(blk_cell BK118.out 4).trans rfl
   have hfs29:=blk_frozen BK118.out 4
   refine skip_ (w1:=?_) (by rfl) rfl ?_ ?_
   rotate_left
   ·go_simp
    rfl
   refine hK.out _ _ ⟨.slice (some adz_v122) y121.length co23,adz_v122,.slice (some adz_v131) y130.length co24,adz_v131,m5_,m12_,(by rw [ha.out];exact putSel_none (v:=undef) rfl),fun h0_=>absurd ((up_self b 15).symm.trans h0_) Q0,fun h0_=>absurd ((hon 1 Q1).symm.trans h0_) Q0,Q124,Q145,fun _ h1_=>absurd ((hon 4 Q1).symm.trans h1_) Q0,fun _=>(by (with_reducible repeat (first|apply Kd.R_alloc|apply Kd.R_drewN|apply Kd.R_drew));exact Kd.R_mono (Kd.R_far (p:=⟨gb118,4,none⟩) (Kd.R_far (p:=⟨gb118,3,none⟩) (Kd.R_far (p:=⟨gb118,2,none⟩) (Kd.R_far (p:=⟨gb118,1,none⟩) (Kd.R_far (p:=⟨gb118,0,none⟩) (Kd.R_types HO123.out BK118.out Q0) (fun _ hk=>hk.2) (.int .i64 t119)) (fun _ hk=>hk.2) (.int .i64 (rd y121 t124))) (fun _ hk=>hk.2) (.int .i64 t127)) (fun _ hk=>hk.2) (.int .i64 t128)) (fun _ hk=>hk.2) (.int .i64 (rd y130 t133))) (fun _ hk=>hk.1)),fun _=>⟨_,rfl⟩,fun _ h1_=>absurd ((hon 8 Q1).symm.trans h1_) Q0,fun _ h1_=>absurd ((hon 11 Q1).symm.trans h1_) Q0,fun _=>(by (with_reducible repeat (first|apply Kd.R_alloc|apply Kd.R_drewN|apply Kd.R_drew));exact Kd.R_mono (Kd.R_far (p:=⟨gb118,4,none⟩) (Kd.R_far (p:=⟨gb118,3,none⟩) (Kd.R_far (p:=⟨gb118,2,none⟩) (Kd.R_far (p:=⟨gb118,1,none⟩) (Kd.R_far (p:=⟨gb118,0,none⟩) (Kd.R_types HO132.out BK118.out Q0) (fun _ hk=>hk.2) (.int .i64 t119)) (fun _ hk=>hk.2) (.int .i64 (rd y121 t124))) (fun _ hk=>hk.2) (.int .i64 t127)) (fun _ hk=>hk.2) (.int .i64 t128)) (fun _ hk=>hk.2) (.int .i64 (rd y130 t133))) (fun _ hk=>hk.1)),fun _=>⟨_,rfl⟩,fun _=>Q129,fun _=>(by (with_reducible repeat (first|refine blk_drewN ?_ _|refine blk_drew ?_|refine blk_alloc ?_ _));refine blk_put (cs:=#[.int .i64 t119,.int .i64 (rd y121 t124),.int .i64 t127,.int .i64 t128,.int .i64 0]) ?_ 4 _ rfl;(with_reducible repeat (first|refine blk_drewN ?_ _|refine blk_drew ?_|refine blk_alloc ?_ _));refine blk_put (cs:=#[.int .i64 t119,.int .i64 (rd y121 t124),.int .i64 t127,.int .i64 0,.int .i64 0]) ?_ 3 _ rfl;(with_reducible repeat (first|refine blk_drewN ?_ _|refine blk_drew ?_|refine blk_alloc ?_ _));refine blk_put (cs:=#[.int .i64 t119,.int .i64 (rd y121 t124),.int .i64 0,.int .i64 0,.int .i64 0]) ?_ 2 _ rfl;(with_reducible repeat (first|refine blk_drewN ?_ _|refine blk_drew ?_|refine blk_alloc ?_ _));refine blk_put (cs:=#[.int .i64 t119,.int .i64 0,.int .i64 0,.int .i64 0,.int .i64 0]) ?_ 1 _ rfl;(with_reducible repeat (first|refine blk_drewN ?_ _|refine blk_drew ?_|refine blk_alloc ?_ _));refine blk_put (cs:=#[.int .i64 0,.int .i64 0,.int .i64 0,.int .i64 0,.int .i64 0]) ?_ 0 _ rfl;(with_reducible repeat (first|refine blk_drewN ?_ _|refine blk_drew ?_|refine blk_alloc ?_ _));exact BK118.out),Q_X5_,Q_X12_⟩
  exact steps_nil
 rintro b a w27 hall ⟨v122,adz_v122,v131,adz_v131,m5_,m12_,ha,Q_BK118,Q_HI0,Q_HK,Q_HB,Q_HI0_e1,Q_HO123,Q_HA_HO123,Q_HI0_e4,Q_HI0_e8,Q_HO132,Q_HA_HO132,Q_HI0_e11,Q_BK118_e15,Q_X5_,Q_X12_⟩
 clear BK118 HB HI0 HK
 have hb1_:=hall 1 Q1
 have hb2_:=hall 2 Q1
 have hb4_:=hall 4 Q1
 have hb5_:=hall 5 Q1
 have hb6_:=hall 6 Q1
 have hb8_:=hall 8 Q1
 have hb9_:=hall 9 Q1
 have hb11_:=hall 11 Q1
 have hb12_:=hall 12 Q1
 have hb13_:=hall 13 Q1
 have hb14_:=hall 14 Q1
 have hb15_:=hall 15 Q1
 subst ha
 obtain rfl:=Q_X5_ hb5_
 obtain rfl:=Q_X12_ hb12_
 simp only [putSel,hb1_,hb2_,hb4_,hb5_,hb6_,hb8_,hb9_,hb11_,hb12_,hb13_,hb14_,hb15_,if_true,Act.put,sA_,sZ_,sS_]
 clear Q_BK118
 clear Q_HI0
 have HK:=Aside0.mk Q_HK
 clear Q_HK
 have HB:=Aside0.mk Q_HB
 clear Q_HB
 clear Q_HI0_e1
 have HO123:=am (Q_HO123 hb2_)
 clear Q_HO123
 have HA_HO123:=am (Q_HA_HO123 hb2_)
 clear Q_HA_HO123
 clear Q_HI0_e4
 clear Q_HI0_e8
 have HO132:=am (Q_HO132 hb9_)
 clear Q_HO132
 have HA_HO132:=am (Q_HA_HO132 hb9_)
 clear Q_HA_HO132
 have HI0:=am (Q_HI0_e11 hb11_)
 clear Q_HI0_e11
 have BK118:=am (Q_BK118_e15 hb15_)
 clear Q_BK118_e15
 clear hall hb1_ hb2_ hb4_ hb5_ hb6_ hb8_ hb9_ hb11_ hb12_ hb13_ hb14_ hb15_
 obtain ⟨co28,eo28⟩:=HA_HO123.out
 clear HA_HO123
 subst eo28
 obtain ⟨co29,eo29⟩:=HA_HO132.out
 clear HA_HO132
 subst eo29
 try go_wp2
 refine bodyPost_ret (results_cell_row rfl _ _ gb118 38 #[.int .i64 t119,.int .i64 (rd y121 t124),.int .i64 t127,.int .i64 t128,.int .i64 (rd y130 t133)] (0,0) _ rfl Q42 Try.underlying38 rfl Q1) rfl ?_
 exact ⟨Q18,Q129,Q145,Q124⟩
mutual
def spec_l71Rows.l0 : Nat → List (S38) → Int → List Int → Int → Option ((List (S38)) × Int)
 | 0, _, _, _, _ => none
 | k + 1, x5, x6, x1000, x1001 => if x6 > 0 then ((spec_l71Row.f k x1000 x1001).bind fun bt141 => (if (x5.length : Int) > 0 then ((spec_l6Rd_pick.f k x1000 bt141.2.2.2.2.2 3).bind fun bt148 => (spec_l71Rows.j1 k x5 x6 (bt148.1 == 0) x1000 bt148.2 bt141.1 bt141.2.1 bt141.2.2.1 bt141.2.2.2.1 bt141.2.2.2.2.1)) else (spec_l71Rows.j1 k x5 x6 false x1000 bt141.2.2.2.2.2 bt141.1 bt141.2.1 bt141.2.2.1 bt141.2.2.2.1 bt141.2.2.2.2.1))) else (some (x5, x1001))
def spec_l71Rows.j1 : Nat → List (S38) → Int → Bool → List Int → Int → Int → Int → Int → Int → Int → Option ((List (S38)) × Int)
 | 0, _, _, _, _, _, _, _, _, _, _ => none
 | k + 1, x5, x6, x27, x1000, x1001, x148000, x148001, x148002, x148003, x148004 => if x27 = true then ((spec_l6Rd_pick.f k x1000 x1001 (x5.length : Int)).bind fun bt150 => (if 0 ≤ bt150.1 then (if bt150.1 < (x5.length : Int) then ((spec_l6Rd_pick.f k x1000 bt150.2 2).bind fun bt154 => (if bt154.1 = 0 then (if x5.length < 3518437208883 then (spec_l71Rows.l0 k (x5 ++ [(⟨(rd_T38 x5 bt150.1).f0, (rd_T38 x5 bt150.1).f1, (⟨x148002, x148003⟩ : S36), wrap64 (-((rd_T38 x5 bt150.1).f3))⟩ : S38)]) (wrap64 (x6 - 1)) x1000 bt154.2) else (none)) else (if x5.length < 3518437208883 then (spec_l71Rows.l0 k (x5 ++ [(⟨(rd_T38 x5 bt150.1).f0, (rd_T38 x5 bt150.1).f1, (⟨x148002, x148003⟩ : S36), x148004⟩ : S38)]) (wrap64 (x6 - 1)) x1000 bt154.2) else (none)))) else (none)) else (none))) else (if x5.length < 3518437208883 then (spec_l71Rows.l0 k (x5 ++ [(⟨x148000, x148001, (⟨x148002, x148003⟩ : S36), x148004⟩ : S38)]) (wrap64 (x6 - 1)) x1000 x1001) else (none))
end
def spec_l71Rows.f (k : Nat) (s0_0 : List Int) (s0_1 : Int) (a1 : Int) : Option ((List (S38)) × Int) := (spec_l6Rd_pick.f k s0_0 s0_1 (wrap64 (a1 + 1))).bind fun bt139 => (spec_l71Rows.l0 k (([] : List (S38))) bt139.1 s0_0 bt139.2)
set_option maxHeartbeats 8000000 in
set_option maxRecDepth 100000 in
theorem spec_l71Rows.calls (k : Nat) (g : Nat) (s0_0 : List Int) (s0_1 : Int) (a1 : Int) (r1 : List (S38)) (r2 : Int) (w0 w : World) (hI : IsS87 w0 w g s0_0 s0_1) (hB : Below w0.heap.size w0 w) (h : spec_l71Rows.f k s0_0 s0_1 a1 = some (r1,r2)) :
  Calls Try.prog 80 #[.pointer (some ⟨g,0,none⟩),.int .i64 a1] w fun e w'=>∃ v0_ : Value,e = .returned (v0_) ∧ Kd.R k38 38 w' w.heap.size (fun _=>True) v0_ r1 ∧ IsS87 w0 w' g s0_0 r2 ∧ Below w0.heap.size w0 w' ∧ KeepBut w w' g none:=by
 have hu38:=Try.underlying38
 have HI0:=Aside0.mk hI
 have HK:=am (KeepBut.refl w g none)
 have HL:=Aside0.mk hB.size
 clear hI
 have HW0:=Aside0.mk hB.size
 have HB:=Aside0.mk hB
 clear hB
 have H : ((spec_l6Rd_pick.f k s0_0 s0_1 (wrap64 (a1 + 1))).bind fun bt139=>(spec_l71Rows.l0 k (([] : List (S38))) bt139.1 s0_0 bt139.2)) = some (r1,r2):=h
 clear h
 obtain ⟨y136,hy_⟩ : ∃ y_ : List (S38),y_ = (([] : List (S38))):=⟨_,rfl⟩
 replace H : ((spec_l6Rd_pick.f k s0_0 s0_1 (wrap64 (a1 + 1))).bind fun bt139=>(spec_l71Rows.l0 k y136 bt139.1 s0_0 bt139.2)) = some (r1,r2):=Q162
 have Ny136:=Aside0.mk hy_
 clear hy_
 replace H:=Option.bind_eq_some_iff.mp H
 obtain ⟨⟨t139,t140⟩,A30,H⟩:=H
 replace H : (spec_l71Rows.l0 k y136 t139 s0_0 t140) = some (r1,r2):=H
 have A3:=Aside0.mk A30
 clear A30
 have H':=Aside0.mk H
 clear H
 go_enter Try.func80,Try.ntmps80
 go_wp2_with (first|((with_reducible refine gate_dst (N:=9) rfl ?_);refine Kd.R_lit k38 _ 38 ?hg (N:=9) ?hd (xs:=([] : List (S38))) (inner:=[]) (ok:=fun _=>True) (okp:=fun _=>True) ?hr ?hp (fun _ hk=>hk) trivial (Below.refl _ _) (Nat.le_refl _) (by simp) ?_;(case hd=>rfl);(case hg=>rfl);(case hr=>first|(go_simp;done)|(go_simp;rfl));(case hp=>exact (Reps.none _ _));intro v137 w4 ho5 hb hg_ hnew_;clear hg_ hnew_;(first|rw [← Ny136.out] at ho5|(simp only [Int.reduceToNat] at ho5;rw [← Ny136.out] at ho5));have HO138:=am (Kd.R_lower ho5 (keep_size (w:=w) (g:=g) (row:=none) Q87));replace HK:=am (KeepBut.trans Q87 (KeepBut.of_below hb g none) (.inl rfl));replace HB:=am (below_step Q114 hb);replace HI0:=am (IsS87.below Q88 hb);clear hb ho5)|((with_reducible refine gate_callee (f:=68) rfl ?_);refine goesL_ (some 13) rfl rfl Try.func68 Q1 rfl #[.pointer (some ⟨g,0,none⟩),.int .i64 (wrap64 (a1 + 1))] rfl Q84 ?_;(with_reducible refine (spec_l6Rd_pick.calls k g s0_0 s0_1 (wrap64 (a1 + 1)) t139 t140 w0 _ ?side1 ?side2 A3.out).mono ?_);(case side1=>exact Q88);(case side2=>exact Q114);rintro e w6 ⟨rfl,hi,hb,hk⟩;refine ⟨_,rfl,?_⟩;replace HO138:=am (Kd.R_mono (Kd.R_keep (IsS87.apart (show IsS87 w0 _ g s0_0 s0_1 from by repeat (first|(with_reducible first|exact HI0.out|apply IsS87.alloc|apply IsS87.drewN|apply IsS87.drew|apply IsS87.set_1)|exact HI0.out)) (by (with_reducible repeat (first|apply Kd.R_alloc|apply Kd.R_drewN|apply Kd.R_drew));exact HO138.out) Q0) hk (fun _ h=>h.2)) (fun _ h=>h.1));replace HK:=am (KeepBut.trans Q87 hk (.inl rfl));replace HB:=am (hb);replace HI0:=am (hi);(try clear hb hk hi)))
 go_loopg [5,6] k (fun kq v5 v6 w'=>∃ (x5_1 : List (S38)) (x6_1 : Int) (x1001_1 : Int),v6 = .int .i64 x6_1 ∧ Aside0 (spec_l71Rows.l0 kq x5_1 x6_1 s0_0 x1001_1 = some (r1,r2)) ∧ Aside0 (kq ≤ k) ∧ Aside0 (Kd.R k38 38 w' w.heap.size (fun _=>True) v5 x5_1) ∧ Aside0 (IsS87 w0 w' g s0_0 x1001_1) ∧ Aside0 (KeepBut w w' g none) ∧ Aside0 (Below w0.heap.size w0 w'))
 case atStart=>exact ⟨(y136),(t139),(t140),Q7,H',⟨Nat.le_refl _⟩,⟨by (with_reducible repeat (first|apply Kd.R_alloc|apply Kd.R_drewN|apply Kd.R_drew));exact HO138.out⟩,⟨Q88⟩,⟨Q87⟩,⟨Q114⟩⟩
 case round =>
  clear H'
  try clear p2
  try clear c6
  try clear p6
  obtain ⟨x5_1,x6_1,x1001_1,rfl,HA,HK1,HO_5,HI0,HK,HB⟩:=hrel
  cases gk with
  | zero=>exact absurd HA.out (by simp [spec_l71Rows.l0])
  | succ k1 =>
   have H:=HA.out
   clear HA
   simp only [spec_l71Rows.l0] at H
   by_cases c7 : x6_1 > 0
   ·rw [if_pos c7] at H
    have c7b0 : decide (0 < x6_1) = true:=decide_eq_true c7
    clear c7
    replace H:=Option.bind_eq_some_iff.mp H
    obtain ⟨⟨t141,t142,t143,t144,t145,t146⟩,A80,H⟩:=H
    replace H : (if (x5_1.length : Int) > 0 then ((spec_l6Rd_pick.f k1 s0_0 t146 3).bind fun bt148=>(spec_l71Rows.j1 k1 x5_1 x6_1 (bt148.1 == 0) s0_0 bt148.2 t141 t142 t143 t144 t145)) else (spec_l71Rows.j1 k1 x5_1 x6_1 false s0_0 t146 t141 t142 t143 t144 t145)) = some (r1,r2):=H
    have A8:=Aside0.mk A80
    clear A80
    have HC9:=Aside0.mk H
    clear H
    go_upto_region 6 with (first|((with_reducible refine gate_callee (f:=70) rfl ?_);refine goesL_ (some 19) rfl rfl Try.func70 Q1 rfl #[.pointer (some ⟨g,0,none⟩)] rfl Q84 ?_;(with_reducible refine (spec_l71Row.calls k1 g s0_0 x1001_1 t141 t142 t143 t144 t145 t146 w0 _ ?side1 ?side2 A8.out).mono ?_);(case side1=>exact Q88);(case side2=>exact Q114);rintro e w10 ⟨rfl,hi,hb,hk⟩;refine ⟨_,rfl,?_⟩;replace HO_5:=am (Kd.R_mono (Kd.R_keep (IsS87.apart (show IsS87 w0 _ g s0_0 x1001_1 from by repeat (first|(with_reducible first|exact HI0.out|apply IsS87.alloc|apply IsS87.drewN|apply IsS87.drew|apply IsS87.set_1)|exact HI0.out)) Q21 Q0) hk (fun _ h=>h.2)) (fun _ h=>h.1));replace HK:=am (KeepBut.trans Q87 hk (.inl rfl));replace HB:=am (hb);replace HI0:=am (hi);(try clear hb hk hi))|((with_reducible refine gate_dst (N:=7) rfl ?_);refine bE_ 7 #[.int .i64 0,.int .i64 0,.int .i64 0,.int .i64 0,.int .i64 0] 38 ?_;intro gb147 hg w11 hbox hb;replace HO_5:=am (Kd.R_below (Kd.R_elderB Q21 gb147 (Nat.le_of_eq hg.symm)) hb);replace HB:=am (below_step Q114 hb);have BK147:=am (hbox);have GW147:=am ((Q174 : w.heap.size ≤ gb147));have GE147:=am ((Nat.le_trans HW0.out (Q174 : w.heap.size ≤ gb147) : w0.heap.size ≤ gb147));replace HK:=am (KeepBut.trans Q87 (KeepBut.of_below hb g none) (.inl rfl));have NB0_147:=am ((by rw [hg];exact Nat.ne_of_lt (IsS87.lt (show IsS87 w0 _ g s0_0 t146 from by repeat (first|(with_reducible first|exact HI0.out|apply IsS87.alloc|apply IsS87.drewN|apply IsS87.drew|apply IsS87.set_1)|exact HI0.out))) : g ≠ gb147));have NB147_0:=am ((by rw [hg];exact Nat.ne_of_gt (IsS87.lt (show IsS87 w0 _ g s0_0 t146 from by repeat (first|(with_reducible first|exact HI0.out|apply IsS87.alloc|apply IsS87.drewN|apply IsS87.drew|apply IsS87.set_1)|exact HI0.out))) : gb147 ≠ g));replace HI0:=am (IsS87.below Q88 hb);clear hb hbox hg;have hnb12:=NB147_0.out;have hnc12:=NB0_147.out;obtain ⟨hcz13_0,hcz13_1,hcz13_2,hcz13_3,hcz13_4,hfz13_0,hfz13_1,hfz13_2,hfz13_3,hfz13_4⟩:=bx5_ BK147))
    (try simp only [Act.put,sA_,sZ_,sS_])
    go_cut [27] (fun v27 wc=>∃ (kq : Nat) (x27_8 : Bool) (x1001_8 : Int),v27 = .bool x27_8 ∧ Aside0 (spec_l71Rows.j1 kq x5_1 x6_1 x27_8 s0_0 x1001_8 t141 t142 t143 t144 t145 = some (r1,r2)) ∧ Aside0 (kq ≤ k1) ∧ Aside0 (Kd.R k38 38 wc w.heap.size (fun k_=>k_ ≠ gb147) u5 x5_1) ∧ Aside0 (wc.heap[gb147]? = some (.cells #[.int .i64 t141,.int .i64 t142,.int .i64 t143,.int .i64 t144,.int .i64 t145] 38 (0,0))) ∧ Aside0 (IsS87 w0 wc g s0_0 x1001_8) ∧ Aside0 (KeepBut w wc g none) ∧ Aside0 (Below w0.heap.size w0 wc))
    case first =>
     have H:=HC9.out
     clear HC9
     by_cases c14 : (x5_1.length : Int) > 0
     ·rw [if_pos c14] at H
      have c14b0 : decide (0 < (x5_1.length : Int)) = true:=decide_eq_true c14
      have c14b1 : decide (0 < x5_1.length) = true:=decide_eq_true (by omega)
      clear c14
      (first|rw [c14b0]|(simp only [i64_w,i32_w];rw [c14b0])|skip)
      replace H:=Option.bind_eq_some_iff.mp H
      obtain ⟨⟨t148,t149⟩,A150,H⟩:=H
      replace H : (spec_l71Rows.j1 k1 x5_1 x6_1 (t148 == 0) s0_0 t149 t141 t142 t143 t144 t145) = some (r1,r2):=H
      have A15:=Aside0.mk A150
      clear A150
      have H':=Aside0.mk H
      clear H
      obtain ⟨Ao16,co16,eo16⟩:=Kd.R_slice HO_5.out
      subst eo16
      go_wp2_with (first|(go_at_call 68;(with_reducible refine (spec_l6Rd_pick.calls k1 g s0_0 t146 3 t148 t149 w0 _ ?side1 ?side2 A15.out).mono ?_);(case side1=>exact Q130);(case side2=>exact Q146);rintro e w17 ⟨rfl,hi,hb,hk⟩;replace HO_5:=am (Kd.R_mono (Kd.R_keep (IsS87.apart (show IsS87 w0 _ g s0_0 t146 from by repeat (first|(with_reducible first|exact HI0.out|apply IsS87.alloc|apply IsS87.drewN|apply IsS87.drew|apply IsS87.set_1|refine IsS87.far ?_ NB0_147.out _)|exact HI0.out)) (by (with_reducible repeat (first|apply Kd.R_alloc|apply Kd.R_drewN|apply Kd.R_drew));exact (Kd.R_mono (Kd.R_far (p:=⟨gb147,4,none⟩) (Kd.R_far (p:=⟨gb147,3,none⟩) (Kd.R_far (p:=⟨gb147,2,none⟩) (Kd.R_far (p:=⟨gb147,1,none⟩) (Kd.R_far (p:=⟨gb147,0,none⟩) (Kd.R_mono HO_5.out (fun k_ hk=>(⟨hk,hk.2⟩ : _ ∧ k_ ≠ gb147))) (fun _ hk=>hk.2) (.int .i64 t141)) (fun _ hk=>hk.2) (.int .i64 t142)) (fun _ hk=>hk.2) (.int .i64 t143)) (fun _ hk=>hk.2) (.int .i64 t144)) (fun _ hk=>hk.2) (.int .i64 t145)) (fun _ h_=>h_.1))) Q0) hk (fun _ h=>h.2)) (fun _ h=>h.1));replace BK147:=am (KeepBut.blk hk (g':=gb147) (o:=.cells #[.int .i64 t141,.int .i64 t142,.int .i64 t143,.int .i64 t144,.int .i64 t145] 38 (0,0)) (by (with_reducible repeat (first|refine blk_drewN ?_ _|refine blk_drew ?_|refine blk_alloc ?_ _));refine blk_put (cs:=#[.int .i64 t141,.int .i64 t142,.int .i64 t143,.int .i64 t144,.int .i64 0]) ?_ 4 _ rfl;(with_reducible repeat (first|refine blk_drewN ?_ _|refine blk_drew ?_|refine blk_alloc ?_ _));refine blk_put (cs:=#[.int .i64 t141,.int .i64 t142,.int .i64 t143,.int .i64 0,.int .i64 0]) ?_ 3 _ rfl;(with_reducible repeat (first|refine blk_drewN ?_ _|refine blk_drew ?_|refine blk_alloc ?_ _));refine blk_put (cs:=#[.int .i64 t141,.int .i64 t142,.int .i64 0,.int .i64 0,.int .i64 0]) ?_ 2 _ rfl;(with_reducible repeat (first|refine blk_drewN ?_ _|refine blk_drew ?_|refine blk_alloc ?_ _));refine blk_put (cs:=#[.int .i64 t141,.int .i64 0,.int .i64 0,.int .i64 0,.int .i64 0]) ?_ 1 _ rfl;(with_reducible repeat (first|refine blk_drewN ?_ _|refine blk_drew ?_|refine blk_alloc ?_ _));refine blk_put (cs:=#[.int .i64 0,.int .i64 0,.int .i64 0,.int .i64 0,.int .i64 0]) ?_ 0 _ rfl;(with_reducible repeat (first|refine blk_drewN ?_ _|refine blk_drew ?_|refine blk_alloc ?_ _));exact BK147.out) NB147_0.out (by simp));replace HK:=am (KeepBut.trans Q125 hk (.inl rfl));replace HB:=am (hb);replace HI0:=am (hi);(try clear hb hk hi)))
      go_meet
      case rel=>exact ⟨_,((t148 == 0)),(t149),Q7,H',⟨Q9⟩,⟨by (with_reducible repeat (first|apply Kd.R_alloc|apply Kd.R_drewN|apply Kd.R_drew));exact Kd.R_mono HO_5.out (fun _ hk=>hk.2)⟩,⟨Q43⟩,⟨Q130⟩,⟨Q125⟩,⟨Q146⟩⟩
     ·rw [if_neg c14] at H
      have c14b0 : decide (0 < (x5_1.length : Int)) = false:=decide_eq_false c14
      have c14b1 : decide (0 < x5_1.length) = false:=decide_eq_false (by omega)
      clear c14
      (first|rw [c14b0]|(simp only [i64_w,i32_w];rw [c14b0])|skip)
      have H':=Aside0.mk H
      clear H
      obtain ⟨Ao18,co18,eo18⟩:=Kd.R_slice HO_5.out
      subst eo18
      go_wp2
      go_meet
      case rel=>exact ⟨_,(false),(t146),Q7,H',⟨Q9⟩,⟨by (with_reducible repeat (first|apply Kd.R_alloc|apply Kd.R_drewN|apply Kd.R_drew));exact Kd.R_mono (Kd.R_far (p:=⟨gb147,4,none⟩) (Kd.R_far (p:=⟨gb147,3,none⟩) (Kd.R_far (p:=⟨gb147,2,none⟩) (Kd.R_far (p:=⟨gb147,1,none⟩) (Kd.R_far (p:=⟨gb147,0,none⟩) (Kd.R_mono HO_5.out (fun k_ hk=>(⟨hk,hk.2⟩ : _ ∧ k_ ≠ gb147))) (fun _ hk=>hk.2) (.int .i64 t141)) (fun _ hk=>hk.2) (.int .i64 t142)) (fun _ hk=>hk.2) (.int .i64 t143)) (fun _ hk=>hk.2) (.int .i64 t144)) (fun _ hk=>hk.2) (.int .i64 t145)) (fun _ hk=>hk.1.2)⟩,⟨by (with_reducible repeat (first|refine blk_drewN ?_ _|refine blk_drew ?_|refine blk_alloc ?_ _));refine blk_put (cs:=#[.int .i64 t141,.int .i64 t142,.int .i64 t143,.int .i64 t144,.int .i64 0]) ?_ 4 _ rfl;(with_reducible repeat (first|refine blk_drewN ?_ _|refine blk_drew ?_|refine blk_alloc ?_ _));refine blk_put (cs:=#[.int .i64 t141,.int .i64 t142,.int .i64 t143,.int .i64 0,.int .i64 0]) ?_ 3 _ rfl;(with_reducible repeat (first|refine blk_drewN ?_ _|refine blk_drew ?_|refine blk_alloc ?_ _));refine blk_put (cs:=#[.int .i64 t141,.int .i64 t142,.int .i64 0,.int .i64 0,.int .i64 0]) ?_ 2 _ rfl;(with_reducible repeat (first|refine blk_drewN ?_ _|refine blk_drew ?_|refine blk_alloc ?_ _));refine blk_put (cs:=#[.int .i64 t141,.int .i64 0,.int .i64 0,.int .i64 0,.int .i64 0]) ?_ 1 _ rfl;(with_reducible repeat (first|refine blk_drewN ?_ _|refine blk_drew ?_|refine blk_alloc ?_ _));refine blk_put (cs:=#[.int .i64 0,.int .i64 0,.int .i64 0,.int .i64 0,.int .i64 0]) ?_ 0 _ rfl;(with_reducible repeat (first|refine blk_drewN ?_ _|refine blk_drew ?_|refine blk_alloc ?_ _));exact BK147.out⟩,⟨Q130⟩,⟨Q125⟩,⟨Q146⟩⟩
    case rest =>
     clear HC9
     try clear c1
     try clear p2
     try clear c6
     try clear p6
     try clear c7
     try clear c7b0
     try clear c8
     try clear c12
     try clear c14
     try clear c14b0
     try clear c14b1
     try clear hcz13_0
     try clear hcz13_1
     try clear hcz13_2
     try clear hcz13_3
     try clear hcz13_4
     try clear hfz13_0
     try clear hfz13_1
     try clear hfz13_2
     try clear hfz13_3
     try clear hfz13_4
     try clear p2
     try clear p6
     obtain ⟨kq,x27_8,x1001_8,rfl,HA,HJ8,HO_5,BK147,HI0,HK,HB⟩:=hcut
     cases kq with
     | zero=>exact absurd HA.out (by simp [spec_l71Rows.j1])
     | succ kj8 =>
      have H:=HA.out
      clear HA
      simp only [spec_l71Rows.j1] at H
      by_cases c19 : x27_8 = true
      ·subst c19
       have H1 : ((spec_l6Rd_pick.f kj8 s0_0 x1001_8 (x5_1.length : Int)).bind fun bt150=>(if 0 ≤ bt150.1 then (if bt150.1 < (x5_1.length : Int) then ((spec_l6Rd_pick.f kj8 s0_0 bt150.2 2).bind fun bt154=>(if bt154.1 = 0 then (if x5_1.length < 3518437208883 then (spec_l71Rows.l0 kj8 (x5_1 ++ [(⟨(rd_T38 x5_1 bt150.1).f0,(rd_T38 x5_1 bt150.1).f1,(⟨t143,t144⟩ : S36),wrap64 (-((rd_T38 x5_1 bt150.1).f3))⟩ : S38)]) (wrap64 (x6_1 - 1)) s0_0 bt154.2) else (none)) else (if x5_1.length < 3518437208883 then (spec_l71Rows.l0 kj8 (x5_1 ++ [(⟨(rd_T38 x5_1 bt150.1).f0,(rd_T38 x5_1 bt150.1).f1,(⟨t143,t144⟩ : S36),t145⟩ : S38)]) (wrap64 (x6_1 - 1)) s0_0 bt154.2) else (none)))) else (none)) else (none))) = some (r1,r2):=by rw [if_pos rfl] at H;exact H
       clear H
       have H:=H1
       clear H1
       replace H:=Option.bind_eq_some_iff.mp H
       obtain ⟨⟨t150,t151⟩,A200,H⟩:=H
       replace H : (if 0 ≤ t150 then (if t150 < (x5_1.length : Int) then ((spec_l6Rd_pick.f kj8 s0_0 t151 2).bind fun bt154=>(if bt154.1 = 0 then (if x5_1.length < 3518437208883 then (spec_l71Rows.l0 kj8 (x5_1 ++ [(⟨(rd_T38 x5_1 t150).f0,(rd_T38 x5_1 t150).f1,(⟨t143,t144⟩ : S36),wrap64 (-((rd_T38 x5_1 t150).f3))⟩ : S38)]) (wrap64 (x6_1 - 1)) s0_0 bt154.2) else (none)) else (if x5_1.length < 3518437208883 then (spec_l71Rows.l0 kj8 (x5_1 ++ [(⟨(rd_T38 x5_1 t150).f0,(rd_T38 x5_1 t150).f1,(⟨t143,t144⟩ : S36),t145⟩ : S38)]) (wrap64 (x6_1 - 1)) s0_0 bt154.2) else (none)))) else (none)) else (none)) = some (r1,r2):=H
       have A20:=Aside0.mk A200
       clear A200
       have c21 : 0 ≤ t150:=nn_ H
       rw [if_pos c21] at H
       have c21b0 : decide (0 ≤ t150) = true:=decide_eq_true c21
       clear c21
       have c22 : t150 < (x5_1.length : Int):=nn_ H
       rw [if_pos c22] at H
       have c22b0 : decide (t150 < (x5_1.length : Int)) = true:=decide_eq_true c22
       clear c22
       replace H:=Option.bind_eq_some_iff.mp H
       obtain ⟨⟨t154,t155⟩,A230,H⟩:=H
       replace H : (if t154 = 0 then (if x5_1.length < 3518437208883 then (spec_l71Rows.l0 kj8 (x5_1 ++ [(⟨(rd_T38 x5_1 t150).f0,(rd_T38 x5_1 t150).f1,(⟨t143,t144⟩ : S36),wrap64 (-((rd_T38 x5_1 t150).f3))⟩ : S38)]) (wrap64 (x6_1 - 1)) s0_0 t155) else (none)) else (if x5_1.length < 3518437208883 then (spec_l71Rows.l0 kj8 (x5_1 ++ [(⟨(rd_T38 x5_1 t150).f0,(rd_T38 x5_1 t150).f1,(⟨t143,t144⟩ : S36),t145⟩ : S38)]) (wrap64 (x6_1 - 1)) s0_0 t155) else (none))) = some (r1,r2):=H
       have A23:=Aside0.mk A230
       clear A230
       by_cases c24 : t154 = 0
       ·rw [if_pos c24] at H
        have c24b0 : (t154 == 0) = true:=beq_iff_eq.mpr c24
        have c24b1 : (t154 != 0) = false:=bne_eq_false_iff_eq.mpr c24
        clear c24
        have c25 : x5_1.length < 3518437208883:=nn_ H
        rw [if_pos c25] at H
        have LMc25:=Aside0.mk c25
        clear c25
        obtain ⟨y156,hy_⟩ : ∃ y_ : List (S38),y_ = (x5_1 ++ [(⟨(rd_T38 x5_1 t150).f0,(rd_T38 x5_1 t150).f1,(⟨t143,t144⟩ : S36),wrap64 (-((rd_T38 x5_1 t150).f3))⟩ : S38)]):=⟨_,rfl⟩
        replace H : (spec_l71Rows.l0 kj8 y156 (wrap64 (x6_1 - 1)) s0_0 t155) = some (r1,r2):=Q162
        have Ny156:=Aside0.mk hy_
        clear hy_
        have H':=Aside0.mk H
        clear H
        obtain ⟨Ao26,co26,eo26⟩:=Kd.R_slice HO_5.out
        subst eo26
        go_wp2_with (first|((with_reducible refine gate_callee (f:=68) rfl ?_);refine goesL_ (some 32) rfl rfl Try.func68 Q1 rfl #[.pointer (some ⟨g,0,none⟩),.int .i64 (x5_1.length : Int)] rfl Q84 ?_;(with_reducible refine (spec_l6Rd_pick.calls kj8 g s0_0 x1001_8 (x5_1.length : Int) t150 t151 w0 _ ?side1 ?side2 A20.out).mono ?_);(case side1=>exact Q130);(case side2=>exact Q146);rintro e w27 ⟨rfl,hi,hb,hk⟩;refine ⟨_,rfl,?_⟩;replace HO_5:=am (Kd.R_mono (Kd.R_keep (IsS87.apart (show IsS87 w0 _ g s0_0 x1001_8 from by repeat (first|(with_reducible first|exact HI0.out|apply IsS87.alloc|apply IsS87.drewN|apply IsS87.drew|apply IsS87.set_1|refine IsS87.far ?_ NB0_147.out _)|exact HI0.out)) Q21 Q0) hk (fun _ h=>h.2)) (fun _ h=>h.1));replace BK147:=am (KeepBut.blk hk (g':=gb147) (o:=.cells #[.int .i64 t141,.int .i64 t142,.int .i64 t143,.int .i64 t144,.int .i64 t145] 38 (0,0)) Q43 NB147_0.out (by simp));replace HK:=am (KeepBut.trans Q125 hk (.inl rfl));replace HB:=am (hb);replace HI0:=am (hi);(try clear hb hk hi);have p152 : 0 ≤ (t150 : Int):=of_decide_eq_true Q8;have q152 : t150 < (x5_1.length : Int):=of_decide_eq_true Q8;obtain ⟨ad152,e152,hx152_0,hx152_1,hx152_2,hx152_3,hx152_4⟩:=at_T38 (Kd.R_reads' HO_5.out).2.2 t150 p152 q152;cases e152;replace p152:=eq_true p152;replace q152:=eq_true q152)|((with_reducible refine gate_dst (N:=8) rfl ?_);refine bE_ 8 #[.int .i64 0,.int .i64 0,.int .i64 0,.int .i64 0,.int .i64 0] 38 ?_;intro gb153 hg w28 hbox hb;replace HO_5:=am (Kd.R_below (Kd.R_elderB Q21 gb153 (Nat.le_of_eq hg.symm)) hb);replace HB:=am (below_step Q146 hb);have BK153:=am (hbox);have GW153:=am ((Q175 : w.heap.size ≤ gb153));have GE153:=am ((Nat.le_trans HW0.out (Q175 : w.heap.size ≤ gb153) : w0.heap.size ≤ gb153));replace HK:=am (KeepBut.trans Q125 (KeepBut.of_below hb g none) (.inl rfl));have NB147_153:=am ((by rw [hg];exact Nat.ne_of_lt (blk_lt (g:=gb147) (o:=.cells #[.int .i64 t141,.int .i64 t142,.int .i64 t143,.int .i64 t144,.int .i64 t145] 38 (0,0)) Q43) : gb147 ≠ gb153));have NB153_147:=am ((by rw [hg];exact Nat.ne_of_gt (blk_lt (g:=gb147) (o:=.cells #[.int .i64 t141,.int .i64 t142,.int .i64 t143,.int .i64 t144,.int .i64 t145] 38 (0,0)) Q43) : gb153 ≠ gb147));replace BK147:=am (blk_below (g:=gb147) (o:=.cells #[.int .i64 t141,.int .i64 t142,.int .i64 t143,.int .i64 t144,.int .i64 t145] 38 (0,0)) Q43 hb);have NB0_153:=am ((by rw [hg];exact Nat.ne_of_lt (IsS87.lt (show IsS87 w0 _ g s0_0 t151 from by repeat (first|(with_reducible first|exact HI0.out|apply IsS87.alloc|apply IsS87.drewN|apply IsS87.drew|apply IsS87.set_1|refine IsS87.far ?_ NB0_147.out _)|exact HI0.out))) : g ≠ gb153));have NB153_0:=am ((by rw [hg];exact Nat.ne_of_gt (IsS87.lt (show IsS87 w0 _ g s0_0 t151 from by repeat (first|(with_reducible first|exact HI0.out|apply IsS87.alloc|apply IsS87.drewN|apply IsS87.drew|apply IsS87.set_1|refine IsS87.far ?_ NB0_147.out _)|exact HI0.out))) : gb153 ≠ g));replace HI0:=am (IsS87.below Q130 hb);clear hb hbox hg;have hnb29:=NB153_147.out;have hnc29:=NB147_153.out;have hnb30:=NB153_0.out;have hnc30:=NB0_153.out;obtain ⟨hcz31_0,hcz31_1,hcz31_2,hcz31_3,hcz31_4,hfz31_0,hfz31_1,hfz31_2,hfz31_3,hfz31_4⟩:=bx5_ BK153;have hnb32:=NB147_0.out;have hnc32:=NB0_147.out;obtain ⟨hcz33_0,hcz33_1,hcz33_2,hcz33_3,hcz33_4,hfz33_0,hfz33_1,hfz33_2,hfz33_3,hfz33_4⟩:=bx5_ BK147)|((with_reducible refine gate_callee (f:=68) rfl ?_);refine goesL_ (some 42) rfl rfl Try.func68 Q1 rfl #[.pointer (some ⟨g,0,none⟩),.int .i64 2] rfl Q84 ?_;(with_reducible refine (spec_l6Rd_pick.calls kj8 g s0_0 t151 2 t154 t155 w0 _ ?side1 ?side2 A23.out).mono ?_);(case side1=>exact Q151);(case side2=>exact Q159);rintro e w34 ⟨rfl,hi,hb,hk⟩;refine ⟨_,rfl,?_⟩;replace HO_5:=am (Kd.R_mono (Kd.R_keep (IsS87.apart (show IsS87 w0 _ g s0_0 t151 from by repeat (first|(with_reducible first|exact HI0.out|apply IsS87.alloc|apply IsS87.drewN|apply IsS87.drew|apply IsS87.set_1|refine IsS87.far ?_ NB0_147.out _|refine IsS87.far ?_ NB0_153.out _)|exact HI0.out)) (by (with_reducible repeat (first|apply Kd.R_alloc|apply Kd.R_drewN|apply Kd.R_drew));exact (Kd.R_mono (Kd.R_mono (Kd.R_far (p:=⟨gb147,1,none⟩) (Kd.R_far (p:=⟨gb147,0,none⟩) (Kd.R_far (p:=⟨gb153,4,none⟩) (Kd.R_far (p:=⟨gb153,3,none⟩) (Kd.R_far (p:=⟨gb153,2,none⟩) (Kd.R_far (p:=⟨gb153,1,none⟩) (Kd.R_far (p:=⟨gb153,0,none⟩) (Kd.R_mono (Kd.R_mono HO_5.out (fun k_ hk=>(⟨hk,hk.2⟩ : _ ∧ k_ ≠ gb153))) (fun k_ hk=>(⟨hk,hk.1.1⟩ : _ ∧ k_ ≠ gb147))) (fun _ hk=>hk.1.2) (.int .i64 ((rd_T38 x5_1 t150).f0))) (fun _ hk=>hk.1.2) (.int .i64 ((rd_T38 x5_1 t150).f1))) (fun _ hk=>hk.1.2) (.int .i64 ((rd_T38 x5_1 t150).f2.f0))) (fun _ hk=>hk.1.2) (.int .i64 ((rd_T38 x5_1 t150).f2.f1))) (fun _ hk=>hk.1.2) (.int .i64 ((rd_T38 x5_1 t150).f3))) (fun _ hk=>hk.2) (.int .i64 ((rd_T38 x5_1 t150).f0))) (fun _ hk=>hk.2) (.int .i64 ((rd_T38 x5_1 t150).f1))) (fun _ h_=>h_.1)) (fun _ h_=>h_.1))) Q0) hk (fun _ h=>h.2)) (fun _ h=>h.1));replace BK147:=am (KeepBut.blk hk (g':=gb147) (o:=.cells #[.int .i64 ((rd_T38 x5_1 t150).f0),.int .i64 ((rd_T38 x5_1 t150).f1),.int .i64 t143,.int .i64 t144,.int .i64 t145] 38 (0,0)) (by (with_reducible repeat (first|refine blk_drewN ?_ _|refine blk_drew ?_|refine blk_alloc ?_ _));refine blk_put (cs:=#[.int .i64 ((rd_T38 x5_1 t150).f0),.int .i64 t142,.int .i64 t143,.int .i64 t144,.int .i64 t145]) ?_ 1 _ rfl;(with_reducible repeat (first|refine blk_drewN ?_ _|refine blk_drew ?_|refine blk_alloc ?_ _));refine blk_put (cs:=#[.int .i64 t141,.int .i64 t142,.int .i64 t143,.int .i64 t144,.int .i64 t145]) ?_ 0 _ rfl;(with_reducible repeat (first|refine blk_drewN ?_ _|refine blk_drew ?_|refine blk_alloc ?_ _));refine blk_far ?_ NB147_153.out _;(with_reducible repeat (first|refine blk_drewN ?_ _|refine blk_drew ?_|refine blk_alloc ?_ _));refine blk_far ?_ NB147_153.out _;(with_reducible repeat (first|refine blk_drewN ?_ _|refine blk_drew ?_|refine blk_alloc ?_ _));refine blk_far ?_ NB147_153.out _;(with_reducible repeat (first|refine blk_drewN ?_ _|refine blk_drew ?_|refine blk_alloc ?_ _));refine blk_far ?_ NB147_153.out _;(with_reducible repeat (first|refine blk_drewN ?_ _|refine blk_drew ?_|refine blk_alloc ?_ _));refine blk_far ?_ NB147_153.out _;(with_reducible repeat (first|refine blk_drewN ?_ _|refine blk_drew ?_|refine blk_alloc ?_ _));exact BK147.out) NB147_0.out (by simp));replace BK153:=am (KeepBut.blk hk (g':=gb153) (o:=.cells #[.int .i64 ((rd_T38 x5_1 t150).f0),.int .i64 ((rd_T38 x5_1 t150).f1),.int .i64 ((rd_T38 x5_1 t150).f2.f0),.int .i64 ((rd_T38 x5_1 t150).f2.f1),.int .i64 ((rd_T38 x5_1 t150).f3)] 38 (0,0)) (by (with_reducible repeat (first|refine blk_drewN ?_ _|refine blk_drew ?_|refine blk_alloc ?_ _));refine blk_far ?_ NB153_147.out _;(with_reducible repeat (first|refine blk_drewN ?_ _|refine blk_drew ?_|refine blk_alloc ?_ _));refine blk_far ?_ NB153_147.out _;(with_reducible repeat (first|refine blk_drewN ?_ _|refine blk_drew ?_|refine blk_alloc ?_ _));refine blk_put (cs:=#[.int .i64 ((rd_T38 x5_1 t150).f0),.int .i64 ((rd_T38 x5_1 t150).f1),.int .i64 ((rd_T38 x5_1 t150).f2.f0),.int .i64 ((rd_T38 x5_1 t150).f2.f1),.int .i64 0]) ?_ 4 _ rfl;(with_reducible repeat (first|refine blk_drewN ?_ _|refine blk_drew ?_|refine blk_alloc ?_ _));refine blk_put (cs:=#[.int .i64 ((rd_T38 x5_1 t150).f0),.int .i64 ((rd_T38 x5_1 t150).f1),.int .i64 ((rd_T38 x5_1 t150).f2.f0),.int .i64 0,.int .i64 0]) ?_ 3 _ rfl;(with_reducible repeat (first|refine blk_drewN ?_ _|refine blk_drew ?_|refine blk_alloc ?_ _));refine blk_put (cs:=#[.int .i64 ((rd_T38 x5_1 t150).f0),.int .i64 ((rd_T38 x5_1 t150).f1),.int .i64 0,.int .i64 0,.int .i64 0]) ?_ 2 _ rfl;(with_reducible repeat (first|refine blk_drewN ?_ _|refine blk_drew ?_|refine blk_alloc ?_ _));refine blk_put (cs:=#[.int .i64 ((rd_T38 x5_1 t150).f0),.int .i64 0,.int .i64 0,.int .i64 0,.int .i64 0]) ?_ 1 _ rfl;(with_reducible repeat (first|refine blk_drewN ?_ _|refine blk_drew ?_|refine blk_alloc ?_ _));refine blk_put (cs:=#[.int .i64 0,.int .i64 0,.int .i64 0,.int .i64 0,.int .i64 0]) ?_ 0 _ rfl;(with_reducible repeat (first|refine blk_drewN ?_ _|refine blk_drew ?_|refine blk_alloc ?_ _));exact BK153.out) NB153_0.out (by simp));replace HK:=am (KeepBut.trans Q149 hk (.inl rfl));replace HB:=am (hb);replace HI0:=am (hi);(try clear hb hk hi);obtain ⟨hcz35_0,hcz35_1,hcz35_2,hcz35_3,hcz35_4,hfz35_0,hfz35_1,hfz35_2,hfz35_3,hfz35_4⟩:=bx5_ BK153;obtain ⟨hcz36_0,hcz36_1,hcz36_2,hcz36_3,hcz36_4,hfz36_0,hfz36_1,hfz36_2,hfz36_3,hfz36_4⟩:=bx5_ BK147)|((with_reducible refine gate_builtin (b:=.append) (xs:=#[.tmp 48,.tmp 50]) rfl ?_);at_builtin;refine Kd.R_append k38 w.heap.size rfl (.tmp 48) (.tmp 50) 23 38 (.agg #[(.int .i64 0),(.int .i64 0),(.int .i64 0),(.int .i64 0),(.int .i64 0)]) 40 rfl Try.underlying23 info38 rfl Q0 (by omega) (.slice (some ad152) x5_1.length co26) x5_1 (⟨(rd_T38 x5_1 t150).f0,(rd_T38 x5_1 t150).f1,(⟨t143,t144⟩ : S36),wrap64 (-((rd_T38 x5_1 t150).f3))⟩ : S38) [.int .i64 ((rd_T38 x5_1 t150).f0),.int .i64 ((rd_T38 x5_1 t150).f1),.int .i64 t143,.int .i64 t144,.int .i64 (wrap64 (-((rd_T38 x5_1 t150).f3)))] (fun k_=>k_ ≠ gb147 ∧ k_ ≠ gb153) (fun _=>False) rfl (by first|(go_simp;done)|(go_simp;rfl)) ?aP (fun _ hk=>hk.elim) ?aF ?aO (Below.refl _ _) ?aS ?aL ?_;(case aP=>exact k38_mkM _ _ _ (⟨(rd_T38 x5_1 t150).f0,(rd_T38 x5_1 t150).f1,(⟨t143,t144⟩ : S36),wrap64 (-((rd_T38 x5_1 t150).f3))⟩ : S38));(case aF=>exact (fun k_ hk=>⟨Kd.freshB (g:=gb147) (o:=.cells #[.int .i64 ((rd_T38 x5_1 t150).f0),.int .i64 ((rd_T38 x5_1 t150).f1),.int .i64 t143,.int .i64 t144,.int .i64 (wrap64 (-((rd_T38 x5_1 t150).f3)))] 38 (0,0)) (by (with_reducible repeat (first|refine blk_drewN ?_ _|refine blk_drew ?_|refine blk_alloc ?_ _));refine blk_put (cs:=#[.int .i64 ((rd_T38 x5_1 t150).f0),.int .i64 ((rd_T38 x5_1 t150).f1),.int .i64 t143,.int .i64 t144,.int .i64 t145]) ?_ 4 _ rfl;(with_reducible repeat (first|refine blk_drewN ?_ _|refine blk_drew ?_|refine blk_alloc ?_ _));exact BK147.out) k_ hk,Kd.freshB (g:=gb153) (o:=.cells #[.int .i64 ((rd_T38 x5_1 t150).f0),.int .i64 ((rd_T38 x5_1 t150).f1),.int .i64 ((rd_T38 x5_1 t150).f2.f0),.int .i64 ((rd_T38 x5_1 t150).f2.f1),.int .i64 ((rd_T38 x5_1 t150).f3)] 38 (0,0)) (by (with_reducible repeat (first|refine blk_drewN ?_ _|refine blk_drew ?_|refine blk_alloc ?_ _));refine blk_far ?_ NB153_147.out _;(with_reducible repeat (first|refine blk_drewN ?_ _|refine blk_drew ?_|refine blk_alloc ?_ _));exact BK153.out) k_ hk⟩));(case aO=>exact (by (with_reducible repeat (first|apply Kd.R_alloc|apply Kd.R_drewN|apply Kd.R_drew));exact Kd.R_mono (Kd.R_far (p:=⟨gb147,4,none⟩) (Kd.R_mono HO_5.out (fun k_ hk=>(⟨hk,hk.1⟩ : _ ∧ k_ ≠ gb147))) (fun _ hk=>hk.2) (.int .i64 (wrap64 (-((rd_T38 x5_1 t150).f3))))) (fun _ hk=>⟨hk.1.1,hk.1.2⟩)));(case aS=>exact (keep_size (w:=w) (g:=g) (row:=none) Q149));(case aL=>have:=LMc25.out;omega);intro v157 w37 ho hb hg hat;rw [← Ny156.out] at ho;replace BK147:=am (blk_grown (g:=gb147) (o:=.cells #[.int .i64 ((rd_T38 x5_1 t150).f0),.int .i64 ((rd_T38 x5_1 t150).f1),.int .i64 t143,.int .i64 t144,.int .i64 (wrap64 (-((rd_T38 x5_1 t150).f3)))] 38 (0,0)) (by (with_reducible repeat (first|refine blk_drewN ?_ _|refine blk_drew ?_|refine blk_alloc ?_ _));refine blk_put (cs:=#[.int .i64 ((rd_T38 x5_1 t150).f0),.int .i64 ((rd_T38 x5_1 t150).f1),.int .i64 t143,.int .i64 t144,.int .i64 t145]) ?_ 4 _ rfl;(with_reducible repeat (first|refine blk_drewN ?_ _|refine blk_drew ?_|refine blk_alloc ?_ _));exact BK147.out) hg (Kd.R_away HO_5.out (fun _ hk=>hk.1)));replace BK153:=am (blk_grown (g:=gb153) (o:=.cells #[.int .i64 ((rd_T38 x5_1 t150).f0),.int .i64 ((rd_T38 x5_1 t150).f1),.int .i64 ((rd_T38 x5_1 t150).f2.f0),.int .i64 ((rd_T38 x5_1 t150).f2.f1),.int .i64 ((rd_T38 x5_1 t150).f3)] 38 (0,0)) (by (with_reducible repeat (first|refine blk_drewN ?_ _|refine blk_drew ?_|refine blk_alloc ?_ _));refine blk_far ?_ NB153_147.out _;(with_reducible repeat (first|refine blk_drewN ?_ _|refine blk_drew ?_|refine blk_alloc ?_ _));exact BK153.out) hg (Kd.R_away HO_5.out (fun _ hk=>hk.2)));replace HB:=am (below_weaken Q159 HL.out hb);replace HI0:=am (IsS87.grown (show IsS87 w0 _ g s0_0 t155 from by repeat (first|(with_reducible first|exact HI0.out|apply IsS87.alloc|apply IsS87.drewN|apply IsS87.drew|apply IsS87.set_1|refine IsS87.far ?_ NB0_147.out _|refine IsS87.far ?_ NB0_153.out _)|exact HI0.out)) hg (IsS87.own_ne HI0.out HO_5.out Q0));replace HK:=am (KeepBut.trans Q149 (KeepBut.of_grown hg g) (Kd.R_base2 HO_5.out));have HO158:=am (ho);clear HO_5;clear ho hb hg hat))
        go_roundg kj8
        case measure=>have:=HK1.out;have:=HJ8.out;omega
        case rel=>exact ⟨(y156),(wrap64 (x6_1 - 1)),(t155),Q7,H',⟨Q5⟩,⟨by (with_reducible repeat (first|apply Kd.R_alloc|apply Kd.R_drewN|apply Kd.R_drew));exact Kd.R_mono HO158.out (fun _ hk=>trivial)⟩,⟨Q151⟩,⟨Q149⟩,⟨Q159⟩⟩
       ·rw [if_neg c24] at H
        have c24b0 : (t154 == 0) = false:=beq_eq_false_iff_ne.mpr c24
        have c24b1 : (t154 != 0) = true:=bne_iff_ne.mpr c24
        have c38 : x5_1.length < 3518437208883:=nn_ H
        rw [if_pos c38] at H
        have LMc38:=Aside0.mk c38
        clear c38
        obtain ⟨y159,hy_⟩ : ∃ y_ : List (S38),y_ = (x5_1 ++ [(⟨(rd_T38 x5_1 t150).f0,(rd_T38 x5_1 t150).f1,(⟨t143,t144⟩ : S36),t145⟩ : S38)]):=⟨_,rfl⟩
        replace H : (spec_l71Rows.l0 kj8 y159 (wrap64 (x6_1 - 1)) s0_0 t155) = some (r1,r2):=Q162
        have Ny159:=Aside0.mk hy_
        clear hy_
        have H':=Aside0.mk H
        clear H
        obtain ⟨Ao39,co39,eo39⟩:=Kd.R_slice HO_5.out
        subst eo39
        go_wp2_with (first|((with_reducible refine gate_callee (f:=68) rfl ?_);refine goesL_ (some 32) rfl rfl Try.func68 Q1 rfl #[.pointer (some ⟨g,0,none⟩),.int .i64 (x5_1.length : Int)] rfl Q84 ?_;(with_reducible refine (spec_l6Rd_pick.calls kj8 g s0_0 x1001_8 (x5_1.length : Int) t150 t151 w0 _ ?side1 ?side2 A20.out).mono ?_);(case side1=>exact Q130);(case side2=>exact Q146);rintro e w40 ⟨rfl,hi,hb,hk⟩;refine ⟨_,rfl,?_⟩;replace HO_5:=am (Kd.R_mono (Kd.R_keep (IsS87.apart (show IsS87 w0 _ g s0_0 x1001_8 from by repeat (first|(with_reducible first|exact HI0.out|apply IsS87.alloc|apply IsS87.drewN|apply IsS87.drew|apply IsS87.set_1|refine IsS87.far ?_ NB0_147.out _)|exact HI0.out)) Q21 Q0) hk (fun _ h=>h.2)) (fun _ h=>h.1));replace BK147:=am (KeepBut.blk hk (g':=gb147) (o:=.cells #[.int .i64 t141,.int .i64 t142,.int .i64 t143,.int .i64 t144,.int .i64 t145] 38 (0,0)) Q43 NB147_0.out (by simp));replace HK:=am (KeepBut.trans Q125 hk (.inl rfl));replace HB:=am (hb);replace HI0:=am (hi);(try clear hb hk hi);have p152 : 0 ≤ (t150 : Int):=of_decide_eq_true Q8;have q152 : t150 < (x5_1.length : Int):=of_decide_eq_true Q8;obtain ⟨ad152,e152,hx152_0,hx152_1,hx152_2,hx152_3,hx152_4⟩:=at_T38 (Kd.R_reads' HO_5.out).2.2 t150 p152 q152;cases e152;replace p152:=eq_true p152;replace q152:=eq_true q152)|((with_reducible refine gate_dst (N:=8) rfl ?_);refine bE_ 8 #[.int .i64 0,.int .i64 0,.int .i64 0,.int .i64 0,.int .i64 0] 38 ?_;intro gb153 hg w41 hbox hb;replace HO_5:=am (Kd.R_below (Kd.R_elderB Q21 gb153 (Nat.le_of_eq hg.symm)) hb);replace HB:=am (below_step Q146 hb);have BK153:=am (hbox);have GW153:=am ((Q175 : w.heap.size ≤ gb153));have GE153:=am ((Nat.le_trans HW0.out (Q175 : w.heap.size ≤ gb153) : w0.heap.size ≤ gb153));replace HK:=am (KeepBut.trans Q125 (KeepBut.of_below hb g none) (.inl rfl));have NB147_153:=am ((by rw [hg];exact Nat.ne_of_lt (blk_lt (g:=gb147) (o:=.cells #[.int .i64 t141,.int .i64 t142,.int .i64 t143,.int .i64 t144,.int .i64 t145] 38 (0,0)) Q43) : gb147 ≠ gb153));have NB153_147:=am ((by rw [hg];exact Nat.ne_of_gt (blk_lt (g:=gb147) (o:=.cells #[.int .i64 t141,.int .i64 t142,.int .i64 t143,.int .i64 t144,.int .i64 t145] 38 (0,0)) Q43) : gb153 ≠ gb147));replace BK147:=am (blk_below (g:=gb147) (o:=.cells #[.int .i64 t141,.int .i64 t142,.int .i64 t143,.int .i64 t144,.int .i64 t145] 38 (0,0)) Q43 hb);have NB0_153:=am ((by rw [hg];exact Nat.ne_of_lt (IsS87.lt (show IsS87 w0 _ g s0_0 t151 from by repeat (first|(with_reducible first|exact HI0.out|apply IsS87.alloc|apply IsS87.drewN|apply IsS87.drew|apply IsS87.set_1|refine IsS87.far ?_ NB0_147.out _)|exact HI0.out))) : g ≠ gb153));have NB153_0:=am ((by rw [hg];exact Nat.ne_of_gt (IsS87.lt (show IsS87 w0 _ g s0_0 t151 from by repeat (first|(with_reducible first|exact HI0.out|apply IsS87.alloc|apply IsS87.drewN|apply IsS87.drew|apply IsS87.set_1|refine IsS87.far ?_ NB0_147.out _)|exact HI0.out))) : gb153 ≠ g));replace HI0:=am (IsS87.below Q130 hb);clear hb hbox hg;have hnb42:=NB153_147.out;have hnc42:=NB147_153.out;have hnb43:=NB153_0.out;have hnc43:=NB0_153.out;obtain ⟨hcz44_0,hcz44_1,hcz44_2,hcz44_3,hcz44_4,hfz44_0,hfz44_1,hfz44_2,hfz44_3,hfz44_4⟩:=bx5_ BK153;have hnb45:=NB147_0.out;have hnc45:=NB0_147.out;obtain ⟨hcz46_0,hcz46_1,hcz46_2,hcz46_3,hcz46_4,hfz46_0,hfz46_1,hfz46_2,hfz46_3,hfz46_4⟩:=bx5_ BK147)|((with_reducible refine gate_callee (f:=68) rfl ?_);refine goesL_ (some 42) rfl rfl Try.func68 Q1 rfl #[.pointer (some ⟨g,0,none⟩),.int .i64 2] rfl Q84 ?_;(with_reducible refine (spec_l6Rd_pick.calls kj8 g s0_0 t151 2 t154 t155 w0 _ ?side1 ?side2 A23.out).mono ?_);(case side1=>exact Q151);(case side2=>exact Q159);rintro e w47 ⟨rfl,hi,hb,hk⟩;refine ⟨_,rfl,?_⟩;replace HO_5:=am (Kd.R_mono (Kd.R_keep (IsS87.apart (show IsS87 w0 _ g s0_0 t151 from by repeat (first|(with_reducible first|exact HI0.out|apply IsS87.alloc|apply IsS87.drewN|apply IsS87.drew|apply IsS87.set_1|refine IsS87.far ?_ NB0_147.out _|refine IsS87.far ?_ NB0_153.out _)|exact HI0.out)) (by (with_reducible repeat (first|apply Kd.R_alloc|apply Kd.R_drewN|apply Kd.R_drew));exact (Kd.R_mono (Kd.R_mono (Kd.R_far (p:=⟨gb147,1,none⟩) (Kd.R_far (p:=⟨gb147,0,none⟩) (Kd.R_far (p:=⟨gb153,4,none⟩) (Kd.R_far (p:=⟨gb153,3,none⟩) (Kd.R_far (p:=⟨gb153,2,none⟩) (Kd.R_far (p:=⟨gb153,1,none⟩) (Kd.R_far (p:=⟨gb153,0,none⟩) (Kd.R_mono (Kd.R_mono HO_5.out (fun k_ hk=>(⟨hk,hk.2⟩ : _ ∧ k_ ≠ gb153))) (fun k_ hk=>(⟨hk,hk.1.1⟩ : _ ∧ k_ ≠ gb147))) (fun _ hk=>hk.1.2) (.int .i64 ((rd_T38 x5_1 t150).f0))) (fun _ hk=>hk.1.2) (.int .i64 ((rd_T38 x5_1 t150).f1))) (fun _ hk=>hk.1.2) (.int .i64 ((rd_T38 x5_1 t150).f2.f0))) (fun _ hk=>hk.1.2) (.int .i64 ((rd_T38 x5_1 t150).f2.f1))) (fun _ hk=>hk.1.2) (.int .i64 ((rd_T38 x5_1 t150).f3))) (fun _ hk=>hk.2) (.int .i64 ((rd_T38 x5_1 t150).f0))) (fun _ hk=>hk.2) (.int .i64 ((rd_T38 x5_1 t150).f1))) (fun _ h_=>h_.1)) (fun _ h_=>h_.1))) Q0) hk (fun _ h=>h.2)) (fun _ h=>h.1));replace BK147:=am (KeepBut.blk hk (g':=gb147) (o:=.cells #[.int .i64 ((rd_T38 x5_1 t150).f0),.int .i64 ((rd_T38 x5_1 t150).f1),.int .i64 t143,.int .i64 t144,.int .i64 t145] 38 (0,0)) (by (with_reducible repeat (first|refine blk_drewN ?_ _|refine blk_drew ?_|refine blk_alloc ?_ _));refine blk_put (cs:=#[.int .i64 ((rd_T38 x5_1 t150).f0),.int .i64 t142,.int .i64 t143,.int .i64 t144,.int .i64 t145]) ?_ 1 _ rfl;(with_reducible repeat (first|refine blk_drewN ?_ _|refine blk_drew ?_|refine blk_alloc ?_ _));refine blk_put (cs:=#[.int .i64 t141,.int .i64 t142,.int .i64 t143,.int .i64 t144,.int .i64 t145]) ?_ 0 _ rfl;(with_reducible repeat (first|refine blk_drewN ?_ _|refine blk_drew ?_|refine blk_alloc ?_ _));refine blk_far ?_ NB147_153.out _;(with_reducible repeat (first|refine blk_drewN ?_ _|refine blk_drew ?_|refine blk_alloc ?_ _));refine blk_far ?_ NB147_153.out _;(with_reducible repeat (first|refine blk_drewN ?_ _|refine blk_drew ?_|refine blk_alloc ?_ _));refine blk_far ?_ NB147_153.out _;(with_reducible repeat (first|refine blk_drewN ?_ _|refine blk_drew ?_|refine blk_alloc ?_ _));refine blk_far ?_ NB147_153.out _;(with_reducible repeat (first|refine blk_drewN ?_ _|refine blk_drew ?_|refine blk_alloc ?_ _));refine blk_far ?_ NB147_153.out _;(with_reducible repeat (first|refine blk_drewN ?_ _|refine blk_drew ?_|refine blk_alloc ?_ _));exact BK147.out) NB147_0.out (by simp));replace BK153:=am (KeepBut.blk hk (g':=gb153) (o:=.cells #[.int .i64 ((rd_T38 x5_1 t150).f0),.int .i64 ((rd_T38 x5_1 t150).f1),.int .i64 ((rd_T38 x5_1 t150).f2.f0),.int .i64 ((rd_T38 x5_1 t150).f2.f1),.int .i64 ((rd_T38 x5_1 t150).f3)] 38 (0,0)) (by (with_reducible repeat (first|refine blk_drewN ?_ _|refine blk_drew ?_|refine blk_alloc ?_ _));refine blk_far ?_ NB153_147.out _;(with_reducible repeat (first|refine blk_drewN ?_ _|refine blk_drew ?_|refine blk_alloc ?_ _));refine blk_far ?_ NB153_147.out _;(with_reducible repeat (first|refine blk_drewN ?_ _|refine blk_drew ?_|refine blk_alloc ?_ _));refine blk_put (cs:=#[.int .i64 ((rd_T38 x5_1 t150).f0),.int .i64 ((rd_T38 x5_1 t150).f1),.int .i64 ((rd_T38 x5_1 t150).f2.f0),.int .i64 ((rd_T38 x5_1 t150).f2.f1),.int .i64 0]) ?_ 4 _ rfl;(with_reducible repeat (first|refine blk_drewN ?_ _|refine blk_drew ?_|refine blk_alloc ?_ _));refine blk_put (cs:=#[.int .i64 ((rd_T38 x5_1 t150).f0),.int .i64 ((rd_T38 x5_1 t150).f1),.int .i64 ((rd_T38 x5_1 t150).f2.f0),.int .i64 0,.int .i64 0]) ?_ 3 _ rfl;(with_reducible repeat (first|refine blk_drewN ?_ _|refine blk_drew ?_|refine blk_alloc ?_ _));refine blk_put (cs:=#[.int .i64 ((rd_T38 x5_1 t150).f0),.int .i64 ((rd_T38 x5_1 t150).f1),.int .i64 0,.int .i64 0,.int .i64 0]) ?_ 2 _ rfl;(with_reducible repeat (first|refine blk_drewN ?_ _|refine blk_drew ?_|refine blk_alloc ?_ _));refine blk_put (cs:=#[.int .i64 ((rd_T38 x5_1 t150).f0),.int .i64 0,.int .i64 0,.int .i64 0,.int .i64 0]) ?_ 1 _ rfl;(with_reducible repeat (first|refine blk_drewN ?_ _|refine blk_drew ?_|refine blk_alloc ?_ _));refine blk_put (cs:=#[.int .i64 0,.int .i64 0,.int .i64 0,.int .i64 0,.int .i64 0]) ?_ 0 _ rfl;(with_reducible repeat (first|refine blk_drewN ?_ _|refine blk_drew ?_|refine blk_alloc ?_ _));exact BK153.out) NB153_0.out (by simp));replace HK:=am (KeepBut.trans Q149 hk (.inl rfl));replace HB:=am (hb);replace HI0:=am (hi);(try clear hb hk hi);obtain ⟨hcz48_0,hcz48_1,hcz48_2,hcz48_3,hcz48_4,hfz48_0,hfz48_1,hfz48_2,hfz48_3,hfz48_4⟩:=bx5_ BK147)|((with_reducible refine gate_builtin (b:=.append) (xs:=#[.tmp 48,.tmp 50]) rfl ?_);at_builtin;refine Kd.R_append k38 w.heap.size rfl (.tmp 48) (.tmp 50) 23 38 (.agg #[(.int .i64 0),(.int .i64 0),(.int .i64 0),(.int .i64 0),(.int .i64 0)]) 40 rfl Try.underlying23 info38 rfl Q0 (by omega) (.slice (some ad152) x5_1.length co39) x5_1 (⟨(rd_T38 x5_1 t150).f0,(rd_T38 x5_1 t150).f1,(⟨t143,t144⟩ : S36),t145⟩ : S38) [.int .i64 ((rd_T38 x5_1 t150).f0),.int .i64 ((rd_T38 x5_1 t150).f1),.int .i64 t143,.int .i64 t144,.int .i64 t145] (fun k_=>k_ ≠ gb147 ∧ k_ ≠ gb153) (fun _=>False) rfl rfl ?aP (fun _ hk=>hk.elim) ?aF ?aO (Below.refl _ _) ?aS ?aL ?_;(case aP=>exact k38_mkM _ _ _ (⟨(rd_T38 x5_1 t150).f0,(rd_T38 x5_1 t150).f1,(⟨t143,t144⟩ : S36),t145⟩ : S38));(case aF=>exact (fun k_ hk=>⟨Kd.freshB (g:=gb147) (o:=.cells #[.int .i64 ((rd_T38 x5_1 t150).f0),.int .i64 ((rd_T38 x5_1 t150).f1),.int .i64 t143,.int .i64 t144,.int .i64 t145] 38 (0,0)) Q43 k_ hk,Kd.freshB (g:=gb153) (o:=.cells #[.int .i64 ((rd_T38 x5_1 t150).f0),.int .i64 ((rd_T38 x5_1 t150).f1),.int .i64 ((rd_T38 x5_1 t150).f2.f0),.int .i64 ((rd_T38 x5_1 t150).f2.f1),.int .i64 ((rd_T38 x5_1 t150).f3)] 38 (0,0)) (by (with_reducible repeat (first|refine blk_drewN ?_ _|refine blk_drew ?_|refine blk_alloc ?_ _));exact BK153.out) k_ hk⟩));(case aO=>exact Q21);(case aS=>exact (keep_size (w:=w) (g:=g) (row:=none) Q149));(case aL=>have:=LMc38.out;omega);intro v160 w49 ho hb hg hat;rw [← Ny159.out] at ho;replace BK147:=am (blk_grown (g:=gb147) (o:=.cells #[.int .i64 ((rd_T38 x5_1 t150).f0),.int .i64 ((rd_T38 x5_1 t150).f1),.int .i64 t143,.int .i64 t144,.int .i64 t145] 38 (0,0)) Q43 hg (Kd.R_away HO_5.out (fun _ hk=>hk.1)));replace BK153:=am (blk_grown (g:=gb153) (o:=.cells #[.int .i64 ((rd_T38 x5_1 t150).f0),.int .i64 ((rd_T38 x5_1 t150).f1),.int .i64 ((rd_T38 x5_1 t150).f2.f0),.int .i64 ((rd_T38 x5_1 t150).f2.f1),.int .i64 ((rd_T38 x5_1 t150).f3)] 38 (0,0)) (by (with_reducible repeat (first|refine blk_drewN ?_ _|refine blk_drew ?_|refine blk_alloc ?_ _));exact BK153.out) hg (Kd.R_away HO_5.out (fun _ hk=>hk.2)));replace HB:=am (below_weaken Q159 HL.out hb);replace HI0:=am (IsS87.grown (show IsS87 w0 _ g s0_0 t155 from by repeat (first|(with_reducible first|exact HI0.out|apply IsS87.alloc|apply IsS87.drewN|apply IsS87.drew|apply IsS87.set_1|refine IsS87.far ?_ NB0_147.out _|refine IsS87.far ?_ NB0_153.out _)|exact HI0.out)) hg (IsS87.own_ne HI0.out HO_5.out Q0));replace HK:=am (KeepBut.trans Q149 (KeepBut.of_grown hg g) (Kd.R_base2 HO_5.out));have HO161:=am (ho);clear HO_5;clear ho hb hg hat))
        go_roundg kj8
        case measure=>have:=HK1.out;have:=HJ8.out;omega
        case rel=>exact ⟨(y159),(wrap64 (x6_1 - 1)),(t155),Q7,H',⟨Q5⟩,⟨by (with_reducible repeat (first|apply Kd.R_alloc|apply Kd.R_drewN|apply Kd.R_drew));exact Kd.R_mono HO161.out (fun _ hk=>trivial)⟩,⟨Q151⟩,⟨Q149⟩,⟨Q159⟩⟩
      ·replace c19:=Bool.eq_false_iff.mpr c19
       subst c19
       have H1 : (if x5_1.length < 3518437208883 then (spec_l71Rows.l0 kj8 (x5_1 ++ [(⟨t141,t142,(⟨t143,t144⟩ : S36),t145⟩ : S38)]) (wrap64 (x6_1 - 1)) s0_0 x1001_8) else (none)) = some (r1,r2):=by rw [if_neg (show ¬ (false = true) by decide)] at H;exact H
       clear H
       have H:=H1
       clear H1
       have c50 : x5_1.length < 3518437208883:=nn_ H
       rw [if_pos c50] at H
       have LMc50:=Aside0.mk c50
       clear c50
       obtain ⟨y162,hy_⟩ : ∃ y_ : List (S38),y_ = (x5_1 ++ [(⟨t141,t142,(⟨t143,t144⟩ : S36),t145⟩ : S38)]):=⟨_,rfl⟩
       replace H : (spec_l71Rows.l0 kj8 y162 (wrap64 (x6_1 - 1)) s0_0 x1001_8) = some (r1,r2):=Q162
       have Ny162:=Aside0.mk hy_
       clear hy_
       have H':=Aside0.mk H
       clear H
       have hnb51:=NB147_0.out
       have hnc51:=NB0_147.out
       have hcz52_0 : wc.cell? ⟨gb147,0,none⟩ = some (.int .i64 t141):=(blk_cell BK147.out 0).trans rfl
       have hcz52_1 : wc.cell? ⟨gb147,1,none⟩ = some (.int .i64 t142):=(blk_cell BK147.out 1).trans rfl
       have hcz52_2 : wc.cell? ⟨gb147,2,none⟩ = some (.int .i64 t143):=(blk_cell BK147.out 2).trans rfl
       have hcz52_3 : wc.cell? ⟨gb147,3,none⟩ = some (.int .i64 t144):=(blk_cell BK147.out 3).trans rfl
       have hcz52_4 : wc.cell? ⟨gb147,4,none⟩ = some (.int .i64 t145):=(blk_cell BK147.out 4).trans rfl
       have hfz52_0:=blk_frozen BK147.out 0
       have hfz52_1:=blk_frozen BK147.out 1
       have hfz52_2:=blk_frozen BK147.out 2
       have hfz52_3:=blk_frozen BK147.out 3
       have hfz52_4:=blk_frozen BK147.out 4
       go_wp2_with (first|((with_reducible refine gate_builtin (b:=.append) (xs:=#[.tmp 48,.tmp 50]) rfl ?_);at_builtin;refine Kd.R_append k38 w.heap.size rfl (.tmp 48) (.tmp 50) 23 38 (.agg #[(.int .i64 0),(.int .i64 0),(.int .i64 0),(.int .i64 0),(.int .i64 0)]) 40 rfl Try.underlying23 info38 rfl Q0 (by omega) u5 x5_1 (⟨t141,t142,(⟨t143,t144⟩ : S36),t145⟩ : S38) [.int .i64 t141,.int .i64 t142,.int .i64 t143,.int .i64 t144,.int .i64 t145] (fun k_=>k_ ≠ gb147) (fun _=>False) rfl rfl ?aP (fun _ hk=>hk.elim) ?aF ?aO (Below.refl _ _) ?aS ?aL ?_;(case aP=>exact k38_mkM _ _ _ (⟨t141,t142,(⟨t143,t144⟩ : S36),t145⟩ : S38));(case aF=>exact (fun k_ hk=>Kd.freshB (g:=gb147) (o:=.cells #[.int .i64 t141,.int .i64 t142,.int .i64 t143,.int .i64 t144,.int .i64 t145] 38 (0,0)) Q43 k_ hk));(case aO=>exact Q21);(case aS=>exact (keep_size (w:=w) (g:=g) (row:=none) Q125));(case aL=>have:=LMc50.out;omega);intro v163 w53 ho hb hg hat;rw [← Ny162.out] at ho;replace BK147:=am (blk_grown (g:=gb147) (o:=.cells #[.int .i64 t141,.int .i64 t142,.int .i64 t143,.int .i64 t144,.int .i64 t145] 38 (0,0)) Q43 hg (Kd.R_away HO_5.out (fun _ hk=>hk)));replace HB:=am (below_weaken Q146 HL.out hb);replace HI0:=am (IsS87.grown (show IsS87 w0 _ g s0_0 x1001_8 from by repeat (first|(with_reducible first|exact HI0.out|apply IsS87.alloc|apply IsS87.drewN|apply IsS87.drew|apply IsS87.set_1|refine IsS87.far ?_ NB0_147.out _)|exact HI0.out)) hg (IsS87.own_ne HI0.out HO_5.out Q0));replace HK:=am (KeepBut.trans Q125 (KeepBut.of_grown hg g) (Kd.R_base2 HO_5.out));have HO164:=am (ho);clear HO_5;clear ho hb hg hat))
       go_roundg kj8
       case measure=>have:=HK1.out;have:=HJ8.out;omega
       case rel=>exact ⟨(y162),(wrap64 (x6_1 - 1)),(x1001_8),Q7,H',⟨Q5⟩,⟨by (with_reducible repeat (first|apply Kd.R_alloc|apply Kd.R_drewN|apply Kd.R_drew));exact Kd.R_mono HO164.out (fun _ hk=>trivial)⟩,⟨Q130⟩,⟨Q125⟩,⟨Q146⟩⟩
   ·rw [if_neg c7] at H
    have c7b0 : decide (0 < x6_1) = false:=decide_eq_false c7
    clear c7
    simp only [Option.some.injEq,Prod.mk.injEq] at H
    obtain ⟨rfl,rfl⟩:=H
    go_wp2
    go_ret
    exact ⟨_,Q18,Q21,Q88,Q114,Q87⟩
def spec_l71Spoil.f (k : Nat) (s0_0 : List Int) (s0_1 : Int) (l1 : List (S38)) : Option ((List (S38)) × Int) := (spec_l71Row.f k s0_0 s0_1).bind fun bt165 => ((spec_l6Rd_pick.f k s0_0 bt165.2.2.2.2.2 5).bind fun bt172 => (if bt172.1 = 0 then ((some (([(-1), 4] : List Int) : List Int)).bind fun y174 => ((spec_l6Rd_pick.f k s0_0 bt172.2 2).bind fun bt177 => (if 0 ≤ bt177.1 then (if bt177.1 < (y174.length : Int) then ((some (([] : List (S38)) : List (S38))).bind fun y180 => (if y180.length + l1.length < 3518437208883 then ((some (y180 ++ l1 : List (S38))).bind fun y183 => ((some (([(⟨rd y174 bt177.1, bt165.2.1, (⟨bt165.2.2.1, bt165.2.2.2.1⟩ : S36), bt165.2.2.2.2.1⟩ : S38)] : List (S38)) : List (S38))).bind fun y186 => (if y183.length + y186.length < 3518437208883 then (some ((y183 ++ y186), bt177.2)) else (none)))) else (none))) else (none)) else (none)))) else (if bt172.1 = 1 then ((some (([(-1), 100] : List Int) : List Int)).bind fun y192 => ((spec_l6Rd_pick.f k s0_0 bt172.2 2).bind fun bt195 => (if 0 ≤ bt195.1 then (if bt195.1 < (y192.length : Int) then ((some (([] : List (S38)) : List (S38))).bind fun y198 => (if y198.length + l1.length < 3518437208883 then ((some (y198 ++ l1 : List (S38))).bind fun y201 => ((some (([(⟨bt165.1, rd y192 bt195.1, (⟨bt165.2.2.1, bt165.2.2.2.1⟩ : S36), bt165.2.2.2.2.1⟩ : S38)] : List (S38)) : List (S38))).bind fun y204 => (if y201.length + y204.length < 3518437208883 then (some ((y201 ++ y204), bt195.2)) else (none)))) else (none))) else (none)) else (none)))) else (if bt172.1 = 2 then ((some (([] : List (S38)) : List (S38))).bind fun y210 => (if y210.length + l1.length < 3518437208883 then ((some (y210 ++ l1 : List (S38))).bind fun y213 => ((some (([(⟨bt165.1, bt165.2.1, (⟨(-1), 0⟩ : S36), bt165.2.2.2.2.1⟩ : S38)] : List (S38)) : List (S38))).bind fun y216 => (if y213.length + y216.length < 3518437208883 then (some ((y213 ++ y216), bt172.2)) else (none)))) else (none))) else (if bt172.1 = 3 then ((some (([(-100000), 100000] : List Int) : List Int)).bind fun y222 => ((spec_l6Rd_pick.f k s0_0 bt172.2 2).bind fun bt225 => (if 0 ≤ bt225.1 then (if bt225.1 < (y222.length : Int) then ((some (([] : List (S38)) : List (S38))).bind fun y228 => (if y228.length + l1.length < 3518437208883 then ((some (y228 ++ l1 : List (S38))).bind fun y231 => ((some (([(⟨bt165.1, bt165.2.1, (⟨bt165.2.2.1, bt165.2.2.2.1⟩ : S36), rd y222 bt225.1⟩ : S38)] : List (S38)) : List (S38))).bind fun y234 => (if y231.length + y234.length < 3518437208883 then (some ((y231 ++ y234), bt225.2)) else (none)))) else (none))) else (none)) else (none)))) else ((some (([] : List (S38)) : List (S38))).bind fun y240 => (if y240.length + l1.length < 3518437208883 then ((some (y240 ++ l1 : List (S38))).bind fun y243 => ((some (([(⟨bt165.1, bt165.2.1, (⟨bt165.2.2.1, 8⟩ : S36), bt165.2.2.2.2.1⟩ : S38)] : List (S38)) : List (S38))).bind fun y246 => (if y243.length + y246.length < 3518437208883 then (some ((y243 ++ y246), bt172.2)) else (none)))) else (none))))))))
end Go.Proofs.Ytjlkffmdmifahaa.PFnBatchMove
