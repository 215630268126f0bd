/- Functions that the law comes to: each as a plain Lean function, with the contract of the Go function. -/
import Derived.Test.YtjlkffmdmifahaaVFnBatchOfw
import Derived.Test.YtjlkffmdmifahaaVFnBatchOfp0
import Derived.Test.YtjlkffmdmifahaaVFnBatchOfp1
import Derived.Test.YtjlkffmdmifahaaVFnBatchOfg1
namespace Go.Proofs.Ytjlkffmdmifahaa.PFnBatchOf
open Go.RowKit Go.Proofs.YtjlkffmdmifahaaW.PrintWords Go.Proofs.YtjlkffmdmifahaaW.PrintLast Go.Proofs.YtjlkffmdmifahaaW.PrintMore
attribute [local go_sem] max2_int min2_int max_two min_two max_three min_three max_four min_four
set_option linter.unusedVariables false
set_option linter.unusedSimpArgs false
attribute [local go_sem high] eqA38 eqA83
set_option maxHeartbeats 8000000 in
set_option maxRecDepth 100000 in
theorem spec_l71Spoil.calls (k : Nat) (g : Nat) (s0_0 : List Int) (s0_1 : Int) (A1 : Option Addr) (c1 : Nat) (l1 : List (S38)) (r1 : List (S38)) (r2 : Int) (w0 w : World) (hI : IsS87 w0 w g s0_0 s0_1) (hB : Below w0.heap.size w0 w) (hr1 : ∀ W_,KeepBut w W_ g none → Kd.C k38 W_ A1 l1.length l1) (hc1 : l1.length ≤ c1) (h : spec_l71Spoil.f k s0_0 s0_1 l1 = some (r1,r2)) :
  Calls Try.prog 81 #[.pointer (some ⟨g,0,none⟩),.slice A1 l1.length c1] w fun e w'=>∃ v0_ : Value,e = .returned (v0_) ∧ Kd.R k38 38 w' w.heap.size (fun _=>True) v0_ r1 ∧ IsS87 w0 w' g s0_0 r2 ∧ Below w0.heap.size w0 w' ∧ KeepBut w w' g none:=by
 have hu38:=Try.underlying38
 have hu36:=Try.underlying36
 have HR1:=Aside0.mk hr1
 have HC1:=Aside0.mk hc1
 clear hr1 hc1
 have HI0:=Aside0.mk hI
 have HK:=Aside0.mk (KeepBut.refl w g none)
 have HL:=Aside0.mk hB.size
 clear hI
 have HW0:=Aside0.mk hB.size
 have HB:=Aside0.mk hB
 clear hB
 have H : ((spec_l71Row.f k s0_0 s0_1).bind fun bt165=>((spec_l6Rd_pick.f k s0_0 bt165.2.2.2.2.2 5).bind fun bt172=>(if bt172.1 = 0 then ((some (([(-1),4] : List Int) : List Int)).bind fun y174=>((spec_l6Rd_pick.f k s0_0 bt172.2 2).bind fun bt177=>(if 0 ≤ bt177.1 then (if bt177.1 < (y174.length : Int) then ((some (([] : List (S38)) : List (S38))).bind fun y180=>(if y180.length + l1.length < 3518437208883 then ((some (y180 ++ l1 : List (S38))).bind fun y183=>((some (([(⟨rd y174 bt177.1,bt165.2.1,(⟨bt165.2.2.1,bt165.2.2.2.1⟩ : S36),bt165.2.2.2.2.1⟩ : S38)] : List (S38)) : List (S38))).bind fun y186=>(if y183.length + y186.length < 3518437208883 then (some ((y183 ++ y186),bt177.2)) else (none)))) else (none))) else (none)) else (none)))) else (if bt172.1 = 1 then ((some (([(-1),100] : List Int) : List Int)).bind fun y192=>((spec_l6Rd_pick.f k s0_0 bt172.2 2).bind fun bt195=>(if 0 ≤ bt195.1 then (if bt195.1 < (y192.length : Int) then ((some (([] : List (S38)) : List (S38))).bind fun y198=>(if y198.length + l1.length < 3518437208883 then ((some (y198 ++ l1 : List (S38))).bind fun y201=>((some (([(⟨bt165.1,rd y192 bt195.1,(⟨bt165.2.2.1,bt165.2.2.2.1⟩ : S36),bt165.2.2.2.2.1⟩ : S38)] : List (S38)) : List (S38))).bind fun y204=>(if y201.length + y204.length < 3518437208883 then (some ((y201 ++ y204),bt195.2)) else (none)))) else (none))) else (none)) else (none)))) else (if bt172.1 = 2 then ((some (([] : List (S38)) : List (S38))).bind fun y210=>(if y210.length + l1.length < 3518437208883 then ((some (y210 ++ l1 : List (S38))).bind fun y213=>((some (([(⟨bt165.1,bt165.2.1,(⟨(-1),0⟩ : S36),bt165.2.2.2.2.1⟩ : S38)] : List (S38)) : List (S38))).bind fun y216=>(if y213.length + y216.length < 3518437208883 then (some ((y213 ++ y216),bt172.2)) else (none)))) else (none))) else (if bt172.1 = 3 then ((some (([(-100000),100000] : List Int) : List Int)).bind fun y222=>((spec_l6Rd_pick.f k s0_0 bt172.2 2).bind fun bt225=>(if 0 ≤ bt225.1 then (if bt225.1 < (y222.length : Int) then ((some (([] : List (S38)) : List (S38))).bind fun y228=>(if y228.length + l1.length < 3518437208883 then ((some (y228 ++ l1 : List (S38))).bind fun y231=>((some (([(⟨bt165.1,bt165.2.1,(⟨bt165.2.2.1,bt165.2.2.2.1⟩ : S36),rd y222 bt225.1⟩ : S38)] : List (S38)) : List (S38))).bind fun y234=>(if y231.length + y234.length < 3518437208883 then (some ((y231 ++ y234),bt225.2)) else (none)))) else (none))) else (none)) else (none)))) else ((some (([] : List (S38)) : List (S38))).bind fun y240=>(if y240.length + l1.length < 3518437208883 then ((some (y240 ++ l1 : List (S38))).bind fun y243=>((some (([(⟨bt165.1,bt165.2.1,(⟨bt165.2.2.1,8⟩ : S36),bt165.2.2.2.2.1⟩ : S38)] : List (S38)) : List (S38))).bind fun y246=>(if y243.length + y246.length < 3518437208883 then (some ((y243 ++ y246),bt172.2)) else (none)))) else (none))))))))) = some (r1,r2):=h
 clear h
 replace H:=Option.bind_eq_some_iff.mp H
 obtain ⟨⟨t165,t166,t167,t168,t169,t170⟩,A30,H⟩:=H
 replace H : ((spec_l6Rd_pick.f k s0_0 t170 5).bind fun bt172=>(if bt172.1 = 0 then ((some (([(-1),4] : List Int) : List Int)).bind fun y174=>((spec_l6Rd_pick.f k s0_0 bt172.2 2).bind fun bt177=>(if 0 ≤ bt177.1 then (if bt177.1 < (y174.length : Int) then ((some (([] : List (S38)) : List (S38))).bind fun y180=>(if y180.length + l1.length < 3518437208883 then ((some (y180 ++ l1 : List (S38))).bind fun y183=>((some (([(⟨rd y174 bt177.1,t166,(⟨t167,t168⟩ : S36),t169⟩ : S38)] : List (S38)) : List (S38))).bind fun y186=>(if y183.length + y186.length < 3518437208883 then (some ((y183 ++ y186),bt177.2)) else (none)))) else (none))) else (none)) else (none)))) else (if bt172.1 = 1 then ((some (([(-1),100] : List Int) : List Int)).bind fun y192=>((spec_l6Rd_pick.f k s0_0 bt172.2 2).bind fun bt195=>(if 0 ≤ bt195.1 then (if bt195.1 < (y192.length : Int) then ((some (([] : List (S38)) : List (S38))).bind fun y198=>(if y198.length + l1.length < 3518437208883 then ((some (y198 ++ l1 : List (S38))).bind fun y201=>((some (([(⟨t165,rd y192 bt195.1,(⟨t167,t168⟩ : S36),t169⟩ : S38)] : List (S38)) : List (S38))).bind fun y204=>(if y201.length + y204.length < 3518437208883 then (some ((y201 ++ y204),bt195.2)) else (none)))) else (none))) else (none)) else (none)))) else (if bt172.1 = 2 then ((some (([] : List (S38)) : List (S38))).bind fun y210=>(if y210.length + l1.length < 3518437208883 then ((some (y210 ++ l1 : List (S38))).bind fun y213=>((some (([(⟨t165,t166,(⟨(-1),0⟩ : S36),t169⟩ : S38)] : List (S38)) : List (S38))).bind fun y216=>(if y213.length + y216.length < 3518437208883 then (some ((y213 ++ y216),bt172.2)) else (none)))) else (none))) else (if bt172.1 = 3 then ((some (([(-100000),100000] : List Int) : List Int)).bind fun y222=>((spec_l6Rd_pick.f k s0_0 bt172.2 2).bind fun bt225=>(if 0 ≤ bt225.1 then (if bt225.1 < (y222.length : Int) then ((some (([] : List (S38)) : List (S38))).bind fun y228=>(if y228.length + l1.length < 3518437208883 then ((some (y228 ++ l1 : List (S38))).bind fun y231=>((some (([(⟨t165,t166,(⟨t167,t168⟩ : S36),rd y222 bt225.1⟩ : S38)] : List (S38)) : List (S38))).bind fun y234=>(if y231.length + y234.length < 3518437208883 then (some ((y231 ++ y234),bt225.2)) else (none)))) else (none))) else (none)) else (none)))) else ((some (([] : List (S38)) : List (S38))).bind fun y240=>(if y240.length + l1.length < 3518437208883 then ((some (y240 ++ l1 : List (S38))).bind fun y243=>((some (([(⟨t165,t166,(⟨t167,8⟩ : S36),t169⟩ : S38)] : List (S38)) : List (S38))).bind fun y246=>(if y243.length + y246.length < 3518437208883 then (some ((y243 ++ y246),bt172.2)) else (none)))) else (none)))))))) = some (r1,r2):=H
 have A3:=Aside0.mk A30
 clear A30
 replace H:=Option.bind_eq_some_iff.mp H
 obtain ⟨⟨t172,t173⟩,A40,H⟩:=H
 replace H : (if t172 = 0 then ((some (([(-1),4] : List Int) : List Int)).bind fun y174=>((spec_l6Rd_pick.f k s0_0 t173 2).bind fun bt177=>(if 0 ≤ bt177.1 then (if bt177.1 < (y174.length : Int) then ((some (([] : List (S38)) : List (S38))).bind fun y180=>(if y180.length + l1.length < 3518437208883 then ((some (y180 ++ l1 : List (S38))).bind fun y183=>((some (([(⟨rd y174 bt177.1,t166,(⟨t167,t168⟩ : S36),t169⟩ : S38)] : List (S38)) : List (S38))).bind fun y186=>(if y183.length + y186.length < 3518437208883 then (some ((y183 ++ y186),bt177.2)) else (none)))) else (none))) else (none)) else (none)))) else (if t172 = 1 then ((some (([(-1),100] : List Int) : List Int)).bind fun y192=>((spec_l6Rd_pick.f k s0_0 t173 2).bind fun bt195=>(if 0 ≤ bt195.1 then (if bt195.1 < (y192.length : Int) then ((some (([] : List (S38)) : List (S38))).bind fun y198=>(if y198.length + l1.length < 3518437208883 then ((some (y198 ++ l1 : List (S38))).bind fun y201=>((some (([(⟨t165,rd y192 bt195.1,(⟨t167,t168⟩ : S36),t169⟩ : S38)] : List (S38)) : List (S38))).bind fun y204=>(if y201.length + y204.length < 3518437208883 then (some ((y201 ++ y204),bt195.2)) else (none)))) else (none))) else (none)) else (none)))) else (if t172 = 2 then ((some (([] : List (S38)) : List (S38))).bind fun y210=>(if y210.length + l1.length < 3518437208883 then ((some (y210 ++ l1 : List (S38))).bind fun y213=>((some (([(⟨t165,t166,(⟨(-1),0⟩ : S36),t169⟩ : S38)] : List (S38)) : List (S38))).bind fun y216=>(if y213.length + y216.length < 3518437208883 then (some ((y213 ++ y216),t173)) else (none)))) else (none))) else (if t172 = 3 then ((some (([(-100000),100000] : List Int) : List Int)).bind fun y222=>((spec_l6Rd_pick.f k s0_0 t173 2).bind fun bt225=>(if 0 ≤ bt225.1 then (if bt225.1 < (y222.length : Int) then ((some (([] : List (S38)) : List (S38))).bind fun y228=>(if y228.length + l1.length < 3518437208883 then ((some (y228 ++ l1 : List (S38))).bind fun y231=>((some (([(⟨t165,t166,(⟨t167,t168⟩ : S36),rd y222 bt225.1⟩ : S38)] : List (S38)) : List (S38))).bind fun y234=>(if y231.length + y234.length < 3518437208883 then (some ((y231 ++ y234),bt225.2)) else (none)))) else (none))) else (none)) else (none)))) else ((some (([] : List (S38)) : List (S38))).bind fun y240=>(if y240.length + l1.length < 3518437208883 then ((some (y240 ++ l1 : List (S38))).bind fun y243=>((some (([(⟨t165,t166,(⟨t167,8⟩ : S36),t169⟩ : S38)] : List (S38)) : List (S38))).bind fun y246=>(if y243.length + y246.length < 3518437208883 then (some ((y243 ++ y246),t173)) else (none)))) else (none))))))) = some (r1,r2):=H
 have A4:=Aside0.mk A40
 clear A40
 by_cases c5 : t172 = 0
 case' pos =>
  rw [if_pos c5] at H
  have c5b0 : (t172 == 0) = true:=beq_iff_eq.mpr c5
  have c5b1 : (t172 != 0) = false:=bne_eq_false_iff_eq.mpr c5
  clear c5
  obtain ⟨y174,hy_⟩ : ∃ y_ : List Int,y_ = (([(-1),4] : List Int)):=⟨_,rfl⟩
  replace H : ((spec_l6Rd_pick.f k s0_0 t173 2).bind fun bt177=>(if 0 ≤ bt177.1 then (if bt177.1 < (y174.length : Int) then ((some (([] : List (S38)) : List (S38))).bind fun ya=>(if ya.length + l1.length < 3518437208883 then ((some (ya ++ l1 : List (S38))).bind fun yb=>((some (([(⟨rd y174 bt177.1,t166,(⟨t167,t168⟩ : S36),t169⟩ : S38)] : List (S38)) : List (S38))).bind fun yc=>(if yb.length + yc.length < 3518437208883 then (some ((yb ++ yc),bt177.2)) else (none)))) else (none))) else (none)) else (none))) = some (r1,r2):=Q98
  have Ny174:=Aside0.mk hy_
  clear hy_
  replace H:=Option.bind_eq_some_iff.mp H
  obtain ⟨⟨t177,tp⟩,A60,H⟩:=H
  replace H : (if 0 ≤ t177 then (if t177 < (y174.length : Int) then ((some (([] : List (S38)) : List (S38))).bind fun ya=>(if ya.length + l1.length < 3518437208883 then ((some (ya ++ l1 : List (S38))).bind fun yb=>((some (([(⟨rd y174 t177,t166,(⟨t167,t168⟩ : S36),t169⟩ : S38)] : List (S38)) : List (S38))).bind fun yc=>(if yb.length + yc.length < 3518437208883 then (some ((yb ++ yc),tp)) else (none)))) else (none))) else (none)) else (none)) = some (r1,r2):=H
  have A6:=Aside0.mk A60
  clear A60
  have c7 : 0 ≤ t177:=Classical.byContradiction fun hn_=>by rw [if_neg hn_] at H;exact absurd H Q0
  rw [if_pos c7] at H
  have c7b0 : decide (0 ≤ t177) = true:=decide_eq_true c7
  clear c7
  have c8 : t177 < (y174.length : Int):=Classical.byContradiction fun hn_=>by rw [if_neg hn_] at H;exact absurd H Q0
  rw [if_pos c8] at H
  have c8b0 : decide (t177 < (y174.length : Int)) = true:=decide_eq_true c8
  clear c8
  obtain ⟨ya,hya⟩ : ∃ y_ : List (S38),y_ = (([] : List (S38))):=⟨_,rfl⟩
  replace H : (if ya.length + l1.length < 3518437208883 then ((some (ya ++ l1 : List (S38))).bind fun yb=>((some (([(⟨rd y174 t177,t166,(⟨t167,t168⟩ : S36),t169⟩ : S38)] : List (S38)) : List (S38))).bind fun yc=>(if yb.length + yc.length < 3518437208883 then (some ((yb ++ yc),tp)) else (none)))) else (none)) = some (r1,r2):=Q99
  have Nya:=Aside0.mk hya
  clear hya
  have c9 : ya.length + l1.length < 3518437208883:=Classical.byContradiction fun hn_=>by rw [if_neg hn_] at H;exact absurd H Q0
  rw [if_pos c9] at H
  have LMca:=Aside0.mk c9
  clear c9
  obtain ⟨yb,hyb⟩ : ∃ y_ : List (S38),y_ = (ya ++ l1):=⟨_,rfl⟩
  replace H : ((some (([(⟨rd y174 t177,t166,(⟨t167,t168⟩ : S36),t169⟩ : S38)] : List (S38)) : List (S38))).bind fun yc=>(if yb.length + yc.length < 3518437208883 then (some ((yb ++ yc),tp)) else (none))) = some (r1,r2):=Q100
  have Nyb:=Aside0.mk hyb
  clear hyb
  obtain ⟨yc,hyc⟩ : ∃ y_ : List (S38),y_ = (([(⟨rd y174 t177,t166,(⟨t167,t168⟩ : S36),t169⟩ : S38)] : List (S38))):=⟨_,rfl⟩
  replace H : (if yb.length + yc.length < 3518437208883 then (some ((yb ++ yc),tp)) else (none)) = some (r1,r2):=Q101
  have Nyc:=Aside0.mk hyc
  clear hyc
  have c10 : yb.length + yc.length < 3518437208883:=Classical.byContradiction fun hn_=>by rw [if_neg hn_] at H;exact absurd H Q0
  rw [if_pos c10] at H
  have LMcb:=Aside0.mk c10
  clear c10
  obtain ⟨yd,hyd⟩ : ∃ y_ : List (S38),y_ = (yb ++ yc):=⟨_,rfl⟩
  replace H : (some (yd,tp)) = some (r1,r2):=Q102
  have Nyd:=Aside0.mk hyd
  clear hyd
  simp only [Option.some.injEq,Prod.mk.injEq] at H
  obtain ⟨rfl,rfl⟩:=H
  go_enter Try.func81,Try.ntmps81
  try go_wp2_with (first|((with_reducible refine gate_callee (f:=70) rfl ?_);refine goesL_ (some 7) rfl rfl Try.func70 Q2 rfl #[.pointer (some ⟨g,0,none⟩)] rfl Q50 ?_;(with_reducible refine (spec_l71Row.calls k g s0_0 s0_1 t165 t166 t167 t168 t169 t170 w0 _ ?side1 ?side2 A3.out).mono ?_);(case side1=>exact Q54);(case side2=>exact Q72);rintro e w11 ⟨rfl,hi,hb,hk⟩;refine ⟨_,rfl,?_⟩;have n0_:=Aside0.mk (KeepBut.trans Q53 hk (.inl rfl));have n1_:=Aside0.mk (hb);have n2_:=Aside0.mk (hi);clear HK;clear HB;clear HI0;have HK:=n0_;have HB:=n1_;have HI0:=n2_;clear n0_ n1_ n2_;(try clear hb);(try clear hb2);(try clear hk);(try clear hi))|((with_reducible refine gate_dst (N:=5) rfl ?_);refine box_event ?hg (N:=5) ?hd (cs:=#[.int .i64 0,.int .i64 0,.int .i64 0,.int .i64 0,.int .i64 0]) (t:=38) ?hr ?_;(case hd=>rfl);(case hg=>rfl);(case hr=>first|(go_simp;done)|(go_simp;rfl));intro gb171 hg w12 hbox hb;have n0_:=Aside0.mk (IsS87.below Q54 hb);have n1_:=Aside0.mk (KeepBut.trans Q53 (KeepBut.of_below hb g none) (.inl rfl));have n2_:=Aside0.mk (below_step Q72 hb);have n3_:=Aside0.mk (hbox);have n4_:=Aside0.mk ((Q107 : w.heap.size ≤ gb171));have n5_:=Aside0.mk ((Nat.le_trans HW0.out (Q107 : w.heap.size ≤ gb171) : w0.heap.size ≤ gb171));have n6_:=Aside0.mk ((by rw [hg];exact Nat.ne_of_lt (IsS87.lt (show IsS87 w0 _ g s0_0 t170 from by repeat (first|(with_reducible first|exact HI0.out|apply IsS87.alloc|apply IsS87.drewN|apply IsS87.drew|apply IsS87.set_1)|exact HI0.out))) : g ≠ gb171));have n7_:=Aside0.mk ((by rw [hg];exact Nat.ne_of_gt (IsS87.lt (show IsS87 w0 _ g s0_0 t170 from by repeat (first|(with_reducible first|exact HI0.out|apply IsS87.alloc|apply IsS87.drewN|apply IsS87.drew|apply IsS87.set_1)|exact HI0.out))) : gb171 ≠ g));clear HI0;clear HK;clear HB;have HI0:=n0_;have HK:=n1_;have HB:=n2_;have BK171:=n3_;have GW171:=n4_;have GE171:=n5_;have NB0_171:=n6_;have NB171_0:=n7_;clear n0_ n1_ n2_ n3_ n4_ n5_ n6_ n7_;clear hb hbox hg;have hnb13:=NB171_0.out;have hnc13:=NB0_171.out;obtain ⟨hcz14_0,hcz14_1,hcz14_2,hcz14_3,hcz14_4,hfz14_0,hfz14_1,hfz14_2,hfz14_3,hfz14_4⟩:=bx5_ BK171)|((with_reducible refine gate_callee (f:=68) rfl ?_);refine goesL_ (some 9) rfl rfl Try.func68 Q2 rfl #[.pointer (some ⟨g,0,none⟩),.int .i64 5] rfl Q50 ?_;(with_reducible refine (spec_l6Rd_pick.calls k g s0_0 t170 5 t172 t173 w0 _ ?side1 ?side2 A4.out).mono ?_);(case side1=>exact Q85);(case side2=>exact Q94);rintro e w15 ⟨rfl,hi,hb,hk⟩;refine ⟨_,rfl,?_⟩;have n0_:=Aside0.mk (KeepBut.blk hk (g':=gb171) (o:=.cells #[.int .i64 t165,.int .i64 t166,.int .i64 t167,.int .i64 t168,.int .i64 t169] 38 (0,0)) Q103 NB171_0.out Q0);have n1_:=Aside0.mk (KeepBut.trans Q81 hk (.inl rfl));have n2_:=Aside0.mk (hb);have n3_:=Aside0.mk (hi);clear BK171;clear HK;clear HB;clear HI0;have BK171:=n0_;have HK:=n1_;have HB:=n2_;have HI0:=n3_;clear n0_ n1_ n2_ n3_;(try clear hb);(try clear hb2);(try clear hk);(try clear hi))|((with_reducible refine gate_dst (N:=14) rfl ?_);refine Kd.R_lit (Kd.int .i64) _ 3 ?hg (N:=14) ?hd (xs:=([(-1),4] : List Int)) (inner:=[.int .i64 (-1),.int .i64 4]) (ok:=fun _=>True) (okp:=fun _=>True) ?hr ?hp (fun _ hk=>hk) trivial (Below.refl _ _) (Nat.le_refl _) Q0 ?_;(case hd=>rfl);(case hg=>rfl);(case hr=>first|(go_simp;done)|(go_simp;rfl));(case hp=>exact (Reps.one (show Kd.M (Kd.int .i64) _ _ _ (-1) [.int .i64 (-1)] from rfl) (Reps.one (show Kd.M (Kd.int .i64) _ _ _ 4 [.int .i64 4] from rfl) (Reps.none _ _))));intro v175 w16 ho17 hb hg_ hnew_;clear hg_ hnew_;(first|rw [← Ny174.out] at ho17|(simp only [Int.reduceToNat] at ho17;rw [← Ny174.out] at ho17));have n0_:=Aside0.mk (Kd.R_lower ho17 (keep_size (w:=w) (g:=g) (row:=none) Q81));have n1_:=Aside0.mk (IsS87.below Q85 hb);have n2_:=Aside0.mk (blk_below (g:=gb171) (o:=.cells #[.int .i64 t165,.int .i64 t166,.int .i64 t167,.int .i64 t168,.int .i64 t169] 38 (0,0)) Q32 hb);have n3_:=Aside0.mk (KeepBut.trans Q81 (KeepBut.of_below hb g none) (.inl rfl));have n4_:=Aside0.mk (below_step Q94 hb);clear HI0;clear BK171;clear HK;clear HB;have HO176:=n0_;have HI0:=n1_;have BK171:=n2_;have HK:=n3_;have HB:=n4_;clear n0_ n1_ n2_ n3_ n4_;clear hb ho17)|((with_reducible refine gate_callee (f:=68) rfl ?_);refine goesL_ (some 16) rfl rfl Try.func68 Q2 rfl #[.pointer (some ⟨g,0,none⟩),.int .i64 2] rfl Q50 ?_;(with_reducible refine (spec_l6Rd_pick.calls k g s0_0 t173 2 t177 tp w0 _ ?side1 ?side2 A6.out).mono ?_);(case side1=>exact Q85);(case side2=>exact Q94);rintro e w18 ⟨rfl,hi,hb,hk⟩;refine ⟨_,rfl,?_⟩;have n0_:=Aside0.mk (KeepBut.blk hk (g':=gb171) (o:=.cells #[.int .i64 t165,.int .i64 t166,.int .i64 t167,.int .i64 t168,.int .i64 t169] 38 (0,0)) Q32 NB171_0.out Q0);have n1_:=Aside0.mk (Kd.R_mono (Kd.R_keep (IsS87.apart (show IsS87 w0 _ g s0_0 t173 from by repeat (first|(with_reducible first|exact HI0.out|apply IsS87.alloc|apply IsS87.drewN|apply IsS87.drew|apply IsS87.set_1|refine IsS87.far ?_ NB0_171.out _)|exact HI0.out)) (by (with_reducible repeat (first|apply Kd.R_alloc|apply Kd.R_drewN|apply Kd.R_drew));exact HO176.out) Q1) hk (fun _ h=>h.2)) (fun _ h=>h.1));have n2_:=Aside0.mk (KeepBut.trans Q81 hk (.inl rfl));have n3_:=Aside0.mk (hb);have n4_:=Aside0.mk (hi);clear BK171;clear HO176;clear HK;clear HB;clear HI0;have BK171:=n0_;have HO176:=n1_;have HK:=n2_;have HB:=n3_;have HI0:=n4_;clear n0_ n1_ n2_ n3_ n4_;(try clear hb);(try clear hb2);(try clear hk);(try clear hi);obtain ⟨Ao19,co19,eo19⟩:=Kd.R_slice HO176.out;subst eo19;have p179 : 0 ≤ (t177 : Int):=of_decide_eq_true Q8;have q179 : t177 < (y174.length : Int):=of_decide_eq_true Q8;obtain ⟨ad179,e179,hx179_0⟩:=Kd.at_int (Kd.R_reads' HO176.out).2.2 t177 p179 q179;cases e179;replace p179:=eq_true p179;replace q179:=eq_true q179;obtain ⟨hcz20_0,hcz20_1,hcz20_2,hcz20_3,hcz20_4,hfz20_0,hfz20_1,hfz20_2,hfz20_3,hfz20_4⟩:=bx5_ BK171))
  have n0_ : Aside0 (Kd.R (Kd.int .i64) 3 (w18.setCell ⟨gb171,0,none⟩ (.int .i64 (rd y174 t177))) w.heap.size (fun _=>True) (.slice (some ad179) y174.length co19) y174):=⟨by (with_reducible repeat (first|apply Kd.R_alloc|apply Kd.R_drewN|apply Kd.R_drew));exact Kd.R_mono (Kd.R_far (p:=⟨gb171,0,none⟩) (Kd.R_types HO176.out BK171.out Q1) (fun _ hk=>hk.2) (.int .i64 (rd y174 t177))) (fun _ hk=>trivial)⟩
  have n1_ : Aside0 ((w18.setCell ⟨gb171,0,none⟩ (.int .i64 (rd y174 t177))).heap[gb171]? = some (.cells #[.int .i64 (rd y174 t177),.int .i64 t166,.int .i64 t167,.int .i64 t168,.int .i64 t169] 38 (0,0))):=⟨by (with_reducible repeat (first|refine blk_drewN ?_ _|refine blk_drew ?_|refine blk_alloc ?_ _));refine blk_put (cs:=#[.int .i64 t165,.int .i64 t166,.int .i64 t167,.int .i64 t168,.int .i64 t169]) ?_ 0 _ rfl;(with_reducible repeat (first|refine blk_drewN ?_ _|refine blk_drew ?_|refine blk_alloc ?_ _));exact BK171.out⟩
  have n2_ : Aside0 (IsS87 w0 (w18.setCell ⟨gb171,0,none⟩ (.int .i64 (rd y174 t177))) g s0_0 tp):=⟨Q85⟩
  have n3_ : Aside0 (KeepBut w (w18.setCell ⟨gb171,0,none⟩ (.int .i64 (rd y174 t177))) g none):=⟨Q81⟩
  have n4_ : Aside0 (Below w0.heap.size w0 (w18.setCell ⟨gb171,0,none⟩ (.int .i64 (rd y174 t177)))):=⟨Q94⟩
  (try clear HO176)
  (try clear BK171)
  (try clear HI0)
  (try clear HK)
  (try clear HB)
  generalize (w18.setCell ⟨gb171,0,none⟩ (.int .i64 (rd y174 t177))) = wT at n0_ n1_ n2_ n3_ n4_ ⊢
  have HO176:=n0_
  have BK171:=n1_
  have HI0:=n2_
  have HK:=n3_
  have HB:=n4_
  clear n0_ n1_ n2_ n3_ n4_
  clear HO176
  obtain ⟨e0,e1,e2,e3,e4,hE,BKE⟩ : ∃ e0 e1 e2 e3 e4 : Int,(⟨e0,e1,⟨e2,e3⟩,e4⟩ : S38) = ⟨(rd y174 t177),t166,⟨t167,t168⟩,t169⟩ ∧ Aside0 (wT.heap[gb171]? = some (.cells #[.int .i64 e0,.int .i64 e1,.int .i64 e2,.int .i64 e3,.int .i64 e4] 38 (0,0))):=⟨_,_,_,_,_,rfl,BK171⟩
  clear BK171;have BK171:=BKE;clear BKE
  have Ny_:=Aside0.mk (Nyc.out.trans (congrArg (fun z : S38=>[z]) hE.symm));clear Nyc;have Nyc:=Ny_;clear Ny_ hE
 case' neg =>
  rw [if_neg c5] at H
  have c5b0 : (t172 == 0) = false:=beq_eq_false_iff_ne.mpr c5
  have c5b1 : (t172 != 0) = true:=bne_iff_ne.mpr c5
  by_cases c31 : t172 = 1
  case' pos =>
   rw [if_pos c31] at H
   have c31b0 : (t172 == 1) = true:=beq_iff_eq.mpr c31
   have c31b1 : (t172 != 1) = false:=bne_eq_false_iff_eq.mpr c31
   clear c31
   obtain ⟨y192,hy_⟩ : ∃ y_ : List Int,y_ = (([(-1),100] : List Int)):=⟨_,rfl⟩
   replace H : ((spec_l6Rd_pick.f k s0_0 t173 2).bind fun bt195=>(if 0 ≤ bt195.1 then (if bt195.1 < (y192.length : Int) then ((some (([] : List (S38)) : List (S38))).bind fun ya=>(if ya.length + l1.length < 3518437208883 then ((some (ya ++ l1 : List (S38))).bind fun yb=>((some (([(⟨t165,rd y192 bt195.1,(⟨t167,t168⟩ : S36),t169⟩ : S38)] : List (S38)) : List (S38))).bind fun yc=>(if yb.length + yc.length < 3518437208883 then (some ((yb ++ yc),bt195.2)) else (none)))) else (none))) else (none)) else (none))) = some (r1,r2):=Q98
   have Ny192:=Aside0.mk hy_
   clear hy_
   replace H:=Option.bind_eq_some_iff.mp H
   obtain ⟨⟨t195,tp⟩,A320,H⟩:=H
   replace H : (if 0 ≤ t195 then (if t195 < (y192.length : Int) then ((some (([] : List (S38)) : List (S38))).bind fun ya=>(if ya.length + l1.length < 3518437208883 then ((some (ya ++ l1 : List (S38))).bind fun yb=>((some (([(⟨t165,rd y192 t195,(⟨t167,t168⟩ : S36),t169⟩ : S38)] : List (S38)) : List (S38))).bind fun yc=>(if yb.length + yc.length < 3518437208883 then (some ((yb ++ yc),tp)) else (none)))) else (none))) else (none)) else (none)) = some (r1,r2):=H
   have A32:=Aside0.mk A320
   clear A320
   have c33 : 0 ≤ t195:=Classical.byContradiction fun hn_=>by rw [if_neg hn_] at H;exact absurd H Q0
   rw [if_pos c33] at H
   have c33b0 : decide (0 ≤ t195) = true:=decide_eq_true c33
   clear c33
   have c34 : t195 < (y192.length : Int):=Classical.byContradiction fun hn_=>by rw [if_neg hn_] at H;exact absurd H Q0
   rw [if_pos c34] at H
   have c34b0 : decide (t195 < (y192.length : Int)) = true:=decide_eq_true c34
   clear c34
   obtain ⟨ya,hya⟩ : ∃ y_ : List (S38),y_ = (([] : List (S38))):=⟨_,rfl⟩
   replace H : (if ya.length + l1.length < 3518437208883 then ((some (ya ++ l1 : List (S38))).bind fun yb=>((some (([(⟨t165,rd y192 t195,(⟨t167,t168⟩ : S36),t169⟩ : S38)] : List (S38)) : List (S38))).bind fun yc=>(if yb.length + yc.length < 3518437208883 then (some ((yb ++ yc),tp)) else (none)))) else (none)) = some (r1,r2):=Q99
   have Nya:=Aside0.mk hya
   clear hya
   have c35 : ya.length + l1.length < 3518437208883:=Classical.byContradiction fun hn_=>by rw [if_neg hn_] at H;exact absurd H Q0
   rw [if_pos c35] at H
   have LMca:=Aside0.mk c35
   clear c35
   obtain ⟨yb,hyb⟩ : ∃ y_ : List (S38),y_ = (ya ++ l1):=⟨_,rfl⟩
   replace H : ((some (([(⟨t165,rd y192 t195,(⟨t167,t168⟩ : S36),t169⟩ : S38)] : List (S38)) : List (S38))).bind fun yc=>(if yb.length + yc.length < 3518437208883 then (some ((yb ++ yc),tp)) else (none))) = some (r1,r2):=Q100
   have Nyb:=Aside0.mk hyb
   clear hyb
   obtain ⟨yc,hyc⟩ : ∃ y_ : List (S38),y_ = (([(⟨t165,rd y192 t195,(⟨t167,t168⟩ : S36),t169⟩ : S38)] : List (S38))):=⟨_,rfl⟩
   replace H : (if yb.length + yc.length < 3518437208883 then (some ((yb ++ yc),tp)) else (none)) = some (r1,r2):=Q101
   have Nyc:=Aside0.mk hyc
   clear hyc
   have c36 : yb.length + yc.length < 3518437208883:=Classical.byContradiction fun hn_=>by rw [if_neg hn_] at H;exact absurd H Q0
   rw [if_pos c36] at H
   have LMcb:=Aside0.mk c36
   clear c36
   obtain ⟨yd,hyd⟩ : ∃ y_ : List (S38),y_ = (yb ++ yc):=⟨_,rfl⟩
   replace H : (some (yd,tp)) = some (r1,r2):=Q102
   have Nyd:=Aside0.mk hyd
   clear hyd
   simp only [Option.some.injEq,Prod.mk.injEq] at H
   obtain ⟨rfl,rfl⟩:=H
   go_enter Try.func81,Try.ntmps81
   try go_wp2_with (first|((with_reducible refine gate_callee (f:=70) rfl ?_);refine goesL_ (some 7) rfl rfl Try.func70 Q2 rfl #[.pointer (some ⟨g,0,none⟩)] rfl Q50 ?_;(with_reducible refine (spec_l71Row.calls k g s0_0 s0_1 t165 t166 t167 t168 t169 t170 w0 _ ?side1 ?side2 A3.out).mono ?_);(case side1=>exact Q54);(case side2=>exact Q72);rintro e w37 ⟨rfl,hi,hb,hk⟩;refine ⟨_,rfl,?_⟩;have n0_:=Aside0.mk (KeepBut.trans Q53 hk (.inl rfl));have n1_:=Aside0.mk (hb);have n2_:=Aside0.mk (hi);clear HK;clear HB;clear HI0;have HK:=n0_;have HB:=n1_;have HI0:=n2_;clear n0_ n1_ n2_;(try clear hb);(try clear hb2);(try clear hk);(try clear hi))|((with_reducible refine gate_dst (N:=5) rfl ?_);refine box_event ?hg (N:=5) ?hd (cs:=#[.int .i64 0,.int .i64 0,.int .i64 0,.int .i64 0,.int .i64 0]) (t:=38) ?hr ?_;(case hd=>rfl);(case hg=>rfl);(case hr=>first|(go_simp;done)|(go_simp;rfl));intro gb171 hg w38 hbox hb;have n0_:=Aside0.mk (IsS87.below Q54 hb);have n1_:=Aside0.mk (KeepBut.trans Q53 (KeepBut.of_below hb g none) (.inl rfl));have n2_:=Aside0.mk (below_step Q72 hb);have n3_:=Aside0.mk (hbox);have n4_:=Aside0.mk ((Q107 : w.heap.size ≤ gb171));have n5_:=Aside0.mk ((Nat.le_trans HW0.out (Q107 : w.heap.size ≤ gb171) : w0.heap.size ≤ gb171));have n6_:=Aside0.mk ((by rw [hg];exact Nat.ne_of_lt (IsS87.lt (show IsS87 w0 _ g s0_0 t170 from by repeat (first|(with_reducible first|exact HI0.out|apply IsS87.alloc|apply IsS87.drewN|apply IsS87.drew|apply IsS87.set_1)|exact HI0.out))) : g ≠ gb171));have n7_:=Aside0.mk ((by rw [hg];exact Nat.ne_of_gt (IsS87.lt (show IsS87 w0 _ g s0_0 t170 from by repeat (first|(with_reducible first|exact HI0.out|apply IsS87.alloc|apply IsS87.drewN|apply IsS87.drew|apply IsS87.set_1)|exact HI0.out))) : gb171 ≠ g));clear HI0;clear HK;clear HB;have HI0:=n0_;have HK:=n1_;have HB:=n2_;have BK171:=n3_;have GW171:=n4_;have GE171:=n5_;have NB0_171:=n6_;have NB171_0:=n7_;clear n0_ n1_ n2_ n3_ n4_ n5_ n6_ n7_;clear hb hbox hg;have hnb39:=NB171_0.out;have hnc39:=NB0_171.out;obtain ⟨hcz40_0,hcz40_1,hcz40_2,hcz40_3,hcz40_4,hfz40_0,hfz40_1,hfz40_2,hfz40_3,hfz40_4⟩:=bx5_ BK171)|((with_reducible refine gate_callee (f:=68) rfl ?_);refine goesL_ (some 9) rfl rfl Try.func68 Q2 rfl #[.pointer (some ⟨g,0,none⟩),.int .i64 5] rfl Q50 ?_;(with_reducible refine (spec_l6Rd_pick.calls k g s0_0 t170 5 t172 t173 w0 _ ?side1 ?side2 A4.out).mono ?_);(case side1=>exact Q85);(case side2=>exact Q94);rintro e w41 ⟨rfl,hi,hb,hk⟩;refine ⟨_,rfl,?_⟩;have n0_:=Aside0.mk (KeepBut.blk hk (g':=gb171) (o:=.cells #[.int .i64 t165,.int .i64 t166,.int .i64 t167,.int .i64 t168,.int .i64 t169] 38 (0,0)) Q103 NB171_0.out Q0);have n1_:=Aside0.mk (KeepBut.trans Q81 hk (.inl rfl));have n2_:=Aside0.mk (hb);have n3_:=Aside0.mk (hi);clear BK171;clear HK;clear HB;clear HI0;have BK171:=n0_;have HK:=n1_;have HB:=n2_;have HI0:=n3_;clear n0_ n1_ n2_ n3_;(try clear hb);(try clear hb2);(try clear hk);(try clear hi))|((with_reducible refine gate_dst (N:=22) rfl ?_);refine Kd.R_lit (Kd.int .i64) _ 3 ?hg (N:=22) ?hd (xs:=([(-1),100] : List Int)) (inner:=[.int .i64 (-1),.int .i64 100]) (ok:=fun _=>True) (okp:=fun _=>True) ?hr ?hp (fun _ hk=>hk) trivial (Below.refl _ _) (Nat.le_refl _) Q0 ?_;(case hd=>rfl);(case hg=>rfl);(case hr=>first|(go_simp;done)|(go_simp;rfl));(case hp=>exact (Reps.one (show Kd.M (Kd.int .i64) _ _ _ (-1) [.int .i64 (-1)] from rfl) (Reps.one (show Kd.M (Kd.int .i64) _ _ _ 100 [.int .i64 100] from rfl) (Reps.none _ _))));intro v193 w42 ho43 hb hg_ hnew_;clear hg_ hnew_;(first|rw [← Ny192.out] at ho43|(simp only [Int.reduceToNat] at ho43;rw [← Ny192.out] at ho43));have n0_:=Aside0.mk (Kd.R_lower ho43 (keep_size (w:=w) (g:=g) (row:=none) Q81));have n1_:=Aside0.mk (IsS87.below Q85 hb);have n2_:=Aside0.mk (blk_below (g:=gb171) (o:=.cells #[.int .i64 t165,.int .i64 t166,.int .i64 t167,.int .i64 t168,.int .i64 t169] 38 (0,0)) Q32 hb);have n3_:=Aside0.mk (KeepBut.trans Q81 (KeepBut.of_below hb g none) (.inl rfl));have n4_:=Aside0.mk (below_step Q94 hb);clear HI0;clear BK171;clear HK;clear HB;have HO194:=n0_;have HI0:=n1_;have BK171:=n2_;have HK:=n3_;have HB:=n4_;clear n0_ n1_ n2_ n3_ n4_;clear hb ho43)|((with_reducible refine gate_callee (f:=68) rfl ?_);refine goesL_ (some 24) rfl rfl Try.func68 Q2 rfl #[.pointer (some ⟨g,0,none⟩),.int .i64 2] rfl Q50 ?_;(with_reducible refine (spec_l6Rd_pick.calls k g s0_0 t173 2 t195 tp w0 _ ?side1 ?side2 A32.out).mono ?_);(case side1=>exact Q85);(case side2=>exact Q94);rintro e w44 ⟨rfl,hi,hb,hk⟩;refine ⟨_,rfl,?_⟩;have n0_:=Aside0.mk (KeepBut.blk hk (g':=gb171) (o:=.cells #[.int .i64 t165,.int .i64 t166,.int .i64 t167,.int .i64 t168,.int .i64 t169] 38 (0,0)) Q32 NB171_0.out Q0);have n1_:=Aside0.mk (Kd.R_mono (Kd.R_keep (IsS87.apart (show IsS87 w0 _ g s0_0 t173 from by repeat (first|(with_reducible first|exact HI0.out|apply IsS87.alloc|apply IsS87.drewN|apply IsS87.drew|apply IsS87.set_1|refine IsS87.far ?_ NB0_171.out _)|exact HI0.out)) (by (with_reducible repeat (first|apply Kd.R_alloc|apply Kd.R_drewN|apply Kd.R_drew));exact HO194.out) Q1) hk (fun _ h=>h.2)) (fun _ h=>h.1));have n2_:=Aside0.mk (KeepBut.trans Q81 hk (.inl rfl));have n3_:=Aside0.mk (hb);have n4_:=Aside0.mk (hi);clear BK171;clear HO194;clear HK;clear HB;clear HI0;have BK171:=n0_;have HO194:=n1_;have HK:=n2_;have HB:=n3_;have HI0:=n4_;clear n0_ n1_ n2_ n3_ n4_;(try clear hb);(try clear hb2);(try clear hk);(try clear hi);obtain ⟨Ao45,co45,eo45⟩:=Kd.R_slice HO194.out;subst eo45;have p197 : 0 ≤ (t195 : Int):=of_decide_eq_true Q8;have q197 : t195 < (y192.length : Int):=of_decide_eq_true Q8;obtain ⟨ad197,e197,hx197_0⟩:=Kd.at_int (Kd.R_reads' HO194.out).2.2 t195 p197 q197;cases e197;replace p197:=eq_true p197;replace q197:=eq_true q197;obtain ⟨hcz46_0,hcz46_1,hcz46_2,hcz46_3,hcz46_4,hfz46_0,hfz46_1,hfz46_2,hfz46_3,hfz46_4⟩:=bx5_ BK171))
   have n0_ : Aside0 (Kd.R (Kd.int .i64) 3 (w44.setCell ⟨gb171,1,none⟩ (.int .i64 (rd y192 t195))) w.heap.size (fun _=>True) (.slice (some ad197) y192.length co45) y192):=⟨by (with_reducible repeat (first|apply Kd.R_alloc|apply Kd.R_drewN|apply Kd.R_drew));exact Kd.R_mono (Kd.R_far (p:=⟨gb171,1,none⟩) (Kd.R_types HO194.out BK171.out Q1) (fun _ hk=>hk.2) (.int .i64 (rd y192 t195))) (fun _ hk=>trivial)⟩
   have n1_ : Aside0 ((w44.setCell ⟨gb171,1,none⟩ (.int .i64 (rd y192 t195))).heap[gb171]? = some (.cells #[.int .i64 t165,.int .i64 (rd y192 t195),.int .i64 t167,.int .i64 t168,.int .i64 t169] 38 (0,0))):=⟨by (with_reducible repeat (first|refine blk_drewN ?_ _|refine blk_drew ?_|refine blk_alloc ?_ _));refine blk_put (cs:=#[.int .i64 t165,.int .i64 t166,.int .i64 t167,.int .i64 t168,.int .i64 t169]) ?_ 1 _ rfl;(with_reducible repeat (first|refine blk_drewN ?_ _|refine blk_drew ?_|refine blk_alloc ?_ _));exact BK171.out⟩
   have n2_ : Aside0 (IsS87 w0 (w44.setCell ⟨gb171,1,none⟩ (.int .i64 (rd y192 t195))) g s0_0 tp):=⟨Q85⟩
   have n3_ : Aside0 (KeepBut w (w44.setCell ⟨gb171,1,none⟩ (.int .i64 (rd y192 t195))) g none):=⟨Q81⟩
   have n4_ : Aside0 (Below w0.heap.size w0 (w44.setCell ⟨gb171,1,none⟩ (.int .i64 (rd y192 t195)))):=⟨Q94⟩
   (try clear HO194)
   (try clear BK171)
   (try clear HI0)
   (try clear HK)
   (try clear HB)
   generalize (w44.setCell ⟨gb171,1,none⟩ (.int .i64 (rd y192 t195))) = wT at n0_ n1_ n2_ n3_ n4_ ⊢
   have HO194:=n0_
   have BK171:=n1_
   have HI0:=n2_
   have HK:=n3_
   have HB:=n4_
   clear n0_ n1_ n2_ n3_ n4_
   clear HO194
   obtain ⟨e0,e1,e2,e3,e4,hE,BKE⟩ : ∃ e0 e1 e2 e3 e4 : Int,(⟨e0,e1,⟨e2,e3⟩,e4⟩ : S38) = ⟨t165,(rd y192 t195),⟨t167,t168⟩,t169⟩ ∧ Aside0 (wT.heap[gb171]? = some (.cells #[.int .i64 e0,.int .i64 e1,.int .i64 e2,.int .i64 e3,.int .i64 e4] 38 (0,0))):=⟨_,_,_,_,_,rfl,BK171⟩
   clear BK171;have BK171:=BKE;clear BKE
   have Ny_:=Aside0.mk (Nyc.out.trans (congrArg (fun z : S38=>[z]) hE.symm));clear Nyc;have Nyc:=Ny_;clear Ny_ hE
  case' neg =>
   rw [if_neg c31] at H
   have c31b0 : (t172 == 1) = false:=beq_eq_false_iff_ne.mpr c31
   have c31b1 : (t172 != 1) = true:=bne_iff_ne.mpr c31
   by_cases c57 : t172 = 2
   case' pos =>
    rw [if_pos c57] at H
    have c57b0 : (t172 == 2) = true:=beq_iff_eq.mpr c57
    have c57b1 : (t172 != 2) = false:=bne_eq_false_iff_eq.mpr c57
    clear c57
    obtain ⟨ya,hya⟩ : ∃ y_ : List (S38),y_ = (([] : List (S38))):=⟨_,rfl⟩
    replace H : (if ya.length + l1.length < 3518437208883 then ((some (ya ++ l1 : List (S38))).bind fun yb=>((some (([(⟨t165,t166,(⟨(-1),0⟩ : S36),t169⟩ : S38)] : List (S38)) : List (S38))).bind fun yc=>(if yb.length + yc.length < 3518437208883 then (some ((yb ++ yc),t173)) else (none)))) else (none)) = some (r1,r2):=Q99
    have Nya:=Aside0.mk hya
    clear hya
    have c58 : ya.length + l1.length < 3518437208883:=Classical.byContradiction fun hn_=>by rw [if_neg hn_] at H;exact absurd H Q0
    rw [if_pos c58] at H
    have LMca:=Aside0.mk c58
    clear c58
    obtain ⟨yb,hyb⟩ : ∃ y_ : List (S38),y_ = (ya ++ l1):=⟨_,rfl⟩
    replace H : ((some (([(⟨t165,t166,(⟨(-1),0⟩ : S36),t169⟩ : S38)] : List (S38)) : List (S38))).bind fun yc=>(if yb.length + yc.length < 3518437208883 then (some ((yb ++ yc),t173)) else (none))) = some (r1,r2):=Q100
    have Nyb:=Aside0.mk hyb
    clear hyb
    obtain ⟨yc,hyc⟩ : ∃ y_ : List (S38),y_ = (([(⟨t165,t166,(⟨(-1),0⟩ : S36),t169⟩ : S38)] : List (S38))):=⟨_,rfl⟩
    replace H : (if yb.length + yc.length < 3518437208883 then (some ((yb ++ yc),t173)) else (none)) = some (r1,r2):=Q101
    have Nyc:=Aside0.mk hyc
    clear hyc
    have c59 : yb.length + yc.length < 3518437208883:=Classical.byContradiction fun hn_=>by rw [if_neg hn_] at H;exact absurd H Q0
    rw [if_pos c59] at H
    have LMcb:=Aside0.mk c59
    clear c59
    obtain ⟨yd,hyd⟩ : ∃ y_ : List (S38),y_ = (yb ++ yc):=⟨_,rfl⟩
    replace H : (some (yd,t173)) = some (r1,r2):=Q102
    have Nyd:=Aside0.mk hyd
    clear hyd
    simp only [Option.some.injEq,Prod.mk.injEq] at H
    obtain ⟨rfl,rfl⟩:=H
    go_enter Try.func81,Try.ntmps81
    try go_wp2_with (first|((with_reducible refine gate_callee (f:=70) rfl ?_);refine goesL_ (some 7) rfl rfl Try.func70 Q2 rfl #[.pointer (some ⟨g,0,none⟩)] rfl Q50 ?_;(with_reducible refine (spec_l71Row.calls k g s0_0 s0_1 t165 t166 t167 t168 t169 t170 w0 _ ?side1 ?side2 A3.out).mono ?_);(case side1=>exact Q54);(case side2=>exact Q72);rintro e w60 ⟨rfl,hi,hb,hk⟩;refine ⟨_,rfl,?_⟩;have n0_:=Aside0.mk (KeepBut.trans Q53 hk (.inl rfl));have n1_:=Aside0.mk (hb);have n2_:=Aside0.mk (hi);clear HK;clear HB;clear HI0;have HK:=n0_;have HB:=n1_;have HI0:=n2_;clear n0_ n1_ n2_;(try clear hb);(try clear hb2);(try clear hk);(try clear hi))|((with_reducible refine gate_dst (N:=5) rfl ?_);refine box_event ?hg (N:=5) ?hd (cs:=#[.int .i64 0,.int .i64 0,.int .i64 0,.int .i64 0,.int .i64 0]) (t:=38) ?hr ?_;(case hd=>rfl);(case hg=>rfl);(case hr=>first|(go_simp;done)|(go_simp;rfl));intro gb171 hg w61 hbox hb;have n0_:=Aside0.mk (IsS87.below Q54 hb);have n1_:=Aside0.mk (KeepBut.trans Q53 (KeepBut.of_below hb g none) (.inl rfl));have n2_:=Aside0.mk (below_step Q72 hb);have n3_:=Aside0.mk (hbox);have n4_:=Aside0.mk ((Q107 : w.heap.size ≤ gb171));have n5_:=Aside0.mk ((Nat.le_trans HW0.out (Q107 : w.heap.size ≤ gb171) : w0.heap.size ≤ gb171));have n6_:=Aside0.mk ((by rw [hg];exact Nat.ne_of_lt (IsS87.lt (show IsS87 w0 _ g s0_0 t170 from by repeat (first|(with_reducible first|exact HI0.out|apply IsS87.alloc|apply IsS87.drewN|apply IsS87.drew|apply IsS87.set_1)|exact HI0.out))) : g ≠ gb171));have n7_:=Aside0.mk ((by rw [hg];exact Nat.ne_of_gt (IsS87.lt (show IsS87 w0 _ g s0_0 t170 from by repeat (first|(with_reducible first|exact HI0.out|apply IsS87.alloc|apply IsS87.drewN|apply IsS87.drew|apply IsS87.set_1)|exact HI0.out))) : gb171 ≠ g));clear HI0;clear HK;clear HB;have HI0:=n0_;have HK:=n1_;have HB:=n2_;have BK171:=n3_;have GW171:=n4_;have GE171:=n5_;have NB0_171:=n6_;have NB171_0:=n7_;clear n0_ n1_ n2_ n3_ n4_ n5_ n6_ n7_;clear hb hbox hg;have hnb62:=NB171_0.out;have hnc62:=NB0_171.out;obtain ⟨hcz63_0,hcz63_1,hcz63_2,hcz63_3,hcz63_4,hfz63_0,hfz63_1,hfz63_2,hfz63_3,hfz63_4⟩:=bx5_ BK171)|((with_reducible refine gate_callee (f:=68) rfl ?_);refine goesL_ (some 9) rfl rfl Try.func68 Q2 rfl #[.pointer (some ⟨g,0,none⟩),.int .i64 5] rfl Q50 ?_;(with_reducible refine (spec_l6Rd_pick.calls k g s0_0 t170 5 t172 t173 w0 _ ?side1 ?side2 A4.out).mono ?_);(case side1=>exact Q85);(case side2=>exact Q94);rintro e w64 ⟨rfl,hi,hb,hk⟩;refine ⟨_,rfl,?_⟩;have n0_:=Aside0.mk (KeepBut.blk hk (g':=gb171) (o:=.cells #[.int .i64 t165,.int .i64 t166,.int .i64 t167,.int .i64 t168,.int .i64 t169] 38 (0,0)) Q103 NB171_0.out Q0);have n1_:=Aside0.mk (KeepBut.trans Q81 hk (.inl rfl));have n2_:=Aside0.mk (hb);have n3_:=Aside0.mk (hi);clear BK171;clear HK;clear HB;clear HI0;have BK171:=n0_;have HK:=n1_;have HB:=n2_;have HI0:=n3_;clear n0_ n1_ n2_ n3_;(try clear hb);(try clear hb2);(try clear hk);(try clear hi);obtain ⟨hcz65_0,hcz65_1,hcz65_2,hcz65_3,hcz65_4,hfz65_0,hfz65_1,hfz65_2,hfz65_3,hfz65_4⟩:=bx5_ BK171))
    have n0_ : Aside0 (((w64.setCell ⟨gb171,2,none⟩ (.int .i64 (-1))).setCell ⟨gb171,3,none⟩ (.int .i64 0)).heap[gb171]? = some (.cells #[.int .i64 t165,.int .i64 t166,.int .i64 (-1),.int .i64 0,.int .i64 t169] 38 (0,0))):=⟨by (with_reducible repeat (first|refine blk_drewN ?_ _|refine blk_drew ?_|refine blk_alloc ?_ _));refine blk_put (cs:=#[.int .i64 t165,.int .i64 t166,.int .i64 (-1),.int .i64 t168,.int .i64 t169]) ?_ 3 _ rfl;(with_reducible repeat (first|refine blk_drewN ?_ _|refine blk_drew ?_|refine blk_alloc ?_ _));refine blk_put (cs:=#[.int .i64 t165,.int .i64 t166,.int .i64 t167,.int .i64 t168,.int .i64 t169]) ?_ 2 _ rfl;(with_reducible repeat (first|refine blk_drewN ?_ _|refine blk_drew ?_|refine blk_alloc ?_ _));exact BK171.out⟩
    have n1_ : Aside0 (IsS87 w0 ((w64.setCell ⟨gb171,2,none⟩ (.int .i64 (-1))).setCell ⟨gb171,3,none⟩ (.int .i64 0)) g s0_0 t173):=⟨Q85⟩
    have n2_ : Aside0 (KeepBut w ((w64.setCell ⟨gb171,2,none⟩ (.int .i64 (-1))).setCell ⟨gb171,3,none⟩ (.int .i64 0)) g none):=⟨Q81⟩
    have n3_ : Aside0 (Below w0.heap.size w0 ((w64.setCell ⟨gb171,2,none⟩ (.int .i64 (-1))).setCell ⟨gb171,3,none⟩ (.int .i64 0))):=⟨Q94⟩
    (try clear BK171)
    (try clear HI0)
    (try clear HK)
    (try clear HB)
    generalize ((w64.setCell ⟨gb171,2,none⟩ (.int .i64 (-1))).setCell ⟨gb171,3,none⟩ (.int .i64 0)) = wT at n0_ n1_ n2_ n3_ ⊢
    have BK171:=n0_
    have HI0:=n1_
    have HK:=n2_
    have HB:=n3_
    clear n0_ n1_ n2_ n3_
    obtain ⟨tp,hT_⟩ : ∃ tp,tp = t173:=⟨_,rfl⟩;subst hT_
    obtain ⟨e0,e1,e2,e3,e4,hE,BKE⟩ : ∃ e0 e1 e2 e3 e4 : Int,(⟨e0,e1,⟨e2,e3⟩,e4⟩ : S38) = ⟨t165,t166,⟨(-1),0⟩,t169⟩ ∧ Aside0 (wT.heap[gb171]? = some (.cells #[.int .i64 e0,.int .i64 e1,.int .i64 e2,.int .i64 e3,.int .i64 e4] 38 (0,0))):=⟨_,_,_,_,_,rfl,BK171⟩
    clear BK171;have BK171:=BKE;clear BKE
    have Ny_:=Aside0.mk (Nyc.out.trans (congrArg (fun z : S38=>[z]) hE.symm));clear Nyc;have Nyc:=Ny_;clear Ny_ hE
   case' neg =>
    rw [if_neg c57] at H
    have c57b0 : (t172 == 2) = false:=beq_eq_false_iff_ne.mpr c57
    have c57b1 : (t172 != 2) = true:=bne_iff_ne.mpr c57
    by_cases c76 : t172 = 3
    case' pos =>
     rw [if_pos c76] at H
     have c76b0 : (t172 == 3) = true:=beq_iff_eq.mpr c76
     have c76b1 : (t172 != 3) = false:=bne_eq_false_iff_eq.mpr c76
     clear c76
     obtain ⟨y222,hy_⟩ : ∃ y_ : List Int,y_ = (([(-100000),100000] : List Int)):=⟨_,rfl⟩
     replace H : ((spec_l6Rd_pick.f k s0_0 t173 2).bind fun bt225=>(if 0 ≤ bt225.1 then (if bt225.1 < (y222.length : Int) then ((some (([] : List (S38)) : List (S38))).bind fun ya=>(if ya.length + l1.length < 3518437208883 then ((some (ya ++ l1 : List (S38))).bind fun yb=>((some (([(⟨t165,t166,(⟨t167,t168⟩ : S36),rd y222 bt225.1⟩ : S38)] : List (S38)) : List (S38))).bind fun yc=>(if yb.length + yc.length < 3518437208883 then (some ((yb ++ yc),bt225.2)) else (none)))) else (none))) else (none)) else (none))) = some (r1,r2):=Q98
     have Ny222:=Aside0.mk hy_
     clear hy_
     replace H:=Option.bind_eq_some_iff.mp H
     obtain ⟨⟨t225,tp⟩,A770,H⟩:=H
     replace H : (if 0 ≤ t225 then (if t225 < (y222.length : Int) then ((some (([] : List (S38)) : List (S38))).bind fun ya=>(if ya.length + l1.length < 3518437208883 then ((some (ya ++ l1 : List (S38))).bind fun yb=>((some (([(⟨t165,t166,(⟨t167,t168⟩ : S36),rd y222 t225⟩ : S38)] : List (S38)) : List (S38))).bind fun yc=>(if yb.length + yc.length < 3518437208883 then (some ((yb ++ yc),tp)) else (none)))) else (none))) else (none)) else (none)) = some (r1,r2):=H
     have A77:=Aside0.mk A770
     clear A770
     have c78 : 0 ≤ t225:=Classical.byContradiction fun hn_=>by rw [if_neg hn_] at H;exact absurd H Q0
     rw [if_pos c78] at H
     have c78b0 : decide (0 ≤ t225) = true:=decide_eq_true c78
     clear c78
     have c79 : t225 < (y222.length : Int):=Classical.byContradiction fun hn_=>by rw [if_neg hn_] at H;exact absurd H Q0
     rw [if_pos c79] at H
     have c79b0 : decide (t225 < (y222.length : Int)) = true:=decide_eq_true c79
     clear c79
     obtain ⟨ya,hya⟩ : ∃ y_ : List (S38),y_ = (([] : List (S38))):=⟨_,rfl⟩
     replace H : (if ya.length + l1.length < 3518437208883 then ((some (ya ++ l1 : List (S38))).bind fun yb=>((some (([(⟨t165,t166,(⟨t167,t168⟩ : S36),rd y222 t225⟩ : S38)] : List (S38)) : List (S38))).bind fun yc=>(if yb.length + yc.length < 3518437208883 then (some ((yb ++ yc),tp)) else (none)))) else (none)) = some (r1,r2):=Q99
     have Nya:=Aside0.mk hya
     clear hya
     have c80 : ya.length + l1.length < 3518437208883:=Classical.byContradiction fun hn_=>by rw [if_neg hn_] at H;exact absurd H Q0
     rw [if_pos c80] at H
     have LMca:=Aside0.mk c80
     clear c80
     obtain ⟨yb,hyb⟩ : ∃ y_ : List (S38),y_ = (ya ++ l1):=⟨_,rfl⟩
     replace H : ((some (([(⟨t165,t166,(⟨t167,t168⟩ : S36),rd y222 t225⟩ : S38)] : List (S38)) : List (S38))).bind fun yc=>(if yb.length + yc.length < 3518437208883 then (some ((yb ++ yc),tp)) else (none))) = some (r1,r2):=Q100
     have Nyb:=Aside0.mk hyb
     clear hyb
     obtain ⟨yc,hyc⟩ : ∃ y_ : List (S38),y_ = (([(⟨t165,t166,(⟨t167,t168⟩ : S36),rd y222 t225⟩ : S38)] : List (S38))):=⟨_,rfl⟩
     replace H : (if yb.length + yc.length < 3518437208883 then (some ((yb ++ yc),tp)) else (none)) = some (r1,r2):=Q101
     have Nyc:=Aside0.mk hyc
     clear hyc
     have c81 : yb.length + yc.length < 3518437208883:=Classical.byContradiction fun hn_=>by rw [if_neg hn_] at H;exact absurd H Q0
     rw [if_pos c81] at H
     have LMcb:=Aside0.mk c81
     clear c81
     obtain ⟨yd,hyd⟩ : ∃ y_ : List (S38),y_ = (yb ++ yc):=⟨_,rfl⟩
     replace H : (some (yd,tp)) = some (r1,r2):=Q102
     have Nyd:=Aside0.mk hyd
     clear hyd
     simp only [Option.some.injEq,Prod.mk.injEq] at H
     obtain ⟨rfl,rfl⟩:=H
     go_enter Try.func81,Try.ntmps81
     try go_wp2_with (first|((with_reducible refine gate_callee (f:=70) rfl ?_);refine goesL_ (some 7) rfl rfl Try.func70 Q2 rfl #[.pointer (some ⟨g,0,none⟩)] rfl Q50 ?_;(with_reducible refine (spec_l71Row.calls k g s0_0 s0_1 t165 t166 t167 t168 t169 t170 w0 _ ?side1 ?side2 A3.out).mono ?_);(case side1=>exact Q54);(case side2=>exact Q72);rintro e w82 ⟨rfl,hi,hb,hk⟩;refine ⟨_,rfl,?_⟩;have n0_:=Aside0.mk (KeepBut.trans Q53 hk (.inl rfl));have n1_:=Aside0.mk (hb);have n2_:=Aside0.mk (hi);clear HK;clear HB;clear HI0;have HK:=n0_;have HB:=n1_;have HI0:=n2_;clear n0_ n1_ n2_;(try clear hb);(try clear hb2);(try clear hk);(try clear hi))|((with_reducible refine gate_dst (N:=5) rfl ?_);refine box_event ?hg (N:=5) ?hd (cs:=#[.int .i64 0,.int .i64 0,.int .i64 0,.int .i64 0,.int .i64 0]) (t:=38) ?hr ?_;(case hd=>rfl);(case hg=>rfl);(case hr=>first|(go_simp;done)|(go_simp;rfl));intro gb171 hg w83 hbox hb;have n0_:=Aside0.mk (IsS87.below Q54 hb);have n1_:=Aside0.mk (KeepBut.trans Q53 (KeepBut.of_below hb g none) (.inl rfl));have n2_:=Aside0.mk (below_step Q72 hb);have n3_:=Aside0.mk (hbox);have n4_:=Aside0.mk ((Q107 : w.heap.size ≤ gb171));have n5_:=Aside0.mk ((Nat.le_trans HW0.out (Q107 : w.heap.size ≤ gb171) : w0.heap.size ≤ gb171));have n6_:=Aside0.mk ((by rw [hg];exact Nat.ne_of_lt (IsS87.lt (show IsS87 w0 _ g s0_0 t170 from by repeat (first|(with_reducible first|exact HI0.out|apply IsS87.alloc|apply IsS87.drewN|apply IsS87.drew|apply IsS87.set_1)|exact HI0.out))) : g ≠ gb171));have n7_:=Aside0.mk ((by rw [hg];exact Nat.ne_of_gt (IsS87.lt (show IsS87 w0 _ g s0_0 t170 from by repeat (first|(with_reducible first|exact HI0.out|apply IsS87.alloc|apply IsS87.drewN|apply IsS87.drew|apply IsS87.set_1)|exact HI0.out))) : gb171 ≠ g));clear HI0;clear HK;clear HB;have HI0:=n0_;have HK:=n1_;have HB:=n2_;have BK171:=n3_;have GW171:=n4_;have GE171:=n5_;have NB0_171:=n6_;have NB171_0:=n7_;clear n0_ n1_ n2_ n3_ n4_ n5_ n6_ n7_;clear hb hbox hg;have hnb84:=NB171_0.out;have hnc84:=NB0_171.out;obtain ⟨hcz85_0,hcz85_1,hcz85_2,hcz85_3,hcz85_4,hfz85_0,hfz85_1,hfz85_2,hfz85_3,hfz85_4⟩:=bx5_ BK171)|((with_reducible refine gate_callee (f:=68) rfl ?_);refine goesL_ (some 9) rfl rfl Try.func68 Q2 rfl #[.pointer (some ⟨g,0,none⟩),.int .i64 5] rfl Q50 ?_;(with_reducible refine (spec_l6Rd_pick.calls k g s0_0 t170 5 t172 t173 w0 _ ?side1 ?side2 A4.out).mono ?_);(case side1=>exact Q85);(case side2=>exact Q94);rintro e w86 ⟨rfl,hi,hb,hk⟩;refine ⟨_,rfl,?_⟩;have n0_:=Aside0.mk (KeepBut.blk hk (g':=gb171) (o:=.cells #[.int .i64 t165,.int .i64 t166,.int .i64 t167,.int .i64 t168,.int .i64 t169] 38 (0,0)) Q103 NB171_0.out Q0);have n1_:=Aside0.mk (KeepBut.trans Q81 hk (.inl rfl));have n2_:=Aside0.mk (hb);have n3_:=Aside0.mk (hi);clear BK171;clear HK;clear HB;clear HI0;have BK171:=n0_;have HK:=n1_;have HB:=n2_;have HI0:=n3_;clear n0_ n1_ n2_ n3_;(try clear hb);(try clear hb2);(try clear hk);(try clear hi))|((with_reducible refine gate_dst (N:=34) rfl ?_);refine Kd.R_lit (Kd.int .i64) _ 3 ?hg (N:=34) ?hd (xs:=([(-100000),100000] : List Int)) (inner:=[.int .i64 (-100000),.int .i64 100000]) (ok:=fun _=>True) (okp:=fun _=>True) ?hr ?hp (fun _ hk=>hk) trivial (Below.refl _ _) (Nat.le_refl _) Q0 ?_;(case hd=>rfl);(case hg=>rfl);(case hr=>first|(go_simp;done)|(go_simp;rfl));(case hp=>exact (Reps.one (show Kd.M (Kd.int .i64) _ _ _ (-100000) [.int .i64 (-100000)] from rfl) (Reps.one (show Kd.M (Kd.int .i64) _ _ _ 100000 [.int .i64 100000] from rfl) (Reps.none _ _))));intro v223 w87 ho88 hb hg_ hnew_;clear hg_ hnew_;(first|rw [← Ny222.out] at ho88|(simp only [Int.reduceToNat] at ho88;rw [← Ny222.out] at ho88));have n0_:=Aside0.mk (Kd.R_lower ho88 (keep_size (w:=w) (g:=g) (row:=none) Q81));have n1_:=Aside0.mk (IsS87.below Q85 hb);have n2_:=Aside0.mk (blk_below (g:=gb171) (o:=.cells #[.int .i64 t165,.int .i64 t166,.int .i64 t167,.int .i64 t168,.int .i64 t169] 38 (0,0)) Q32 hb);have n3_:=Aside0.mk (KeepBut.trans Q81 (KeepBut.of_below hb g none) (.inl rfl));have n4_:=Aside0.mk (below_step Q94 hb);clear HI0;clear BK171;clear HK;clear HB;have HO224:=n0_;have HI0:=n1_;have BK171:=n2_;have HK:=n3_;have HB:=n4_;clear n0_ n1_ n2_ n3_ n4_;clear hb ho88)|((with_reducible refine gate_callee (f:=68) rfl ?_);refine goesL_ (some 36) rfl rfl Try.func68 Q2 rfl #[.pointer (some ⟨g,0,none⟩),.int .i64 2] rfl Q50 ?_;(with_reducible refine (spec_l6Rd_pick.calls k g s0_0 t173 2 t225 tp w0 _ ?side1 ?side2 A77.out).mono ?_);(case side1=>exact Q85);(case side2=>exact Q94);rintro e w89 ⟨rfl,hi,hb,hk⟩;refine ⟨_,rfl,?_⟩;have n0_:=Aside0.mk (KeepBut.blk hk (g':=gb171) (o:=.cells #[.int .i64 t165,.int .i64 t166,.int .i64 t167,.int .i64 t168,.int .i64 t169] 38 (0,0)) Q32 NB171_0.out Q0);have n1_:=Aside0.mk (Kd.R_mono (Kd.R_keep (IsS87.apart (show IsS87 w0 _ g s0_0 t173 from by repeat (first|(with_reducible first|exact HI0.out|apply IsS87.alloc|apply IsS87.drewN|apply IsS87.drew|apply IsS87.set_1|refine IsS87.far ?_ NB0_171.out _)|exact HI0.out)) (by (with_reducible repeat (first|apply Kd.R_alloc|apply Kd.R_drewN|apply Kd.R_drew));exact HO224.out) Q1) hk (fun _ h=>h.2)) (fun _ h=>h.1));have n2_:=Aside0.mk (KeepBut.trans Q81 hk (.inl rfl));have n3_:=Aside0.mk (hb);have n4_:=Aside0.mk (hi);clear BK171;clear HO224;clear HK;clear HB;clear HI0;have BK171:=n0_;have HO224:=n1_;have HK:=n2_;have HB:=n3_;have HI0:=n4_;clear n0_ n1_ n2_ n3_ n4_;(try clear hb);(try clear hb2);(try clear hk);(try clear hi);obtain ⟨Ao90,co90,eo90⟩:=Kd.R_slice HO224.out;subst eo90;have p227 : 0 ≤ (t225 : Int):=of_decide_eq_true Q8;have q227 : t225 < (y222.length : Int):=of_decide_eq_true Q8;obtain ⟨ad227,e227,hx227_0⟩:=Kd.at_int (Kd.R_reads' HO224.out).2.2 t225 p227 q227;cases e227;replace p227:=eq_true p227;replace q227:=eq_true q227;obtain ⟨hcz91_0,hcz91_1,hcz91_2,hcz91_3,hcz91_4,hfz91_0,hfz91_1,hfz91_2,hfz91_3,hfz91_4⟩:=bx5_ BK171))
     have n0_ : Aside0 (Kd.R (Kd.int .i64) 3 (w89.setCell ⟨gb171,4,none⟩ (.int .i64 (rd y222 t225))) w.heap.size (fun _=>True) (.slice (some ad227) y222.length co90) y222):=⟨by (with_reducible repeat (first|apply Kd.R_alloc|apply Kd.R_drewN|apply Kd.R_drew));exact Kd.R_mono (Kd.R_far (p:=⟨gb171,4,none⟩) (Kd.R_types HO224.out BK171.out Q1) (fun _ hk=>hk.2) (.int .i64 (rd y222 t225))) (fun _ hk=>trivial)⟩
     have n1_ : Aside0 ((w89.setCell ⟨gb171,4,none⟩ (.int .i64 (rd y222 t225))).heap[gb171]? = some (.cells #[.int .i64 t165,.int .i64 t166,.int .i64 t167,.int .i64 t168,.int .i64 (rd y222 t225)] 38 (0,0))):=⟨by (with_reducible repeat (first|refine blk_drewN ?_ _|refine blk_drew ?_|refine blk_alloc ?_ _));refine blk_put (cs:=#[.int .i64 t165,.int .i64 t166,.int .i64 t167,.int .i64 t168,.int .i64 t169]) ?_ 4 _ rfl;(with_reducible repeat (first|refine blk_drewN ?_ _|refine blk_drew ?_|refine blk_alloc ?_ _));exact BK171.out⟩
     have n2_ : Aside0 (IsS87 w0 (w89.setCell ⟨gb171,4,none⟩ (.int .i64 (rd y222 t225))) g s0_0 tp):=⟨Q85⟩
     have n3_ : Aside0 (KeepBut w (w89.setCell ⟨gb171,4,none⟩ (.int .i64 (rd y222 t225))) g none):=⟨Q81⟩
     have n4_ : Aside0 (Below w0.heap.size w0 (w89.setCell ⟨gb171,4,none⟩ (.int .i64 (rd y222 t225)))):=⟨Q94⟩
     (try clear HO224)
     (try clear BK171)
     (try clear HI0)
     (try clear HK)
     (try clear HB)
     generalize (w89.setCell ⟨gb171,4,none⟩ (.int .i64 (rd y222 t225))) = wT at n0_ n1_ n2_ n3_ n4_ ⊢
     have HO224:=n0_
     have BK171:=n1_
     have HI0:=n2_
     have HK:=n3_
     have HB:=n4_
     clear n0_ n1_ n2_ n3_ n4_
     clear HO224
     obtain ⟨e0,e1,e2,e3,e4,hE,BKE⟩ : ∃ e0 e1 e2 e3 e4 : Int,(⟨e0,e1,⟨e2,e3⟩,e4⟩ : S38) = ⟨t165,t166,⟨t167,t168⟩,(rd y222 t225)⟩ ∧ Aside0 (wT.heap[gb171]? = some (.cells #[.int .i64 e0,.int .i64 e1,.int .i64 e2,.int .i64 e3,.int .i64 e4] 38 (0,0))):=⟨_,_,_,_,_,rfl,BK171⟩
     clear BK171;have BK171:=BKE;clear BKE
     have Ny_:=Aside0.mk (Nyc.out.trans (congrArg (fun z : S38=>[z]) hE.symm));clear Nyc;have Nyc:=Ny_;clear Ny_ hE
    case' neg =>
     rw [if_neg c76] at H
     have c76b0 : (t172 == 3) = false:=beq_eq_false_iff_ne.mpr c76
     have c76b1 : (t172 != 3) = true:=bne_iff_ne.mpr c76
     obtain ⟨ya,hya⟩ : ∃ y_ : List (S38),y_ = (([] : List (S38))):=⟨_,rfl⟩
     replace H : (if ya.length + l1.length < 3518437208883 then ((some (ya ++ l1 : List (S38))).bind fun yb=>((some (([(⟨t165,t166,(⟨t167,8⟩ : S36),t169⟩ : S38)] : List (S38)) : List (S38))).bind fun yc=>(if yb.length + yc.length < 3518437208883 then (some ((yb ++ yc),t173)) else (none)))) else (none)) = some (r1,r2):=Q99
     have Nya:=Aside0.mk hya
     clear hya
     have c102 : ya.length + l1.length < 3518437208883:=Classical.byContradiction fun hn_=>by rw [if_neg hn_] at H;exact absurd H Q0
     rw [if_pos c102] at H
     have LMca:=Aside0.mk c102
     clear c102
     obtain ⟨yb,hyb⟩ : ∃ y_ : List (S38),y_ = (ya ++ l1):=⟨_,rfl⟩
     replace H : ((some (([(⟨t165,t166,(⟨t167,8⟩ : S36),t169⟩ : S38)] : List (S38)) : List (S38))).bind fun yc=>(if yb.length + yc.length < 3518437208883 then (some ((yb ++ yc),t173)) else (none))) = some (r1,r2):=Q100
     have Nyb:=Aside0.mk hyb
     clear hyb
     obtain ⟨yc,hyc⟩ : ∃ y_ : List (S38),y_ = (([(⟨t165,t166,(⟨t167,8⟩ : S36),t169⟩ : S38)] : List (S38))):=⟨_,rfl⟩
     replace H : (if yb.length + yc.length < 3518437208883 then (some ((yb ++ yc),t173)) else (none)) = some (r1,r2):=Q101
     have Nyc:=Aside0.mk hyc
     clear hyc
     have c103 : yb.length + yc.length < 3518437208883:=Classical.byContradiction fun hn_=>by rw [if_neg hn_] at H;exact absurd H Q0
     rw [if_pos c103] at H
     have LMcb:=Aside0.mk c103
     clear c103
     obtain ⟨yd,hyd⟩ : ∃ y_ : List (S38),y_ = (yb ++ yc):=⟨_,rfl⟩
     replace H : (some (yd,t173)) = some (r1,r2):=Q102
     have Nyd:=Aside0.mk hyd
     clear hyd
     simp only [Option.some.injEq,Prod.mk.injEq] at H
     obtain ⟨rfl,rfl⟩:=H
     go_enter Try.func81,Try.ntmps81
     try go_wp2_with (first|((with_reducible refine gate_callee (f:=70) rfl ?_);refine goesL_ (some 7) rfl rfl Try.func70 Q2 rfl #[.pointer (some ⟨g,0,none⟩)] rfl Q50 ?_;(with_reducible refine (spec_l71Row.calls k g s0_0 s0_1 t165 t166 t167 t168 t169 t170 w0 _ ?side1 ?side2 A3.out).mono ?_);(case side1=>exact Q54);(case side2=>exact Q72);rintro e w104 ⟨rfl,hi,hb,hk⟩;refine ⟨_,rfl,?_⟩;have n0_:=Aside0.mk (KeepBut.trans Q53 hk (.inl rfl));have n1_:=Aside0.mk (hb);have n2_:=Aside0.mk (hi);clear HK;clear HB;clear HI0;have HK:=n0_;have HB:=n1_;have HI0:=n2_;clear n0_ n1_ n2_;(try clear hb);(try clear hb2);(try clear hk);(try clear hi))|((with_reducible refine gate_dst (N:=5) rfl ?_);refine box_event ?hg (N:=5) ?hd (cs:=#[.int .i64 0,.int .i64 0,.int .i64 0,.int .i64 0,.int .i64 0]) (t:=38) ?hr ?_;(case hd=>rfl);(case hg=>rfl);(case hr=>first|(go_simp;done)|(go_simp;rfl));intro gb171 hg w105 hbox hb;have n0_:=Aside0.mk (IsS87.below Q54 hb);have n1_:=Aside0.mk (KeepBut.trans Q53 (KeepBut.of_below hb g none) (.inl rfl));have n2_:=Aside0.mk (below_step Q72 hb);have n3_:=Aside0.mk (hbox);have n4_:=Aside0.mk ((Q107 : w.heap.size ≤ gb171));have n5_:=Aside0.mk ((Nat.le_trans HW0.out (Q107 : w.heap.size ≤ gb171) : w0.heap.size ≤ gb171));have n6_:=Aside0.mk ((by rw [hg];exact Nat.ne_of_lt (IsS87.lt (show IsS87 w0 _ g s0_0 t170 from by repeat (first|(with_reducible first|exact HI0.out|apply IsS87.alloc|apply IsS87.drewN|apply IsS87.drew|apply IsS87.set_1)|exact HI0.out))) : g ≠ gb171));have n7_:=Aside0.mk ((by rw [hg];exact Nat.ne_of_gt (IsS87.lt (show IsS87 w0 _ g s0_0 t170 from by repeat (first|(with_reducible first|exact HI0.out|apply IsS87.alloc|apply IsS87.drewN|apply IsS87.drew|apply IsS87.set_1)|exact HI0.out))) : gb171 ≠ g));clear HI0;clear HK;clear HB;have HI0:=n0_;have HK:=n1_;have HB:=n2_;have BK171:=n3_;have GW171:=n4_;have GE171:=n5_;have NB0_171:=n6_;have NB171_0:=n7_;clear n0_ n1_ n2_ n3_ n4_ n5_ n6_ n7_;clear hb hbox hg;have hnb106:=NB171_0.out;have hnc106:=NB0_171.out;obtain ⟨hcz107_0,hcz107_1,hcz107_2,hcz107_3,hcz107_4,hfz107_0,hfz107_1,hfz107_2,hfz107_3,hfz107_4⟩:=bx5_ BK171)|((with_reducible refine gate_callee (f:=68) rfl ?_);refine goesL_ (some 9) rfl rfl Try.func68 Q2 rfl #[.pointer (some ⟨g,0,none⟩),.int .i64 5] rfl Q50 ?_;(with_reducible refine (spec_l6Rd_pick.calls k g s0_0 t170 5 t172 t173 w0 _ ?side1 ?side2 A4.out).mono ?_);(case side1=>exact Q85);(case side2=>exact Q94);rintro e w108 ⟨rfl,hi,hb,hk⟩;refine ⟨_,rfl,?_⟩;have n0_:=Aside0.mk (KeepBut.blk hk (g':=gb171) (o:=.cells #[.int .i64 t165,.int .i64 t166,.int .i64 t167,.int .i64 t168,.int .i64 t169] 38 (0,0)) Q103 NB171_0.out Q0);have n1_:=Aside0.mk (KeepBut.trans Q81 hk (.inl rfl));have n2_:=Aside0.mk (hb);have n3_:=Aside0.mk (hi);clear BK171;clear HK;clear HB;clear HI0;have BK171:=n0_;have HK:=n1_;have HB:=n2_;have HI0:=n3_;clear n0_ n1_ n2_ n3_;(try clear hb);(try clear hb2);(try clear hk);(try clear hi);obtain ⟨hcz109_0,hcz109_1,hcz109_2,hcz109_3,hcz109_4,hfz109_0,hfz109_1,hfz109_2,hfz109_3,hfz109_4⟩:=bx5_ BK171))
     have n0_ : Aside0 ((w108.setCell ⟨gb171,3,none⟩ (.int .i64 8)).heap[gb171]? = some (.cells #[.int .i64 t165,.int .i64 t166,.int .i64 t167,.int .i64 8,.int .i64 t169] 38 (0,0))):=⟨by (with_reducible repeat (first|refine blk_drewN ?_ _|refine blk_drew ?_|refine blk_alloc ?_ _));refine blk_put (cs:=#[.int .i64 t165,.int .i64 t166,.int .i64 t167,.int .i64 t168,.int .i64 t169]) ?_ 3 _ rfl;(with_reducible repeat (first|refine blk_drewN ?_ _|refine blk_drew ?_|refine blk_alloc ?_ _));exact BK171.out⟩
     have n1_ : Aside0 (IsS87 w0 (w108.setCell ⟨gb171,3,none⟩ (.int .i64 8)) g s0_0 t173):=⟨Q85⟩
     have n2_ : Aside0 (KeepBut w (w108.setCell ⟨gb171,3,none⟩ (.int .i64 8)) g none):=⟨Q81⟩
     have n3_ : Aside0 (Below w0.heap.size w0 (w108.setCell ⟨gb171,3,none⟩ (.int .i64 8))):=⟨Q94⟩
     (try clear BK171)
     (try clear HI0)
     (try clear HK)
     (try clear HB)
     generalize (w108.setCell ⟨gb171,3,none⟩ (.int .i64 8)) = wT at n0_ n1_ n2_ n3_ ⊢
     have BK171:=n0_
     have HI0:=n1_
     have HK:=n2_
     have HB:=n3_
     clear n0_ n1_ n2_ n3_
     obtain ⟨tp,hT_⟩ : ∃ tp,tp = t173:=⟨_,rfl⟩;subst hT_
     obtain ⟨e0,e1,e2,e3,e4,hE,BKE⟩ : ∃ e0 e1 e2 e3 e4 : Int,(⟨e0,e1,⟨e2,e3⟩,e4⟩ : S38) = ⟨t165,t166,⟨t167,8⟩,t169⟩ ∧ Aside0 (wT.heap[gb171]? = some (.cells #[.int .i64 e0,.int .i64 e1,.int .i64 e2,.int .i64 e3,.int .i64 e4] 38 (0,0))):=⟨_,_,_,_,_,rfl,BK171⟩
     clear BK171;have BK171:=BKE;clear BKE
     have Ny_:=Aside0.mk (Nyc.out.trans (congrArg (fun z : S38=>[z]) hE.symm));clear Nyc;have Nyc:=Ny_;clear Ny_ hE
 all_goals
  have n0_:=Aside0.mk (blk_drew BK171.out)
  have n1_:=Aside0.mk (IsS87.drew HI0.out)
  have n2_:=Aside0.mk (keep_drew HK.out)
  have n3_:=Aside0.mk (below_drew1 HB.out)
  clear BK171
  clear HI0
  clear HK
  clear HB
  have BK171:=n0_
  have HI0:=n1_
  have HK:=n2_
  have HB:=n3_
  clear n0_ n1_ n2_ n3_
  refine start_ (n:=7) (S:=fun w'=>w'.cell? ⟨gb171,0,none⟩ = some (.int .i64 e0) ∧ w'.cell? ⟨gb171,1,none⟩ = some (.int .i64 e1) ∧ w'.cell? ⟨gb171,2,none⟩ = some (.int .i64 e2) ∧ w'.cell? ⟨gb171,3,none⟩ = some (.int .i64 e3) ∧ w'.cell? ⟨gb171,4,none⟩ = some (.int .i64 e4)) (ds:=[]) b7_0 Q2 rfl rfl ⟨(blk_cell BK171.out 0).trans rfl,(blk_cell BK171.out 1).trans rfl,(blk_cell BK171.out 2).trans rfl,(blk_cell BK171.out 3).trans rfl,(blk_cell BK171.out 4).trans rfl⟩ (fun hHeld=>?_)
  generalize wT.drew = w111 at BK171 HI0 HK HB hHeld ⊢
  refine pU_ 1 41 c6 ?_
  refine tU_ 3 43 c7 hHeld ?_
  refine join_ (σ:=Value × Value × Value) 2 b7_5 (fun s_=>[(40,s_.1),(42,s_.2.1),(44,s_.2.2)]) (fun s_ w'=>(w'.cell? ⟨gb171,0,none⟩ = some (.int .i64 e0) ∧ w'.cell? ⟨gb171,1,none⟩ = some (.int .i64 e1) ∧ w'.cell? ⟨gb171,2,none⟩ = some (.int .i64 e2) ∧ w'.cell? ⟨gb171,3,none⟩ = some (.int .i64 e3) ∧ w'.cell? ⟨gb171,4,none⟩ = some (.int .i64 e4)) ∧ (Kd.R k38 38 w' w.heap.size (fun k_=>some k_ ≠ (s_.2.2 : Value).ownBlock ∧ k_ ≠ gb171) s_.2.1 yb) ∧ (Kd.R k38 38 w' w.heap.size (fun k_=>some k_ ≠ (s_.2.1 : Value).ownBlock ∧ k_ ≠ gb171) s_.2.2 yc) ∧ (w'.heap[gb171]? = some (.cells #[.int .i64 e0,.int .i64 e1,.int .i64 e2,.int .i64 e3,.int .i64 e4] 38 (0,0))) ∧ (IsS87 w0 w' g s0_0 tp) ∧ (KeepBut w w' g none) ∧ (Below w0.heap.size w0 w')) ?_ ?_
  rotate_left
  ·intro hCont
   refine two_ (i:=0) (j:=4) (Ni:=some 40) (Nj:=some 44) c9 c10 rfl rfl rfl rfl Q2 Q1 Q1 (fun K hK=>?_) (fun K hK=>?_)
   ·skip
    refine Kd.R_lit_step k38 _ 38 ?hg (N:=40) ?hd (xs:=([] : List (S38))) (inner:=[]) (ok:=fun _=>True) (okp:=fun _=>True) ?hr ?hp (fun _ hk=>hk) trivial (Below.refl _ _) (Nat.le_refl _) Q0 ?_;(case hd=>rfl);(case hg=>rfl);(case hr=>first|(go_simp;done)|(go_simp;rfl));(case hp=>exact (Reps.none _ _))
    intro v241 w112 ho113 hb hg_ hnew_
    clear hg_ hnew_
    (first|rw [← Nya.out] at ho113|(simp only [Int.reduceToNat] at ho113;rw [← Nya.out] at ho113))
    have n0_:=Aside0.mk (Kd.R_lower (Kd.R_newB ho113 (g:=gb171) (o:=.cells #[.int .i64 e0,.int .i64 e1,.int .i64 e2,.int .i64 e3,.int .i64 e4] 38 (0,0)) Q32) (keep_size (w:=w) (g:=g) (row:=none) Q81))
    have n1_:=Aside0.mk (IsS87.below Q85 hb)
    have n2_:=Aside0.mk (blk_below (g:=gb171) (o:=.cells #[.int .i64 e0,.int .i64 e1,.int .i64 e2,.int .i64 e3,.int .i64 e4] 38 (0,0)) Q32 hb)
    have n3_:=Aside0.mk (KeepBut.trans Q81 (KeepBut.of_below hb g none) (.inl rfl))
    have n4_:=Aside0.mk (below_step Q94 hb)
    clear HI0
    clear BK171
    clear HK
    clear HB
    have HO242:=n0_
    have HI0:=n1_
    have BK171:=n2_
    have HK:=n3_
    have HB:=n4_
    clear n0_ n1_ n2_ n3_ n4_
    clear hb ho113
    refine hK.out _ _ ⟨(blk_cell BK171.out 0).trans rfl,(blk_cell BK171.out 1).trans rfl,(blk_cell BK171.out 2).trans rfl,(blk_cell BK171.out 3).trans rfl,(blk_cell BK171.out 4).trans rfl⟩ (fun hHeld=>?_)
    clear hK K
    refine norm_ (a':=?_) ?_ ?_
    rotate_left
    ·show Act.put _ (some 40) _ = _
     simp only [Act.put,sA_,sZ_,sS_,i64_w,i32_w]
     rfl
    refine two_ (i:=2) (j:=4) (Ni:=some 42) (Nj:=some 44) b7_4 c12 rfl rfl rfl rfl Q2 Q1 Q1 (fun K hK=>?_) (fun K hK=>?_)
    ·skip
     refine Kd.R_append_rows_step k38 w.heap.size (by rfl) (.tmp 40) (.tmp 41) 23 38 (.agg #[(.int .i64 0),(.int .i64 0),(.int .i64 0),(.int .i64 0),(.int .i64 0)]) 40 rfl Try.underlying23 info38 rfl Q1 (by omega) v241 ya l1 _ _ _ (fun k_=>k_ ≠ gb171) (fun _=>False) rfl rfl ?aO ?aR (fun _ _ h=>h) (fun _ h=>h.elim) ?aF (Below.refl _ _) ?aS ?aL ?_
     (case aR=>exact Kd.C_foot_now HR1.out Q81)
     (case aF=>exact (fun k_ hk=>Kd.freshB (g:=gb171) (o:=.cells #[.int .i64 e0,.int .i64 e1,.int .i64 e2,.int .i64 e3,.int .i64 e4] 38 (0,0)) Q32 k_ hk))
     (case aO=>exact (by (with_reducible repeat (first|apply Kd.R_alloc|apply Kd.R_drewN|apply Kd.R_drew));exact Kd.R_mono HO242.out (fun _ hk=>hk.2)))
     (case aS=>exact (keep_size (w:=w) (g:=g) (row:=none) Q81))
     (case aL=>have:=LMca.out;omega)
     intro v244 w114 ho hb hg hat
     rw [← Nyb.out] at ho
     have n0_:=Aside0.mk (IsS87.grown (show IsS87 w0 _ g s0_0 tp from by repeat (first|(with_reducible first|exact HI0.out|apply IsS87.alloc|apply IsS87.drewN|apply IsS87.drew|apply IsS87.set_1|refine IsS87.far ?_ NB0_171.out _)|exact HI0.out)) hg (IsS87.own_ne HI0.out HO242.out Q1))
     have n1_:=Aside0.mk (blk_grown (g:=gb171) (o:=.cells #[.int .i64 e0,.int .i64 e1,.int .i64 e2,.int .i64 e3,.int .i64 e4] 38 (0,0)) Q32 hg (Kd.R_away HO242.out (fun _ hk=>hk.2)))
     have n2_:=Aside0.mk (below_weaken Q94 HL.out hb)
     have n3_:=Aside0.mk (KeepBut.trans Q81 (KeepBut.of_grown hg g) (Kd.R_base2 HO242.out))
     have n4_:=Aside0.mk (ho)
     clear HI0
     clear BK171
     clear HB
     clear HK
     clear HO242
     have HI0:=n0_
     have BK171:=n1_
     have HB:=n2_
     have HK:=n3_
     have HO245:=n4_
     clear n0_ n1_ n2_ n3_ n4_
     clear ho hb hg hat
     refine hK.out _ _ ⟨(blk_cell BK171.out 0).trans rfl,(blk_cell BK171.out 1).trans rfl,(blk_cell BK171.out 2).trans rfl,(blk_cell BK171.out 3).trans rfl,(blk_cell BK171.out 4).trans rfl⟩ (fun hHeld=>?_)
     clear hK K
     refine norm_ (a':=?_) ?_ ?_
     rotate_left
     ·show Act.put _ (some 42) _ = _
      simp only [Act.put,sA_,sZ_,sS_,i64_w,i32_w]
      rfl
     refine one_ (i:=4) (N:=some 44) b7_5 rfl rfl Q2 Q1 (fun K hK=>?_)
     refine Kd.R_lit_step k38 _ 38 ?hg (N:=44) ?hd (xs:=([(⟨e0,e1,(⟨e2,e3⟩ : S36),e4⟩ : S38)] : List (S38))) (inner:=[.int .i64 e0,.int .i64 e1,.int .i64 e2,.int .i64 e3,.int .i64 e4]) (ok:=fun _=>True) (okp:=fun _=>True) ?hr ?hp (fun _ hk=>hk) trivial (Below.refl _ _) (Nat.le_refl _) Q0 ?_;(case hd=>rfl);(case hg=>rfl);(case hr=>first|(go_simp;done)|(go_simp;rfl));(case hp=>exact (Reps.c5 (show Kd.M k38 _ _ _ (⟨e0,e1,(⟨e2,e3⟩ : S36),e4⟩ : S38) [.int .i64 e0,.int .i64 e1,.int .i64 e2,.int .i64 e3,.int .i64 e4] from (k38_mkM _ _ _ (⟨e0,e1,(⟨e2,e3⟩ : S36),e4⟩ : S38) )) (Reps.none _ _)))
     intro v247 w115 ho116 hb hg_ hnew_
     clear hg_ hnew_
     (first|rw [← Nyc.out] at ho116|(simp only [Int.reduceToNat] at ho116;rw [← Nyc.out] at ho116))
     have n0_:=Aside0.mk (Kd.R_elder' Q18 (Kd.R_base ho116) hb)
     have n1_:=Aside0.mk (Kd.R_lower (Kd.R_newB (Kd.R_new' ho116 (Kd.R_lt Q18)) (g:=gb171) (o:=.cells #[.int .i64 e0,.int .i64 e1,.int .i64 e2,.int .i64 e3,.int .i64 e4] 38 (0,0)) Q32) (keep_size (w:=w) (g:=g) (row:=none) Q81))
     have n2_:=Aside0.mk (IsS87.below Q85 hb)
     have n3_:=Aside0.mk (blk_below (g:=gb171) (o:=.cells #[.int .i64 e0,.int .i64 e1,.int .i64 e2,.int .i64 e3,.int .i64 e4] 38 (0,0)) Q32 hb)
     have n4_:=Aside0.mk (KeepBut.trans Q81 (KeepBut.of_below hb g none) (.inl rfl))
     have n5_:=Aside0.mk (below_step Q94 hb)
     clear HO245
     clear HI0
     clear BK171
     clear HK
     clear HB
     have HO245:=n0_
     have HO248:=n1_
     have HI0:=n2_
     have BK171:=n3_
     have HK:=n4_
     have HB:=n5_
     clear n0_ n1_ n2_ n3_ n4_ n5_
     clear hb ho116
     refine hK.out _ _ ⟨(blk_cell BK171.out 0).trans rfl,(blk_cell BK171.out 1).trans rfl,(blk_cell BK171.out 2).trans rfl,(blk_cell BK171.out 3).trans rfl,(blk_cell BK171.out 4).trans rfl⟩ (fun hHeld=>?_)
     clear hK K
     refine norm_ (a':=?_) ?_ ?_
     rotate_left
     ·show Act.put _ (some 44) _ = _
      simp only [Act.put,sA_,sZ_,sS_,i64_w,i32_w]
      rfl
     exact norm_ Q109 (hCont (v241,v244,v247) _ ⟨hHeld,(by (with_reducible repeat (first|apply Kd.R_alloc|apply Kd.R_drewN|apply Kd.R_drew));exact Kd.R_mono HO245.out (fun _ hk=>⟨hk.2,hk.1⟩)),(by (with_reducible repeat (first|apply Kd.R_alloc|apply Kd.R_drewN|apply Kd.R_drew));exact Kd.R_mono HO248.out (fun _ hk=>⟨hk.1.2,hk.2⟩)),Q32,Q85,Q81,Q94⟩)
    ·skip
     refine Kd.R_lit_step k38 _ 38 ?hg (N:=44) ?hd (xs:=([(⟨e0,e1,(⟨e2,e3⟩ : S36),e4⟩ : S38)] : List (S38))) (inner:=[.int .i64 e0,.int .i64 e1,.int .i64 e2,.int .i64 e3,.int .i64 e4]) (ok:=fun _=>True) (okp:=fun _=>True) ?hr ?hp (fun _ hk=>hk) trivial (Below.refl _ _) (Nat.le_refl _) Q0 ?_;(case hd=>rfl);(case hg=>rfl);(case hr=>first|(go_simp;done)|(go_simp;rfl));(case hp=>exact (Reps.c5 (show Kd.M k38 _ _ _ (⟨e0,e1,(⟨e2,e3⟩ : S36),e4⟩ : S38) [.int .i64 e0,.int .i64 e1,.int .i64 e2,.int .i64 e3,.int .i64 e4] from (k38_mkM _ _ _ (⟨e0,e1,(⟨e2,e3⟩ : S36),e4⟩ : S38) )) (Reps.none _ _)))
     intro v247 w114 ho115 hb hg_ hnew_
     clear hg_ hnew_
     (first|rw [← Nyc.out] at ho115|(simp only [Int.reduceToNat] at ho115;rw [← Nyc.out] at ho115))
     have n0_:=Aside0.mk (Kd.R_elder' (by (with_reducible repeat (first|apply Kd.R_alloc|apply Kd.R_drewN|apply Kd.R_drew));exact HO242.out) (Kd.R_base ho115) hb)
     have n1_:=Aside0.mk (Kd.R_lower (Kd.R_newB (Kd.R_new' ho115 (Kd.R_lt (by (with_reducible repeat (first|apply Kd.R_alloc|apply Kd.R_drewN|apply Kd.R_drew));exact HO242.out))) (g:=gb171) (o:=.cells #[.int .i64 e0,.int .i64 e1,.int .i64 e2,.int .i64 e3,.int .i64 e4] 38 (0,0)) Q32) (keep_size (w:=w) (g:=g) (row:=none) Q81))
     have n2_:=Aside0.mk (IsS87.below Q85 hb)
     have n3_:=Aside0.mk (blk_below (g:=gb171) (o:=.cells #[.int .i64 e0,.int .i64 e1,.int .i64 e2,.int .i64 e3,.int .i64 e4] 38 (0,0)) Q32 hb)
     have n4_:=Aside0.mk (KeepBut.trans Q81 (KeepBut.of_below hb g none) (.inl rfl))
     have n5_:=Aside0.mk (below_step Q94 hb)
     clear HO242
     clear HI0
     clear BK171
     clear HK
     clear HB
     have HO242:=n0_
     have HO248:=n1_
     have HI0:=n2_
     have BK171:=n3_
     have HK:=n4_
     have HB:=n5_
     clear n0_ n1_ n2_ n3_ n4_ n5_
     clear hb ho115
     refine hK.out _ _ ⟨(blk_cell BK171.out 0).trans rfl,(blk_cell BK171.out 1).trans rfl,(blk_cell BK171.out 2).trans rfl,(blk_cell BK171.out 3).trans rfl,(blk_cell BK171.out 4).trans rfl⟩ (fun hHeld=>?_)
     clear hK K
     refine norm_ (a':=?_) ?_ ?_
     rotate_left
     ·show Act.put _ (some 44) _ = _
      simp only [Act.put,sA_,sZ_,sS_,i64_w,i32_w]
      rfl
     refine one_ (i:=2) (N:=some 42) b7_5 rfl rfl Q2 Q1 (fun K hK=>?_)
     refine Kd.R_append_rows_step k38 w.heap.size (by rfl) (.tmp 40) (.tmp 41) 23 38 (.agg #[(.int .i64 0),(.int .i64 0),(.int .i64 0),(.int .i64 0),(.int .i64 0)]) 40 rfl Try.underlying23 info38 rfl Q1 (by omega) v241 ya l1 _ _ _ (fun k_=>some k_ ≠ (v247 : Value).ownBlock ∧ k_ ≠ gb171) (fun _=>False) rfl rfl ?aO ?aR (fun _ _ h=>h) (fun _ h=>h.elim) ?aF (Below.refl _ _) ?aS ?aL ?_
     (case aR=>exact Kd.C_foot_now HR1.out Q81)
     (case aF=>exact (fun k_ hk=>⟨Kd.fresh' (Kd.R_lt Q19) k_ hk,Kd.freshB (g:=gb171) (o:=.cells #[.int .i64 e0,.int .i64 e1,.int .i64 e2,.int .i64 e3,.int .i64 e4] 38 (0,0)) Q32 k_ hk⟩))
     (case aO=>exact (by (with_reducible repeat (first|apply Kd.R_alloc|apply Kd.R_drewN|apply Kd.R_drew));exact Kd.R_mono HO242.out (fun _ hk=>⟨hk.2,hk.1.2⟩)))
     (case aS=>exact (keep_size (w:=w) (g:=g) (row:=none) Q81))
     (case aL=>have:=LMca.out;omega)
     intro v244 w116 ho hb hg hat
     rw [← Nyb.out] at ho
     have n0_:=Aside0.mk (IsS87.grown (show IsS87 w0 _ g s0_0 tp from by repeat (first|(with_reducible first|exact HI0.out|apply IsS87.alloc|apply IsS87.drewN|apply IsS87.drew|apply IsS87.set_1|refine IsS87.far ?_ NB0_171.out _)|exact HI0.out)) hg (IsS87.own_ne HI0.out HO242.out Q1))
     have n1_:=Aside0.mk (blk_grown (g:=gb171) (o:=.cells #[.int .i64 e0,.int .i64 e1,.int .i64 e2,.int .i64 e3,.int .i64 e4] 38 (0,0)) Q32 hg (Kd.R_away HO242.out (fun _ hk=>hk.1.2)))
     have n2_:=Aside0.mk (Kd.R_after (ok:=(fun k_=>k_ ≠ gb171)) (by (with_reducible repeat (first|apply Kd.R_alloc|apply Kd.R_drewN|apply Kd.R_drew));exact Kd.R_mono HO248.out (fun _ hk=>⟨hk.2,hk.1.2⟩)) hg hat)
     have n3_:=Aside0.mk (below_weaken Q94 HL.out hb)
     have n4_:=Aside0.mk (KeepBut.trans Q81 (KeepBut.of_grown hg g) (Kd.R_base2 HO242.out))
     have n5_:=Aside0.mk (ho)
     clear HI0
     clear BK171
     clear HO248
     clear HB
     clear HK
     clear HO242
     have HI0:=n0_
     have BK171:=n1_
     have HO248:=n2_
     have HB:=n3_
     have HK:=n4_
     have HO245:=n5_
     clear n0_ n1_ n2_ n3_ n4_ n5_
     clear ho hb hg hat
     refine hK.out _ _ ⟨(blk_cell BK171.out 0).trans rfl,(blk_cell BK171.out 1).trans rfl,(blk_cell BK171.out 2).trans rfl,(blk_cell BK171.out 3).trans rfl,(blk_cell BK171.out 4).trans rfl⟩ (fun hHeld=>?_)
     clear hK K
     refine norm_ (a':=?_) ?_ ?_
     rotate_left
     ·show Act.put _ (some 42) _ = _
      simp only [Act.put,sA_,sZ_,sS_,i64_w,i32_w]
      rfl
     exact norm_ Q109 (hCont (v241,v244,v247) _ ⟨hHeld,Q18,Q52,Q32,Q85,Q81,Q94⟩)
   ·skip
    refine Kd.R_lit_step k38 _ 38 ?hg (N:=44) ?hd (xs:=([(⟨e0,e1,(⟨e2,e3⟩ : S36),e4⟩ : S38)] : List (S38))) (inner:=[.int .i64 e0,.int .i64 e1,.int .i64 e2,.int .i64 e3,.int .i64 e4]) (ok:=fun _=>True) (okp:=fun _=>True) ?hr ?hp (fun _ hk=>hk) trivial (Below.refl _ _) (Nat.le_refl _) Q0 ?_;(case hd=>rfl);(case hg=>rfl);(case hr=>first|(go_simp;done)|(go_simp;rfl));(case hp=>exact (Reps.c5 (show Kd.M k38 _ _ _ (⟨e0,e1,(⟨e2,e3⟩ : S36),e4⟩ : S38) [.int .i64 e0,.int .i64 e1,.int .i64 e2,.int .i64 e3,.int .i64 e4] from (k38_mkM _ _ _ (⟨e0,e1,(⟨e2,e3⟩ : S36),e4⟩ : S38) )) (Reps.none _ _)))
    intro v247 w112 ho113 hb hg_ hnew_
    clear hg_ hnew_
    (first|rw [← Nyc.out] at ho113|(simp only [Int.reduceToNat] at ho113;rw [← Nyc.out] at ho113))
    have n0_:=Aside0.mk (Kd.R_lower (Kd.R_newB ho113 (g:=gb171) (o:=.cells #[.int .i64 e0,.int .i64 e1,.int .i64 e2,.int .i64 e3,.int .i64 e4] 38 (0,0)) Q32) (keep_size (w:=w) (g:=g) (row:=none) Q81))
    have n1_:=Aside0.mk (IsS87.below Q85 hb)
    have n2_:=Aside0.mk (blk_below (g:=gb171) (o:=.cells #[.int .i64 e0,.int .i64 e1,.int .i64 e2,.int .i64 e3,.int .i64 e4] 38 (0,0)) Q32 hb)
    have n3_:=Aside0.mk (KeepBut.trans Q81 (KeepBut.of_below hb g none) (.inl rfl))
    have n4_:=Aside0.mk (below_step Q94 hb)
    clear HI0
    clear BK171
    clear HK
    clear HB
    have HO248:=n0_
    have HI0:=n1_
    have BK171:=n2_
    have HK:=n3_
    have HB:=n4_
    clear n0_ n1_ n2_ n3_ n4_
    clear hb ho113
    refine hK.out _ _ ⟨(blk_cell BK171.out 0).trans rfl,(blk_cell BK171.out 1).trans rfl,(blk_cell BK171.out 2).trans rfl,(blk_cell BK171.out 3).trans rfl,(blk_cell BK171.out 4).trans rfl⟩ (fun hHeld=>?_)
    clear hK K
    refine norm_ (a':=?_) ?_ ?_
    rotate_left
    ·show Act.put _ (some 44) _ = _
     simp only [Act.put,sA_,sZ_,sS_,i64_w,i32_w]
     rfl
    refine one_ (i:=0) (N:=some 40) c12 rfl rfl Q2 Q1 (fun K hK=>?_)
    refine Kd.R_lit_step k38 _ 38 ?hg (N:=40) ?hd (xs:=([] : List (S38))) (inner:=[]) (ok:=fun _=>True) (okp:=fun _=>True) ?hr ?hp (fun _ hk=>hk) trivial (Below.refl _ _) (Nat.le_refl _) Q0 ?_;(case hd=>rfl);(case hg=>rfl);(case hr=>first|(go_simp;done)|(go_simp;rfl));(case hp=>exact (Reps.none _ _))
    intro v241 w114 ho115 hb hg_ hnew_
    clear hg_ hnew_
    (first|rw [← Nya.out] at ho115|(simp only [Int.reduceToNat] at ho115;rw [← Nya.out] at ho115))
    have n0_:=Aside0.mk (Kd.R_elder' Q19 (Kd.R_base ho115) hb)
    have n1_:=Aside0.mk (Kd.R_lower (Kd.R_newB (Kd.R_new' ho115 (Kd.R_lt Q19)) (g:=gb171) (o:=.cells #[.int .i64 e0,.int .i64 e1,.int .i64 e2,.int .i64 e3,.int .i64 e4] 38 (0,0)) Q32) (keep_size (w:=w) (g:=g) (row:=none) Q81))
    have n2_:=Aside0.mk (IsS87.below Q85 hb)
    have n3_:=Aside0.mk (blk_below (g:=gb171) (o:=.cells #[.int .i64 e0,.int .i64 e1,.int .i64 e2,.int .i64 e3,.int .i64 e4] 38 (0,0)) Q32 hb)
    have n4_:=Aside0.mk (KeepBut.trans Q81 (KeepBut.of_below hb g none) (.inl rfl))
    have n5_:=Aside0.mk (below_step Q94 hb)
    clear HO248
    clear HI0
    clear BK171
    clear HK
    clear HB
    have HO248:=n0_
    have HO242:=n1_
    have HI0:=n2_
    have BK171:=n3_
    have HK:=n4_
    have HB:=n5_
    clear n0_ n1_ n2_ n3_ n4_ n5_
    clear hb ho115
    refine hK.out _ _ ⟨(blk_cell BK171.out 0).trans rfl,(blk_cell BK171.out 1).trans rfl,(blk_cell BK171.out 2).trans rfl,(blk_cell BK171.out 3).trans rfl,(blk_cell BK171.out 4).trans rfl⟩ (fun hHeld=>?_)
    clear hK K
    refine norm_ (a':=?_) ?_ ?_
    rotate_left
    ·show Act.put _ (some 40) _ = _
     simp only [Act.put,sA_,sZ_,sS_,i64_w,i32_w]
     rfl
    refine one_ (i:=2) (N:=some 42) b7_5 rfl rfl Q2 Q1 (fun K hK=>?_)
    refine Kd.R_append_rows_step k38 w.heap.size (by rfl) (.tmp 40) (.tmp 41) 23 38 (.agg #[(.int .i64 0),(.int .i64 0),(.int .i64 0),(.int .i64 0),(.int .i64 0)]) 40 rfl Try.underlying23 info38 rfl Q1 (by omega) v241 ya l1 _ _ _ (fun k_=>some k_ ≠ (v247 : Value).ownBlock ∧ k_ ≠ gb171) (fun _=>False) rfl rfl ?aO ?aR (fun _ _ h=>h) (fun _ h=>h.elim) ?aF (Below.refl _ _) ?aS ?aL ?_
    (case aR=>exact Kd.C_foot_now HR1.out Q81)
    (case aF=>exact (fun k_ hk=>⟨Kd.fresh' (Kd.R_lt Q19) k_ hk,Kd.freshB (g:=gb171) (o:=.cells #[.int .i64 e0,.int .i64 e1,.int .i64 e2,.int .i64 e3,.int .i64 e4] 38 (0,0)) Q32 k_ hk⟩))
    (case aO=>exact (by (with_reducible repeat (first|apply Kd.R_alloc|apply Kd.R_drewN|apply Kd.R_drew));exact Kd.R_mono HO242.out (fun _ hk=>⟨hk.1.2,hk.2⟩)))
    (case aS=>exact (keep_size (w:=w) (g:=g) (row:=none) Q81))
    (case aL=>have:=LMca.out;omega)
    intro v244 w116 ho hb hg hat
    rw [← Nyb.out] at ho
    have n0_:=Aside0.mk (IsS87.grown (show IsS87 w0 _ g s0_0 tp from by repeat (first|(with_reducible first|exact HI0.out|apply IsS87.alloc|apply IsS87.drewN|apply IsS87.drew|apply IsS87.set_1|refine IsS87.far ?_ NB0_171.out _)|exact HI0.out)) hg (IsS87.own_ne HI0.out HO242.out Q1))
    have n1_:=Aside0.mk (blk_grown (g:=gb171) (o:=.cells #[.int .i64 e0,.int .i64 e1,.int .i64 e2,.int .i64 e3,.int .i64 e4] 38 (0,0)) Q32 hg (Kd.R_away HO242.out (fun _ hk=>hk.2)))
    have n2_:=Aside0.mk (Kd.R_after (ok:=(fun k_=>k_ ≠ gb171)) (by (with_reducible repeat (first|apply Kd.R_alloc|apply Kd.R_drewN|apply Kd.R_drew));exact Kd.R_mono HO248.out (fun _ hk=>⟨hk.1.2,hk.2⟩)) hg hat)
    have n3_:=Aside0.mk (below_weaken Q94 HL.out hb)
    have n4_:=Aside0.mk (KeepBut.trans Q81 (KeepBut.of_grown hg g) (Kd.R_base2 HO242.out))
    have n5_:=Aside0.mk (ho)
    clear HI0
    clear BK171
    clear HO248
    clear HB
    clear HK
    clear HO242
    have HI0:=n0_
    have BK171:=n1_
    have HO248:=n2_
    have HB:=n3_
    have HK:=n4_
    have HO245:=n5_
    clear n0_ n1_ n2_ n3_ n4_ n5_
    clear ho hb hg hat
    refine hK.out _ _ ⟨(blk_cell BK171.out 0).trans rfl,(blk_cell BK171.out 1).trans rfl,(blk_cell BK171.out 2).trans rfl,(blk_cell BK171.out 3).trans rfl,(blk_cell BK171.out 4).trans rfl⟩ (fun hHeld=>?_)
    clear hK K
    refine norm_ (a':=?_) ?_ ?_
    rotate_left
    ·show Act.put _ (some 42) _ = _
     simp only [Act.put,sA_,sZ_,sS_,i64_w,i32_w]
     rfl
    exact norm_ Q109 (hCont (v241,v244,v247) _ ⟨hHeld,Q18,Q52,Q32,Q85,Q81,Q94⟩)
  rintro ⟨v241,v244,v247⟩ w117 ⟨hS_,h0_,h1_,h2_,h3_,h4_,h5_⟩
  have n0_ : Aside0 (Kd.R k38 38 w117 w.heap.size (fun k_=>some k_ ≠ (v247 : Value).ownBlock ∧ k_ ≠ gb171) v244 yb):=⟨h0_⟩
  have n1_ : Aside0 (Kd.R k38 38 w117 w.heap.size (fun k_=>some k_ ≠ (v244 : Value).ownBlock ∧ k_ ≠ gb171) v247 yc):=⟨h1_⟩
  have n2_ : Aside0 (w117.heap[gb171]? = some (.cells #[.int .i64 e0,.int .i64 e1,.int .i64 e2,.int .i64 e3,.int .i64 e4] 38 (0,0))):=⟨h2_⟩
  have n3_ : Aside0 (IsS87 w0 w117 g s0_0 tp):=⟨h3_⟩
  have n4_ : Aside0 (KeepBut w w117 g none):=⟨h4_⟩
  have n5_ : Aside0 (Below w0.heap.size w0 w117):=⟨h5_⟩
  clear BK171
  clear HI0
  clear HK
  clear HB
  clear h0_ h1_ h2_ h3_ h4_ h5_
  have HO245:=n0_
  have HO248:=n1_
  have BK171:=n2_
  have HI0:=n3_
  have HK:=n4_
  have HB:=n5_
  clear n0_ n1_ n2_ n3_ n4_ n5_
  have hHeld : w117.cell? ⟨gb171,0,none⟩ = some (.int .i64 e0) ∧ w117.cell? ⟨gb171,1,none⟩ = some (.int .i64 e1) ∧ w117.cell? ⟨gb171,2,none⟩ = some (.int .i64 e2) ∧ w117.cell? ⟨gb171,3,none⟩ = some (.int .i64 e3) ∧ w117.cell? ⟨gb171,4,none⟩ = some (.int .i64 e4):=hS_
  obtain ⟨Ao119,co119,eo119⟩:=Kd.R_slice HO248.out
  (first|subst eo119|(injection eo119 with f1_ f2_ f3_;have f4_:=f1_.symm;have f5_:=f3_.symm;clear f1_ f2_ f3_;subst f4_;subst f5_))
  refine norm_ (a':=?_) ?_ ?_
  rotate_left
  ·simp only [putAll,Act.put,sA_,sZ_,sS_]
   rfl
  refine one_ (i:=5) (N:=some 45) b7_6 rfl rfl Q2 Q1 (fun K hK=>?_)
  refine Kd.R_append_rows_step k38 w.heap.size (by rfl) (.tmp 42) (.tmp 44) 23 38 (.agg #[(.int .i64 0),(.int .i64 0),(.int .i64 0),(.int .i64 0),(.int .i64 0)]) 40 rfl Try.underlying23 info38 rfl Q1 (by omega) v244 yb yc _ _ _ (fun k_=>some k_ ≠ (.slice Ao119 yc.length co119 : Value).ownBlock ∧ k_ ≠ gb171) (fun _=>False) rfl rfl ?aO ?aR (fun _ _ h=>h) (fun _ h=>h.elim) ?aF (Below.refl _ _) ?aS ?aL ?_
  (case aR=>exact (by repeat (first|exact (Kd.R_reads' HO248.out).2.2|(with_reducible refine Kd.C_alloc ?_ _)|(with_reducible refine Kd.C_drewN ?_ _)|(with_reducible refine Kd.C_drew ?_))))
  (case aF=>exact (fun k_ hk=>⟨Kd.fresh' (Kd.R_lt Q19) k_ hk,Kd.freshB (g:=gb171) (o:=.cells #[.int .i64 e0,.int .i64 e1,.int .i64 e2,.int .i64 e3,.int .i64 e4] 38 (0,0)) Q32 k_ hk⟩))
  (case aO=>exact Q18)
  (case aS=>exact (keep_size (w:=w) (g:=g) (row:=none) Q81))
  (case aL=>have:=LMcb.out;omega)
  intro v250 w118 ho hb hg hat
  rw [← Nyd.out] at ho
  have n0_:=Aside0.mk (IsS87.grown (show IsS87 w0 _ g s0_0 tp from by repeat (first|(with_reducible first|exact HI0.out|apply IsS87.alloc|apply IsS87.drewN|apply IsS87.drew|apply IsS87.set_1|refine IsS87.far ?_ NB0_171.out _)|exact HI0.out)) hg (IsS87.own_ne HI0.out HO245.out Q1))
  have n1_:=Aside0.mk (blk_grown (g:=gb171) (o:=.cells #[.int .i64 e0,.int .i64 e1,.int .i64 e2,.int .i64 e3,.int .i64 e4] 38 (0,0)) Q32 hg (Kd.R_away HO245.out (fun _ hk=>hk.2)))
  have n2_:=Aside0.mk (Kd.R_after (ok:=(fun k_=>k_ ≠ gb171)) Q52 hg hat)
  have n3_:=Aside0.mk (below_weaken Q94 HL.out hb)
  have n4_:=Aside0.mk (KeepBut.trans Q81 (KeepBut.of_grown hg g) (Kd.R_base2 HO245.out))
  have n5_:=Aside0.mk (ho)
  clear HI0
  clear BK171
  clear HO248
  clear HB
  clear HK
  clear HO245
  have HI0:=n0_
  have BK171:=n1_
  have HO248:=n2_
  have HB:=n3_
  have HK:=n4_
  have HO251:=n5_
  clear n0_ n1_ n2_ n3_ n4_ n5_
  clear ho hb hg hat
  refine hK.out _ _ ⟨(blk_cell BK171.out 0).trans rfl,(blk_cell BK171.out 1).trans rfl,(blk_cell BK171.out 2).trans rfl,(blk_cell BK171.out 3).trans rfl,(blk_cell BK171.out 4).trans rfl⟩ (fun hHeld=>?_)
  clear hK K
  refine norm_ (a':=?_) ?_ ?_
  rotate_left
  ·show Act.put _ (some 45) _ = _
   simp only [Act.put,sA_,sZ_,sS_,i64_w,i32_w]
   rfl
  refine pU_ 6 4 b7_7 ?_
  refine done_ Q2 ?_
  try go_wp2
  go_ret
  exact ⟨_,Q11,by (with_reducible repeat (first|apply Kd.R_alloc|apply Kd.R_drewN|apply Kd.R_drew));exact Kd.R_mono HO251.out (fun _ hk=>trivial),Q85,Q94,Q81⟩
def spec_l71Any.f (k : Nat) (s0_0 : List Int) (s0_1 : Int) : Option ((List (S38)) × Int) := (spec_l71Rows.f k s0_0 s0_1 10).bind fun bt252 => ((spec_l6Rd_pick.f k s0_0 bt252.2 14).bind fun bt256 => (if bt256.1 = 0 then ((spec_l71Spoil.f k s0_0 bt256.2 bt252.1).bind fun bt258 => (some (bt258.1, bt258.2))) else (some (bt252.1, bt256.2))))
theorem spec_l71Any.mono : ∀ a0 a1 k,LeO (spec_l71Any.f k a0 a1) (spec_l71Any.f (k + 1) a0 a1):=by
 intro a0 a1 k
 unfold spec_l71Any.f
 repeat' first
   | (with_reducible exact spec_l6Rd_pick.mono _ _ _ _)
   | (with_reducible exact spec_l71Rows.mono _ _ _ _)
   | (with_reducible exact spec_l71Spoil.mono _ _ _ _)
   | (with_reducible exact LeO.refl _)
   | (with_reducible exact LeO.none _)
   | (with_reducible refine LeO.ite ?_ ?_)
   | (with_reducible refine LeO.bind ?_ (fun _=>?_))
   | exact spec_l6Rd_pick.mono _ _ _ _
   | exact spec_l71Rows.mono _ _ _ _
   | exact spec_l71Spoil.mono _ _ _ _
   | exact LeO.none _
   | refine LeO.ite ?_ ?_
   | refine LeO.bind ?_ (fun _=>?_)
set_option maxHeartbeats 8000000 in
set_option maxRecDepth 100000 in
theorem spec_l71Any.calls (k : Nat) (g : Nat) (s0_0 : List Int) (s0_1 : Int) (r1 : List (S38)) (r2 : Int) (w0 w : World) (hI : IsS87 w0 w g s0_0 s0_1) (hB : Below w0.heap.size w0 w) (h : spec_l71Any.f k s0_0 s0_1 = some (r1,r2)) :
  Calls Try.prog 51 #[.pointer (some ⟨g,0,none⟩)] w fun e w'=>∃ v0_ : Value,e = .returned (v0_) ∧ Kd.R k38 38 w' w.heap.size (fun _=>True) v0_ r1 ∧ IsS87 w0 w' g s0_0 r2 ∧ Below w0.heap.size w0 w' ∧ KeepBut w w' g none:=by
 have HI0:=Aside0.mk hI
 have HK:=Aside0.mk (KeepBut.refl w g none)
 have HL:=Aside0.mk hB.size
 clear hI
 have HW0:=Aside0.mk hB.size
 have HB:=Aside0.mk hB
 clear hB
 have H : ((spec_l71Rows.f k s0_0 s0_1 10).bind fun bt252=>((spec_l6Rd_pick.f k s0_0 bt252.2 14).bind fun bt256=>(if bt256.1 = 0 then ((spec_l71Spoil.f k s0_0 bt256.2 bt252.1).bind fun bt258=>(some (bt258.1,bt258.2))) else (some (bt252.1,bt256.2))))) = some (r1,r2):=h
 clear h
 replace H:=Option.bind_eq_some_iff.mp H
 obtain ⟨⟨t252,t255⟩,A20,H⟩:=H
 replace H : ((spec_l6Rd_pick.f k s0_0 t255 14).bind fun bt256=>(if bt256.1 = 0 then ((spec_l71Spoil.f k s0_0 bt256.2 t252).bind fun bt258=>(some (bt258.1,bt258.2))) else (some (t252,bt256.2)))) = some (r1,r2):=H
 have A2:=Aside0.mk A20
 clear A20
 replace H:=Option.bind_eq_some_iff.mp H
 obtain ⟨⟨t256,t257⟩,A30,H⟩:=H
 replace H : (if t256 = 0 then ((spec_l71Spoil.f k s0_0 t257 t252).bind fun bt258=>(some (bt258.1,bt258.2))) else (some (t252,t257))) = some (r1,r2):=H
 have A3:=Aside0.mk A30
 clear A30
 by_cases c4 : t256 = 0
 ·rw [if_pos c4] at H
  have c4b0 : (t256 == 0) = true:=beq_iff_eq.mpr c4
  have c4b1 : (t256 != 0) = false:=bne_eq_false_iff_eq.mpr c4
  clear c4
  replace H:=Option.bind_eq_some_iff.mp H
  obtain ⟨⟨t258,t261⟩,A50,H⟩:=H
  replace H : (some (t258,t261)) = some (r1,r2):=H
  have A5:=Aside0.mk A50
  clear A50
  simp only [Option.some.injEq,Prod.mk.injEq] at H
  obtain ⟨rfl,rfl⟩:=H
  go_enter Try.func51,Try.ntmps51
  go_wp2_with (first|((with_reducible refine gate_callee (f:=80) rfl ?_);refine goesL_ (some 5) rfl rfl Try.func80 Q2 rfl #[.pointer (some ⟨g,0,none⟩),.int .i64 10] rfl Q50 ?_;(with_reducible refine (spec_l71Rows.calls k g s0_0 s0_1 10 t252 t255 w0 _ ?side1 ?side2 A2.out).mono ?_);(case side1=>exact Q54);(case side2=>exact Q72);rintro e w6 ⟨v253,rfl,ho0,hi,hb,hk⟩;refine ⟨_,rfl,?_⟩;have n0_:=Aside0.mk (Kd.R_lower ho0 (keep_size (w:=w) (g:=g) (row:=none) Q53));have n1_:=Aside0.mk (KeepBut.trans Q53 hk (.inl rfl));have n2_:=Aside0.mk (hb);have n3_:=Aside0.mk (hi);clear HK;clear HB;clear HI0;have HO254:=n0_;have HK:=n1_;have HB:=n2_;have HI0:=n3_;clear n0_ n1_ n2_ n3_;(try clear hb);(try clear hb2);(try clear hk);(try clear hi);(try clear ho0))|((with_reducible refine gate_callee (f:=68) rfl ?_);refine goesL_ (some 7) rfl rfl Try.func68 Q2 rfl #[.pointer (some ⟨g,0,none⟩),.int .i64 14] rfl Q50 ?_;(with_reducible refine (spec_l6Rd_pick.calls k g s0_0 t255 14 t256 t257 w0 _ ?side1 ?side2 A3.out).mono ?_);(case side1=>exact Q54);(case side2=>exact Q72);rintro e w7 ⟨rfl,hi,hb,hk⟩;refine ⟨_,rfl,?_⟩;have n0_:=Aside0.mk (Kd.R_mono (Kd.R_keep (IsS87.apart (show IsS87 w0 _ g s0_0 t255 from by repeat (first|(with_reducible first|exact HI0.out|apply IsS87.alloc|apply IsS87.drewN|apply IsS87.drew|apply IsS87.set_1)|exact HI0.out)) Q20 Q1) hk (fun _ h=>h.2)) (fun _ h=>h.1));have n1_:=Aside0.mk (KeepBut.trans Q53 hk (.inl rfl));have n2_:=Aside0.mk (hb);have n3_:=Aside0.mk (hi);clear HO254;clear HK;clear HB;clear HI0;have HO254:=n0_;have HK:=n1_;have HB:=n2_;have HI0:=n3_;clear n0_ n1_ n2_ n3_;(try clear hb);(try clear hb2);(try clear hk);(try clear hi);obtain ⟨Ao8,co8,eo8⟩:=Kd.R_slice HO254.out;subst eo8)|((with_reducible refine gate_callee (f:=81) rfl ?_);refine goesL_ (some 11) rfl rfl Try.func81 Q2 rfl #[.pointer (some ⟨g,0,none⟩),.slice Ao8 t252.length co8] rfl Q50 ?_;(with_reducible refine (spec_l71Spoil.calls k g s0_0 t257 _ _ t252 t258 t261 w0 _ ?side1 ?side2 ?side3 ?side4 A5.out).mono ?_);(case side1=>exact Q54);(case side2=>exact Q72);(case side3=>exact Kd.C_foot_own (IsS87.apart (show IsS87 w0 _ g s0_0 t257 from by repeat (first|(with_reducible first|exact HI0.out|apply IsS87.alloc|apply IsS87.drewN|apply IsS87.drew|apply IsS87.set_1)|exact HI0.out)) Q20 Q1) (fun _ h_=>h_.2));(case side4=>exact (Kd.R_reads' HO254.out).2.1);rintro e w9 ⟨v259,rfl,ho0,hi,hb,hk⟩;refine ⟨_,rfl,?_⟩;have n0_:=Aside0.mk (Kd.R_mono (Kd.R_told (Kd.R_oldK (IsS87.apart (show IsS87 w0 _ g s0_0 t257 from by repeat (first|(with_reducible first|exact HI0.out|apply IsS87.alloc|apply IsS87.drewN|apply IsS87.drew|apply IsS87.set_1)|exact HI0.out)) Q20 Q1) hk) (Kd.R_base ho0)) (fun _ h_=>h_.1));have n1_:=Aside0.mk (Kd.R_lower (Kd.R_new' ho0 (Kd.R_lt Q20)) (keep_size (w:=w) (g:=g) (row:=none) Q53));have n2_:=Aside0.mk (KeepBut.trans Q53 hk (.inl rfl));have n3_:=Aside0.mk (hb);have n4_:=Aside0.mk (hi);clear HO254;clear HK;clear HB;clear HI0;have HO254:=n0_;have HO260:=n1_;have HK:=n2_;have HB:=n3_;have HI0:=n4_;clear n0_ n1_ n2_ n3_ n4_;(try clear hb);(try clear hb2);(try clear hk);(try clear hi);(try clear ho0)))
  go_ret
  exact ⟨_,Q11,by (with_reducible repeat (first|apply Kd.R_alloc|apply Kd.R_drewN|apply Kd.R_drew));exact Kd.R_mono HO260.out (fun _ hk=>trivial),Q54,Q72,Q53⟩
 ·rw [if_neg c4] at H
  have c4b0 : (t256 == 0) = false:=beq_eq_false_iff_ne.mpr c4
  have c4b1 : (t256 != 0) = true:=bne_iff_ne.mpr c4
  simp only [Option.some.injEq,Prod.mk.injEq] at H
  obtain ⟨rfl,rfl⟩:=H
  go_enter Try.func51,Try.ntmps51
  go_wp2_with (first|((with_reducible refine gate_callee (f:=80) rfl ?_);refine goesL_ (some 5) rfl rfl Try.func80 Q2 rfl #[.pointer (some ⟨g,0,none⟩),.int .i64 10] rfl Q50 ?_;(with_reducible refine (spec_l71Rows.calls k g s0_0 s0_1 10 t252 t255 w0 _ ?side1 ?side2 A2.out).mono ?_);(case side1=>exact Q54);(case side2=>exact Q72);rintro e w10 ⟨v253,rfl,ho0,hi,hb,hk⟩;refine ⟨_,rfl,?_⟩;have n0_:=Aside0.mk (Kd.R_lower ho0 (keep_size (w:=w) (g:=g) (row:=none) Q53));have n1_:=Aside0.mk (KeepBut.trans Q53 hk (.inl rfl));have n2_:=Aside0.mk (hb);have n3_:=Aside0.mk (hi);clear HK;clear HB;clear HI0;have HO254:=n0_;have HK:=n1_;have HB:=n2_;have HI0:=n3_;clear n0_ n1_ n2_ n3_;(try clear hb);(try clear hb2);(try clear hk);(try clear hi);(try clear ho0))|((with_reducible refine gate_callee (f:=68) rfl ?_);refine goesL_ (some 7) rfl rfl Try.func68 Q2 rfl #[.pointer (some ⟨g,0,none⟩),.int .i64 14] rfl Q50 ?_;(with_reducible refine (spec_l6Rd_pick.calls k g s0_0 t255 14 t256 t257 w0 _ ?side1 ?side2 A3.out).mono ?_);(case side1=>exact Q54);(case side2=>exact Q72);rintro e w11 ⟨rfl,hi,hb,hk⟩;refine ⟨_,rfl,?_⟩;have n0_:=Aside0.mk (Kd.R_mono (Kd.R_keep (IsS87.apart (show IsS87 w0 _ g s0_0 t255 from by repeat (first|(with_reducible first|exact HI0.out|apply IsS87.alloc|apply IsS87.drewN|apply IsS87.drew|apply IsS87.set_1)|exact HI0.out)) Q20 Q1) hk (fun _ h=>h.2)) (fun _ h=>h.1));have n1_:=Aside0.mk (KeepBut.trans Q53 hk (.inl rfl));have n2_:=Aside0.mk (hb);have n3_:=Aside0.mk (hi);clear HO254;clear HK;clear HB;clear HI0;have HO254:=n0_;have HK:=n1_;have HB:=n2_;have HI0:=n3_;clear n0_ n1_ n2_ n3_;(try clear hb);(try clear hb2);(try clear hk);(try clear hi)))
  go_ret
  exact ⟨_,Q11,Q20,Q54,Q72,Q53⟩
def spec_DrawBatchOf.f (k : Nat) (l0 : List Int) : Option ((List (S38))) := (spec_l6Open.f l0).bind fun bt262 => ((spec_l71Any.f k bt262.1 bt262.2).bind fun bt265 => (some bt265.1))
theorem spec_DrawBatchOf.mono : ∀ a0 k,LeO (spec_DrawBatchOf.f k a0) (spec_DrawBatchOf.f (k + 1) a0):=by
 intro a0 k
 unfold spec_DrawBatchOf.f
 repeat' first
   | (with_reducible exact spec_l71Any.mono _ _ _)
   | (with_reducible exact LeO.refl _)
   | (with_reducible exact LeO.none _)
   | (with_reducible refine LeO.ite ?_ ?_)
   | (with_reducible refine LeO.bind ?_ (fun _=>?_))
   | exact spec_l71Any.mono _ _ _
   | exact LeO.none _
   | refine LeO.ite ?_ ?_
   | refine LeO.bind ?_ (fun _=>?_)
set_option maxHeartbeats 8000000 in
set_option maxRecDepth 100000 in
theorem spec_DrawBatchOf.calls (k : Nat) (A0 : Option Addr) (c0 : Nat) (l0 : List Int) (r : List (S38)) (w : World) (hr0 : Kd.C (Kd.int .u8) w A0 l0.length l0) (hc0 : l0.length ≤ c0) (h : spec_DrawBatchOf.f k l0 = some r) :
  Calls Try.prog 16 #[.slice A0 l0.length c0] w fun e w'=>∃ v0_ : Value,e = .returned (v0_) ∧ Kd.R k38 38 w' w.heap.size (fun _=>True) v0_ r ∧ Below w.heap.size w w':=by
 have HR0:=Aside0.mk hr0
 have HC0:=Aside0.mk hc0
 clear hr0 hc0
 have HB:=Aside0.mk (Below.refl w.heap.size w)
 have H : ((spec_l6Open.f l0).bind fun bt262=>((spec_l71Any.f k bt262.1 bt262.2).bind fun bt265=>(some bt265.1))) = some r:=h
 clear h
 replace H:=Option.bind_eq_some_iff.mp H
 obtain ⟨⟨t262,t263⟩,A20,H⟩:=H
 replace H : ((spec_l71Any.f k t262 t263).bind fun bt265=>(some bt265.1)) = some r:=H
 have A2:=Aside0.mk A20
 clear A20
 replace H:=Option.bind_eq_some_iff.mp H
 obtain ⟨⟨t265,t268⟩,A30,H⟩:=H
 replace H : (some t265) = some r:=H
 have A3:=Aside0.mk A30
 clear A30
 obtain rfl:=Option.some.inj H
 go_enter Try.func16,Try.ntmps16
 go_wp2_with (first|((with_reducible refine gate_callee (f:=50) rfl ?_);refine goesL_ (some 4) rfl rfl Try.func50 Q2 rfl #[.slice A0 l0.length c0] rfl Q50 ?_;(with_reducible refine (spec_l6Open.calls _ _ l0 t262 t263 w _ ?side1 ?side2 ?side3 A2.out).mono ?_);(case side1=>exact Q46);(case side2=>exact HR0.out);(case side3=>exact HC0.out);rintro e w4 ⟨g264,rfl,hi,hb,hb2⟩;refine ⟨_,rfl,?_⟩;have n0_:=Aside0.mk (hb);have n1_:=Aside0.mk (hi);clear HB;have HB:=n0_;have HI264:=n1_;clear n0_ n1_;(try clear hb);(try clear hb2);(try clear hk);(try clear hi))|((with_reducible refine gate_callee (f:=51) rfl ?_);refine goesL_ (some 5) rfl rfl Try.func51 Q2 rfl #[.pointer (some ⟨g264,0,none⟩)] rfl Q50 ?_;(with_reducible refine (spec_l71Any.calls k g264 t262 t263 t265 t268 w _ ?side1 ?side2 A3.out).mono ?_);(case side1=>exact (by repeat (first|(with_reducible first|exact HI264.out|apply IsS87.alloc|apply IsS87.drewN|apply IsS87.drew|apply IsS87.set_1)|exact HI264.out)));(case side2=>exact Q77);rintro e w5 ⟨v266,rfl,ho0,hi,hb,hk⟩;refine ⟨_,rfl,?_⟩;have n0_:=Aside0.mk (Kd.R_lower ho0 (below_size Q77));have n1_:=Aside0.mk (hb);have n2_:=Aside0.mk (hi);clear HB;clear HI264;have HO267:=n0_;have HB:=n1_;have HI264:=n2_;clear n0_ n1_ n2_;(try clear hb);(try clear hb2);(try clear hk);(try clear hi);(try clear ho0)))
 go_ret
 exact ⟨_,Q11,by (with_reducible repeat (first|apply Kd.R_alloc|apply Kd.R_drewN|apply Kd.R_drew));exact HO267.out,Q77⟩
def laws_lwRows.l0 : Nat → List (S38) → List (S38) → Int → Option (Bool)
 | 0, _, _, _ => none
 | k + 1, x0, x1, x5 => if x5 < (x0.length : Int) then (if 0 ≤ x5 then (if x5 < (x1.length : Int) then (if (!(((rd_T38 x0 x5).f0) == ((rd_T38 x1 x5).f0)) || (!(((rd_T38 x0 x5).f1) == ((rd_T38 x1 x5).f1)) || ((!(((rd_T38 x0 x5).f2.f0) == ((rd_T38 x1 x5).f2.f0)) || (!(((rd_T38 x0 x5).f2.f1) == ((rd_T38 x1 x5).f2.f1)))) || (!(((rd_T38 x0 x5).f3) == ((rd_T38 x1 x5).f3)))))) = true then (some false) else (laws_lwRows.l0 k x0 x1 (wrap64 (x5 + 1)))) else (none)) else (none)) else (some true)
def laws_lwRows.f (k : Nat) (l0 : List (S38)) (l1 : List (S38)) : Option (Bool) := if (l0.length : Int) = (l1.length : Int) then (laws_lwRows.l0 k l0 l1 0) else (some false)
theorem laws_lwRows.mono_l : ∀ k,(∀ y0 y1 y2,LeO (laws_lwRows.l0 k y0 y1 y2) (laws_lwRows.l0 (k + 1) y0 y1 y2))
 | 0=>fun _ _ _ r h=>by simp [laws_lwRows.l0] at h
 | k + 1=>by
  have ih0:=laws_lwRows.mono_l k
  ·intro y0 y1 y2
   unfold laws_lwRows.l0
   repeat' first
   | (with_reducible exact ih0 _ _ _)
   | (with_reducible exact LeO.refl _)
   | (with_reducible exact LeO.none _)
   | (with_reducible refine LeO.ite ?_ ?_)
   | (with_reducible refine LeO.bind ?_ (fun _=>?_))
   | exact ih0 _ _ _
   | exact LeO.none _
   | refine LeO.ite ?_ ?_
   | refine LeO.bind ?_ (fun _=>?_)
theorem laws_lwRows.mono : ∀ a0 a1 k,LeO (laws_lwRows.f k a0 a1) (laws_lwRows.f (k + 1) a0 a1):=by
 intro a0 a1 k
 have ih0:=laws_lwRows.mono_l k
 unfold laws_lwRows.f
 repeat' first
   | (with_reducible exact ih0 _ _ _)
   | (with_reducible exact LeO.refl _)
   | (with_reducible exact LeO.none _)
   | (with_reducible refine LeO.ite ?_ ?_)
   | (with_reducible refine LeO.bind ?_ (fun _=>?_))
   | exact ih0 _ _ _
   | exact LeO.none _
   | refine LeO.ite ?_ ?_
   | refine LeO.bind ?_ (fun _=>?_)
set_option maxHeartbeats 8000000 in
set_option maxRecDepth 100000 in
theorem laws_lwRows.calls (k : Nat) (A0 : Option Addr) (c0 : Nat) (l0 : List (S38)) (A1 : Option Addr) (c1 : Nat) (l1 : List (S38)) (r : Bool) (w : World) (hr0 : Kd.C k38 w A0 l0.length l0) (hc0 : l0.length ≤ c0) (hr1 : Kd.C k38 w A1 l1.length l1) (hc1 : l1.length ≤ c1) (h : laws_lwRows.f k l0 l1 = some r) :
  Calls Try.prog 18 #[.slice A0 l0.length c0,.slice A1 l1.length c1] w fun e w'=>e = .returned (.bool r) ∧ Drawn0 w w':=by
 have hu38:=Try.underlying38
 have HR0:=Aside0.mk hr0
 have HC0:=Aside0.mk hc0
 clear hr0 hc0
 have HR1:=Aside0.mk hr1
 have HC1:=Aside0.mk hc1
 clear hr1 hc1
 have H : (if (l0.length : Int) = (l1.length : Int) then (laws_lwRows.l0 k l0 l1 0) else (some false)) = some r:=h
 clear h
 by_cases c3 : (l0.length : Int) = (l1.length : Int)
 ·rw [if_pos c3] at H
  have c3b0 : ((l0.length : Int) == (l1.length : Int)) = true:=beq_iff_eq.mpr c3
  have c3b1 : ((l0.length : Int) != (l1.length : Int)) = false:=bne_eq_false_iff_eq.mpr c3
  have c3b2 : (l0.length == l1.length) = true:=by first|simpa using c3|(simp at c3 ⊢;omega)
  clear c3
  have H':=Aside0.mk H
  clear H
  go_enter Try.func18,Try.ntmps18
  go_wp2
  repeat (go_quiet (fail);try go_wp2)
  go_loopg [5] k (fun kq v5 w'=>∃ (x5_1 : Int),v5 = .int .i64 x5_1 ∧ Aside0 (laws_lwRows.l0 kq l0 l1 x5_1 = some r) ∧ Aside0 (kq ≤ k) ∧ Drawn0 w w')
  case atStart=>exact ⟨(0),Q7,H',⟨Nat.le_refl _⟩,Q10⟩
  case round =>
   clear H'
   try clear c1
   try clear p2
   try clear c3
   try clear c3b0
   try clear c3b1
   try clear c3b2
   obtain ⟨x5_1,rfl,HA,HK1,⟨m1,rfl⟩⟩:=hrel
   cases gk with
   | zero=>exact absurd HA.out (by simp [laws_lwRows.l0])
   | succ k1 =>
    have H:=HA.out
    clear HA
    simp only [laws_lwRows.l0] at H
    by_cases c4 : x5_1 < (l0.length : Int)
    ·rw [if_pos c4] at H
     have c4b0 : decide (x5_1 < (l0.length : Int)) = true:=decide_eq_true c4
     clear c4
     by_cases c5 : 0 ≤ x5_1
     ·rw [if_pos c5] at H
      have c5b0 : decide (0 ≤ x5_1) = true:=decide_eq_true c5
      clear c5
      by_cases c6 : x5_1 < (l1.length : Int)
      ·rw [if_pos c6] at H
       have c6b0 : decide (x5_1 < (l1.length : Int)) = true:=decide_eq_true c6
       clear c6
       by_cases c7 : (!(((rd_T38 l0 x5_1).f0) == ((rd_T38 l1 x5_1).f0)) || (!(((rd_T38 l0 x5_1).f1) == ((rd_T38 l1 x5_1).f1)) || ((!(((rd_T38 l0 x5_1).f2.f0) == ((rd_T38 l1 x5_1).f2.f0)) || (!(((rd_T38 l0 x5_1).f2.f1) == ((rd_T38 l1 x5_1).f2.f1)))) || (!(((rd_T38 l0 x5_1).f3) == ((rd_T38 l1 x5_1).f3)))))) = true
       ·rw [if_pos c7] at H
        have c7b0 : (!(((rd_T38 l0 x5_1).f0) == ((rd_T38 l1 x5_1).f0)) || (!(((rd_T38 l0 x5_1).f1) == ((rd_T38 l1 x5_1).f1)) || ((!(((rd_T38 l0 x5_1).f2.f0) == ((rd_T38 l1 x5_1).f2.f0)) || (!(((rd_T38 l0 x5_1).f2.f1) == ((rd_T38 l1 x5_1).f2.f1)))) || (!(((rd_T38 l0 x5_1).f3) == ((rd_T38 l1 x5_1).f3)))))) = true:=c7
        clear c7
        obtain rfl:=Option.some.inj H
        have p269 : 0 ≤ (x5_1 : Int):=of_decide_eq_true Q8
        have q269 : x5_1 < (l0.length : Int):=of_decide_eq_true Q8
        obtain ⟨ad269,e269,hx269_0,hx269_1,hx269_2,hx269_3,hx269_4⟩:=at_T38 HR0.out x5_1 p269 q269
        cases e269
        replace p269:=eq_true p269
        replace q269:=eq_true q269
        have p270 : 0 ≤ (x5_1 : Int):=of_decide_eq_true Q8
        have q270 : x5_1 < (l1.length : Int):=of_decide_eq_true Q8
        obtain ⟨ad270,e270,hx270_0,hx270_1,hx270_2,hx270_3,hx270_4⟩:=at_T38 HR1.out x5_1 p270 q270
        cases e270
        replace p270:=eq_true p270
        replace q270:=eq_true q270
        go_wp2
        repeat (go_quiet (fail);try go_wp2)
        go_ret
        exact ⟨Q7,Q10⟩
       ·rw [if_neg c7] at H
        have c7b0 : (!(((rd_T38 l0 x5_1).f0) == ((rd_T38 l1 x5_1).f0)) || (!(((rd_T38 l0 x5_1).f1) == ((rd_T38 l1 x5_1).f1)) || ((!(((rd_T38 l0 x5_1).f2.f0) == ((rd_T38 l1 x5_1).f2.f0)) || (!(((rd_T38 l0 x5_1).f2.f1) == ((rd_T38 l1 x5_1).f2.f1)))) || (!(((rd_T38 l0 x5_1).f3) == ((rd_T38 l1 x5_1).f3)))))) = false:=by simpa using c7
        clear c7
        have H':=Aside0.mk H
        clear H
        have p269 : 0 ≤ (x5_1 : Int):=of_decide_eq_true Q8
        have q269 : x5_1 < (l0.length : Int):=of_decide_eq_true Q8
        obtain ⟨ad269,e269,hx269_0,hx269_1,hx269_2,hx269_3,hx269_4⟩:=at_T38 HR0.out x5_1 p269 q269
        cases e269
        replace p269:=eq_true p269
        replace q269:=eq_true q269
        have p270 : 0 ≤ (x5_1 : Int):=of_decide_eq_true Q8
        have q270 : x5_1 < (l1.length : Int):=of_decide_eq_true Q8
        obtain ⟨ad270,e270,hx270_0,hx270_1,hx270_2,hx270_3,hx270_4⟩:=at_T38 HR1.out x5_1 p270 q270
        cases e270
        replace p270:=eq_true p270
        replace q270:=eq_true q270
        go_wp2
        repeat (go_quiet (fail);try go_wp2)
        go_roundg k1
        case measure=>have:=HK1.out;omega
        case rel=>exact ⟨(wrap64 (x5_1 + 1)),Q7,H',⟨Q4⟩,Q10⟩
      ·rw [if_neg c6] at H
       exact absurd H Q0
     ·rw [if_neg c5] at H
      exact absurd H Q0
    ·rw [if_neg c4] at H
     have c4b0 : decide (x5_1 < (l0.length : Int)) = false:=decide_eq_false c4
     clear c4
     obtain rfl:=Option.some.inj H
     go_wp2
     repeat (go_quiet (fail);try go_wp2)
     go_ret
     exact ⟨Q7,Q10⟩
 ·rw [if_neg c3] at H
  have c3b0 : ((l0.length : Int) == (l1.length : Int)) = false:=beq_eq_false_iff_ne.mpr c3
  have c3b1 : ((l0.length : Int) != (l1.length : Int)) = true:=bne_iff_ne.mpr c3
  have c3b2 : (l0.length == l1.length) = false:=by first|simpa using c3|(simp at c3 ⊢;omega)
  obtain rfl:=Option.some.inj H
  go_enter Try.func18,Try.ntmps18
  go_wp2
  repeat (go_quiet (fail);try go_wp2)
  go_ret
  exact ⟨Q7,Q10⟩
def spec_l6In.f (a0 : Int) (a1 : Int) (a2 : Int) : Option (Bool) := if a0 ≥ a1 then (some (decide (a0 ≤ a2))) else (some false)
set_option maxHeartbeats 8000000 in
set_option maxRecDepth 100000 in
theorem spec_l6In.calls (a0 : Int) (a1 : Int) (a2 : Int) (r : Bool) (w : World) (h : spec_l6In.f a0 a1 a2 = some r) :
  Calls Try.prog 89 #[.int .i64 a0,.int .i64 a1,.int .i64 a2] w fun e w'=>e = .returned (.bool r) ∧ Drawn0 w w':=by
 have H : (if a0 ≥ a1 then (some (decide (a0 ≤ a2))) else (some false)) = some r:=h
 clear h
 by_cases c4 : a0 ≥ a1
 ·rw [if_pos c4] at H
  have c4b0 : decide (a1 ≤ a0) = true:=decide_eq_true c4
  clear c4
  obtain rfl:=Option.some.inj H
  go_enter Try.func89,Try.ntmps89
  go_wp2
  go_ret
  exact ⟨Q7,Q10⟩
 ·rw [if_neg c4] at H
  have c4b0 : decide (a1 ≤ a0) = false:=decide_eq_false c4
  clear c4
  obtain rfl:=Option.some.inj H
  go_enter Try.func89,Try.ntmps89
  go_wp2
  go_ret
  exact ⟨Q7,Q10⟩
def spec_TimeOk.f (a0_0 : Int) (a0_1 : Int) : Option (Bool) := (spec_l6In.f a0_0 0 7).bind fun t272 => (if t272 = true then ((spec_l6In.f a0_1 0 7).bind fun t273 => (some t273)) else (some false))
set_option maxHeartbeats 8000000 in
set_option maxRecDepth 100000 in
theorem spec_TimeOk.calls (a0_0 : Int) (a0_1 : Int) (r : Bool) (w : World) (h : spec_TimeOk.f a0_0 a0_1 = some r) :
  Calls Try.prog 60 #[.agg #[.int .i64 a0_0,.int .i64 a0_1]] w fun e w'=>e = .returned (.bool r) ∧ Below w.heap.size w w':=by
 have hu36:=Try.underlying36
 have HB:=Aside0.mk (Below.refl w.heap.size w)
 have H : ((spec_l6In.f a0_0 0 7).bind fun t272=>(if t272 = true then ((spec_l6In.f a0_1 0 7).bind fun t273=>(some t273)) else (some false))) = some r:=h
 clear h
 replace H:=Option.bind_eq_some_iff.mp H
 obtain ⟨t272,A20,H⟩:=H
 replace H : (if t272 = true then ((spec_l6In.f a0_1 0 7).bind fun t273=>(some t273)) else (some false)) = some r:=H
 have A2:=Aside0.mk A20
 clear A20
 by_cases c3 : t272 = true
 ·subst c3
  have H1 : ((spec_l6In.f a0_1 0 7).bind fun t273=>(some t273)) = some r:=by rw [if_pos rfl] at H;exact H
  clear H
  have H:=H1
  clear H1
  replace H:=Option.bind_eq_some_iff.mp H
  obtain ⟨t273,A40,H⟩:=H
  replace H : (some t273) = some r:=H
  have A4:=Aside0.mk A40
  clear A40
  obtain rfl:=Option.some.inj H
  go_enter Try.func60,Try.ntmps60
  go_wp2_with (first|((with_reducible refine gate_dst (N:=1) rfl ?_);refine box_event ?hg (N:=1) ?hd (cs:=#[.int .i64 a0_0,.int .i64 a0_1]) (t:=36) ?hr ?_;(case hd=>rfl);(case hg=>rfl);(case hr=>first|(go_simp;done)|(go_simp;rfl));intro gb271 hg w5 hbox hb;have n0_:=Aside0.mk (below_step Q46 hb);have n1_:=Aside0.mk (hbox);have n2_:=Aside0.mk ((Q106 : w.heap.size ≤ gb271));have n3_:=n2_;clear HB;have HB:=n0_;have BK271:=n1_;have GW271:=n2_;have GE271:=n3_;clear n0_ n1_ n2_ n3_;clear hb hbox hg;obtain ⟨hcz6_0,hcz6_1,hfz6_0,hfz6_1⟩:=bx2_ BK271)|((with_reducible refine gate_callee (f:=89) rfl ?_);refine goesL_ (some 5) rfl rfl Try.func89 Q2 rfl #[.int .i64 a0_0,.int .i64 0,.int .i64 7] rfl Q50 ?_;(with_reducible refine (spec_l6In.calls a0_0 0 7 true _ A2.out).mono ?_);rintro e w' ⟨rfl,⟨nd,rfl⟩⟩;refine ⟨_,rfl,?_⟩)|(go_at_call 89;(with_reducible refine (spec_l6In.calls a0_1 0 7 t273 _ A4.out).mono ?_);rintro e w' ⟨rfl,⟨nd,rfl⟩⟩))
  go_ret
  exact ⟨Q11,by repeat (first|(with_reducible first|exact HB.out|apply below_alloc|apply pw_below_drewN|apply below_drew1|refine below_set ?_ GE271.out)|exact HB.out)⟩
 ·replace c3:=Bool.eq_false_iff.mpr c3
  subst c3
  have H1 : (some false) = some r:=by rw [if_neg (show ¬ (false = true) by decide)] at H;exact H
  clear H
  have H:=H1
  clear H1
  obtain rfl:=Option.some.inj H
  go_enter Try.func60,Try.ntmps60
  go_wp2_with (first|((with_reducible refine gate_dst (N:=1) rfl ?_);refine box_event ?hg (N:=1) ?hd (cs:=#[.int .i64 a0_0,.int .i64 a0_1]) (t:=36) ?hr ?_;(case hd=>rfl);(case hg=>rfl);(case hr=>first|(go_simp;done)|(go_simp;rfl));intro gb271 hg w7 hbox hb;have n0_:=Aside0.mk (below_step Q46 hb);have n1_:=Aside0.mk (hbox);have n2_:=Aside0.mk ((Q106 : w.heap.size ≤ gb271));have n3_:=n2_;clear HB;have HB:=n0_;have BK271:=n1_;have GW271:=n2_;have GE271:=n3_;clear n0_ n1_ n2_ n3_;clear hb hbox hg;obtain ⟨hcz8_0,hcz8_1,hfz8_0,hfz8_1⟩:=bx2_ BK271)|((with_reducible refine gate_callee (f:=89) rfl ?_);refine goesL_ (some 5) rfl rfl Try.func89 Q2 rfl #[.int .i64 a0_0,.int .i64 0,.int .i64 7] rfl Q50 ?_;(with_reducible refine (spec_l6In.calls a0_0 0 7 false _ A2.out).mono ?_);rintro e w' ⟨rfl,⟨nd,rfl⟩⟩;refine ⟨_,rfl,?_⟩))
  go_ret
  exact ⟨Q11,by repeat (first|(with_reducible first|exact HB.out|apply below_alloc|apply pw_below_drewN|apply below_drew1|refine below_set ?_ GE271.out)|exact HB.out)⟩
def spec_l2Row.f (a0_0 : Int) (a0_1 : Int) (a0_2 : Int) (a0_3 : Int) (a0_4 : Int) : Option (Bool) := (spec_l6In.f a0_0 0 3).bind fun t275 => (if t275 = true then ((spec_l6In.f a0_1 0 99).bind fun t276 => (if t276 = true then ((spec_TimeOk.f a0_2 a0_3).bind fun t277 => (if t277 = true then ((spec_l6In.f a0_4 (-99999) 99999).bind fun t278 => (some t278)) else (some false))) else (some false))) else (some false))
set_option maxHeartbeats 8000000 in
set_option maxRecDepth 100000 in
theorem spec_l2Row.calls (a0_0 : Int) (a0_1 : Int) (a0_2 : Int) (a0_3 : Int) (a0_4 : Int) (r : Bool) (w : World) (h : spec_l2Row.f a0_0 a0_1 a0_2 a0_3 a0_4 = some r) :
  Calls Try.prog 59 #[.agg #[.int .i64 a0_0,.int .i64 a0_1,.int .i64 a0_2,.int .i64 a0_3,.int .i64 a0_4]] w fun e w'=>e = .returned (.bool r) ∧ Below w.heap.size w w':=by
 have hu38:=Try.underlying38
 have hu36:=Try.underlying36
 have HB:=Aside0.mk (Below.refl w.heap.size w)
 have H : ((spec_l6In.f a0_0 0 3).bind fun t275=>(if t275 = true then ((spec_l6In.f a0_1 0 99).bind fun t276=>(if t276 = true then ((spec_TimeOk.f a0_2 a0_3).bind fun t277=>(if t277 = true then ((spec_l6In.f a0_4 (-99999) 99999).bind fun t278=>(some t278)) else (some false))) else (some false))) else (some false))) = some r:=h
 clear h
 replace H:=Option.bind_eq_some_iff.mp H
 obtain ⟨t275,A20,H⟩:=H
 replace H : (if t275 = true then ((spec_l6In.f a0_1 0 99).bind fun t276=>(if t276 = true then ((spec_TimeOk.f a0_2 a0_3).bind fun t277=>(if t277 = true then ((spec_l6In.f a0_4 (-99999) 99999).bind fun t278=>(some t278)) else (some false))) else (some false))) else (some false)) = some r:=H
 have A2:=Aside0.mk A20
 clear A20
 by_cases c3 : t275 = true
 ·subst c3
  have H1 : ((spec_l6In.f a0_1 0 99).bind fun t276=>(if t276 = true then ((spec_TimeOk.f a0_2 a0_3).bind fun t277=>(if t277 = true then ((spec_l6In.f a0_4 (-99999) 99999).bind fun t278=>(some t278)) else (some false))) else (some false))) = some r:=by rw [if_pos rfl] at H;exact H
  clear H
  have H:=H1
  clear H1
  replace H:=Option.bind_eq_some_iff.mp H
  obtain ⟨t276,A40,H⟩:=H
  replace H : (if t276 = true then ((spec_TimeOk.f a0_2 a0_3).bind fun t277=>(if t277 = true then ((spec_l6In.f a0_4 (-99999) 99999).bind fun t278=>(some t278)) else (some false))) else (some false)) = some r:=H
  have A4:=Aside0.mk A40
  clear A40
  by_cases c5 : t276 = true
  ·subst c5
   have H1 : ((spec_TimeOk.f a0_2 a0_3).bind fun t277=>(if t277 = true then ((spec_l6In.f a0_4 (-99999) 99999).bind fun t278=>(some t278)) else (some false))) = some r:=by rw [if_pos rfl] at H;exact H
   clear H
   have H:=H1
   clear H1
   replace H:=Option.bind_eq_some_iff.mp H
   obtain ⟨t277,A60,H⟩:=H
   replace H : (if t277 = true then ((spec_l6In.f a0_4 (-99999) 99999).bind fun t278=>(some t278)) else (some false)) = some r:=H
   have A6:=Aside0.mk A60
   clear A60
   by_cases c7 : t277 = true
   ·subst c7
    have H1 : ((spec_l6In.f a0_4 (-99999) 99999).bind fun t278=>(some t278)) = some r:=by rw [if_pos rfl] at H;exact H
    clear H
    have H:=H1
    clear H1
    replace H:=Option.bind_eq_some_iff.mp H
    obtain ⟨t278,A80,H⟩:=H
    replace H : (some t278) = some r:=H
    have A8:=Aside0.mk A80
    clear A80
    obtain rfl:=Option.some.inj H
    go_enter Try.func59,Try.ntmps59
    go_wp2_with (first|((with_reducible refine gate_dst (N:=1) rfl ?_);refine box_event ?hg (N:=1) ?hd (cs:=#[.int .i64 a0_0,.int .i64 a0_1,.int .i64 a0_2,.int .i64 a0_3,.int .i64 a0_4]) (t:=38) ?hr ?_;(case hd=>rfl);(case hg=>rfl);(case hr=>first|(go_simp;done)|(go_simp;rfl));intro gb274 hg w9 hbox hb;have n0_:=Aside0.mk (below_step Q46 hb);have n1_:=Aside0.mk (hbox);have n2_:=Aside0.mk ((Q106 : w.heap.size ≤ gb274));have n3_:=n2_;clear HB;have HB:=n0_;have BK274:=n1_;have GW274:=n2_;have GE274:=n3_;clear n0_ n1_ n2_ n3_;clear hb hbox hg;obtain ⟨hcz10_0,hcz10_1,hcz10_2,hcz10_3,hcz10_4,hfz10_0,hfz10_1,hfz10_2,hfz10_3,hfz10_4⟩:=bx5_ BK274)|((with_reducible refine gate_callee (f:=89) rfl ?_);refine goesL_ (some 5) rfl rfl Try.func89 Q2 rfl #[.int .i64 a0_0,.int .i64 0,.int .i64 3] rfl Q50 ?_;(with_reducible refine (spec_l6In.calls a0_0 0 3 true _ A2.out).mono ?_);rintro e w' ⟨rfl,⟨nd,rfl⟩⟩;refine ⟨_,rfl,?_⟩)|(go_at_call 89;(with_reducible refine (spec_l6In.calls a0_1 0 99 true _ A4.out).mono ?_);rintro e w' ⟨rfl,⟨nd,rfl⟩⟩)|(go_at_call 60;(with_reducible refine (spec_TimeOk.calls a0_2 a0_3 true _ A6.out).mono ?_);rintro e w11 ⟨rfl,hb⟩;have n0_:=Aside0.mk (blk_below (g:=gb274) (o:=.cells #[.int .i64 a0_0,.int .i64 a0_1,.int .i64 a0_2,.int .i64 a0_3,.int .i64 a0_4] 38 (0,0)) (by (with_reducible repeat (first|refine blk_drewN ?_ _|refine blk_drew ?_|refine blk_alloc ?_ _));exact BK274.out) hb);have n1_:=Aside0.mk (below_step Q57 hb);clear BK274;clear HB;have BK274:=n0_;have HB:=n1_;clear n0_ n1_;(try clear hb);(try clear hb2);(try clear hk);(try clear hi);obtain ⟨hcz12_0,hcz12_1,hcz12_2,hcz12_3,hcz12_4,hfz12_0,hfz12_1,hfz12_2,hfz12_3,hfz12_4⟩:=bx5_ BK274)|(go_at_call 89;(with_reducible refine (spec_l6In.calls a0_4 (-99999) 99999 t278 _ A8.out).mono ?_);rintro e w' ⟨rfl,⟨nd,rfl⟩⟩))
    go_ret
    exact ⟨Q11,Q57⟩
   ·replace c7:=Bool.eq_false_iff.mpr c7
    subst c7
    have H1 : (some false) = some r:=by rw [if_neg (show ¬ (false = true) by decide)] at H;exact H
    clear H
    have H:=H1
    clear H1
    obtain rfl:=Option.some.inj H
    go_enter Try.func59,Try.ntmps59
    go_wp2_with (first|((with_reducible refine gate_dst (N:=1) rfl ?_);refine box_event ?hg (N:=1) ?hd (cs:=#[.int .i64 a0_0,.int .i64 a0_1,.int .i64 a0_2,.int .i64 a0_3,.int .i64 a0_4]) (t:=38) ?hr ?_;(case hd=>rfl);(case hg=>rfl);(case hr=>first|(go_simp;done)|(go_simp;rfl));intro gb274 hg w13 hbox hb;have n0_:=Aside0.mk (below_step Q46 hb);have n1_:=Aside0.mk (hbox);have n2_:=Aside0.mk ((Q106 : w.heap.size ≤ gb274));have n3_:=n2_;clear HB;have HB:=n0_;have BK274:=n1_;have GW274:=n2_;have GE274:=n3_;clear n0_ n1_ n2_ n3_;clear hb hbox hg;obtain ⟨hcz14_0,hcz14_1,hcz14_2,hcz14_3,hcz14_4,hfz14_0,hfz14_1,hfz14_2,hfz14_3,hfz14_4⟩:=bx5_ BK274)|((with_reducible refine gate_callee (f:=89) rfl ?_);refine goesL_ (some 5) rfl rfl Try.func89 Q2 rfl #[.int .i64 a0_0,.int .i64 0,.int .i64 3] rfl Q50 ?_;(with_reducible refine (spec_l6In.calls a0_0 0 3 true _ A2.out).mono ?_);rintro e w' ⟨rfl,⟨nd,rfl⟩⟩;refine ⟨_,rfl,?_⟩)|(go_at_call 89;(with_reducible refine (spec_l6In.calls a0_1 0 99 true _ A4.out).mono ?_);rintro e w' ⟨rfl,⟨nd,rfl⟩⟩)|(go_at_call 60;(with_reducible refine (spec_TimeOk.calls a0_2 a0_3 false _ A6.out).mono ?_);rintro e w15 ⟨rfl,hb⟩;have n0_:=Aside0.mk (blk_below (g:=gb274) (o:=.cells #[.int .i64 a0_0,.int .i64 a0_1,.int .i64 a0_2,.int .i64 a0_3,.int .i64 a0_4] 38 (0,0)) (by (with_reducible repeat (first|refine blk_drewN ?_ _|refine blk_drew ?_|refine blk_alloc ?_ _));exact BK274.out) hb);have n1_:=Aside0.mk (below_step Q57 hb);clear BK274;clear HB;have BK274:=n0_;have HB:=n1_;clear n0_ n1_;(try clear hb);(try clear hb2);(try clear hk);(try clear hi)))
    go_ret
    exact ⟨Q11,Q57⟩
  ·replace c5:=Bool.eq_false_iff.mpr c5
   subst c5
   have H1 : (some false) = some r:=by rw [if_neg (show ¬ (false = true) by decide)] at H;exact H
   clear H
   have H:=H1
   clear H1
   obtain rfl:=Option.some.inj H
   go_enter Try.func59,Try.ntmps59
   go_wp2_with (first|((with_reducible refine gate_dst (N:=1) rfl ?_);refine box_event ?hg (N:=1) ?hd (cs:=#[.int .i64 a0_0,.int .i64 a0_1,.int .i64 a0_2,.int .i64 a0_3,.int .i64 a0_4]) (t:=38) ?hr ?_;(case hd=>rfl);(case hg=>rfl);(case hr=>first|(go_simp;done)|(go_simp;rfl));intro gb274 hg w16 hbox hb;have n0_:=Aside0.mk (below_step Q46 hb);have n1_:=Aside0.mk (hbox);have n2_:=Aside0.mk ((Q106 : w.heap.size ≤ gb274));have n3_:=n2_;clear HB;have HB:=n0_;have BK274:=n1_;have GW274:=n2_;have GE274:=n3_;clear n0_ n1_ n2_ n3_;clear hb hbox hg;obtain ⟨hcz17_0,hcz17_1,hcz17_2,hcz17_3,hcz17_4,hfz17_0,hfz17_1,hfz17_2,hfz17_3,hfz17_4⟩:=bx5_ BK274)|((with_reducible refine gate_callee (f:=89) rfl ?_);refine goesL_ (some 5) rfl rfl Try.func89 Q2 rfl #[.int .i64 a0_0,.int .i64 0,.int .i64 3] rfl Q50 ?_;(with_reducible refine (spec_l6In.calls a0_0 0 3 true _ A2.out).mono ?_);rintro e w' ⟨rfl,⟨nd,rfl⟩⟩;refine ⟨_,rfl,?_⟩)|(go_at_call 89;(with_reducible refine (spec_l6In.calls a0_1 0 99 false _ A4.out).mono ?_);rintro e w' ⟨rfl,⟨nd,rfl⟩⟩))
   go_ret
   exact ⟨Q11,Q57⟩
 ·replace c3:=Bool.eq_false_iff.mpr c3
  subst c3
  have H1 : (some false) = some r:=by rw [if_neg (show ¬ (false = true) by decide)] at H;exact H
  clear H
  have H:=H1
  clear H1
  obtain rfl:=Option.some.inj H
  go_enter Try.func59,Try.ntmps59
  go_wp2_with (first|((with_reducible refine gate_dst (N:=1) rfl ?_);refine box_event ?hg (N:=1) ?hd (cs:=#[.int .i64 a0_0,.int .i64 a0_1,.int .i64 a0_2,.int .i64 a0_3,.int .i64 a0_4]) (t:=38) ?hr ?_;(case hd=>rfl);(case hg=>rfl);(case hr=>first|(go_simp;done)|(go_simp;rfl));intro gb274 hg w18 hbox hb;have n0_:=Aside0.mk (below_step Q46 hb);have n1_:=Aside0.mk (hbox);have n2_:=Aside0.mk ((Q106 : w.heap.size ≤ gb274));have n3_:=n2_;clear HB;have HB:=n0_;have BK274:=n1_;have GW274:=n2_;have GE274:=n3_;clear n0_ n1_ n2_ n3_;clear hb hbox hg;obtain ⟨hcz19_0,hcz19_1,hcz19_2,hcz19_3,hcz19_4,hfz19_0,hfz19_1,hfz19_2,hfz19_3,hfz19_4⟩:=bx5_ BK274)|((with_reducible refine gate_callee (f:=89) rfl ?_);refine goesL_ (some 5) rfl rfl Try.func89 Q2 rfl #[.int .i64 a0_0,.int .i64 0,.int .i64 3] rfl Q50 ?_;(with_reducible refine (spec_l6In.calls a0_0 0 3 false _ A2.out).mono ?_);rintro e w' ⟨rfl,⟨nd,rfl⟩⟩;refine ⟨_,rfl,?_⟩))
  go_ret
  exact ⟨Q11,Q57⟩
def spec_RowsOk.l0 : Nat → List (S38) → Int → Option (Bool)
 | 0, _, _ => none
 | k + 1, x0, x3 => if x3 < (x0.length : Int) then (if 0 ≤ x3 then ((spec_l2Row.f ((rd_T38 x0 x3).f0) ((rd_T38 x0 x3).f1) ((rd_T38 x0 x3).f2.f0) ((rd_T38 x0 x3).f2.f1) ((rd_T38 x0 x3).f3)).bind fun t280 => (if t280 = true then (spec_RowsOk.l0 k x0 (wrap64 (x3 + 1))) else (some false))) else (none)) else (some true)
def spec_RowsOk.f (k : Nat) (l0 : List (S38)) : Option (Bool) := if (l0.length : Int) > 400 then (some false) else (spec_RowsOk.l0 k l0 0)
theorem spec_RowsOk.mono_l : ∀ k,(∀ y0 y1,LeO (spec_RowsOk.l0 k y0 y1) (spec_RowsOk.l0 (k + 1) y0 y1))
 | 0=>fun _ _ r h=>by simp [spec_RowsOk.l0] at h
 | k + 1=>by
  have ih0:=spec_RowsOk.mono_l k
  ·intro y0 y1
   unfold spec_RowsOk.l0
   repeat' first
   | (with_reducible exact ih0 _ _)
   | (with_reducible exact LeO.refl _)
   | (with_reducible exact LeO.none _)
   | (with_reducible refine LeO.ite ?_ ?_)
   | (with_reducible refine LeO.bind ?_ (fun _=>?_))
   | exact ih0 _ _
   | exact LeO.none _
   | refine LeO.ite ?_ ?_
   | refine LeO.bind ?_ (fun _=>?_)
theorem spec_RowsOk.mono : ∀ a0 k,LeO (spec_RowsOk.f k a0) (spec_RowsOk.f (k + 1) a0):=by
 intro a0 k
 have ih0:=spec_RowsOk.mono_l k
 unfold spec_RowsOk.f
 repeat' first
   | (with_reducible exact ih0 _ _)
   | (with_reducible exact LeO.refl _)
   | (with_reducible exact LeO.none _)
   | (with_reducible refine LeO.ite ?_ ?_)
   | (with_reducible refine LeO.bind ?_ (fun _=>?_))
   | exact ih0 _ _
   | exact LeO.none _
   | refine LeO.ite ?_ ?_
   | refine LeO.bind ?_ (fun _=>?_)
set_option maxHeartbeats 8000000 in
set_option maxRecDepth 100000 in
theorem spec_RowsOk.calls (k : Nat) (A0 : Option Addr) (c0 : Nat) (l0 : List (S38)) (r : Bool) (w : World) (hr0 : Kd.C k38 w A0 l0.length l0) (hc0 : l0.length ≤ c0) (h : spec_RowsOk.f k l0 = some r) :
  Calls Try.prog 20 #[.slice A0 l0.length c0] w fun e w'=>e = .returned (.bool r) ∧ Below w.heap.size w w':=by
 have hu38:=Try.underlying38
 have HR0:=Aside0.mk hr0
 have HC0:=Aside0.mk hc0
 clear hr0 hc0
 have HB:=Aside0.mk (Below.refl w.heap.size w)
 have H : (if (l0.length : Int) > 400 then (some false) else (spec_RowsOk.l0 k l0 0)) = some r:=h
 clear h
 by_cases c2 : (l0.length : Int) > 400
 ·rw [if_pos c2] at H
  have c2b0 : decide (400 < (l0.length : Int)) = true:=decide_eq_true c2
  have c2b1 : decide (400 < l0.length) = true:=decide_eq_true (by omega)
  clear c2
  obtain rfl:=Option.some.inj H
  go_enter Try.func20,Try.ntmps20
  go_wp2
  go_ret
  exact ⟨Q11,Q46⟩
 ·rw [if_neg c2] at H
  have c2b0 : decide (400 < (l0.length : Int)) = false:=decide_eq_false c2
  have c2b1 : decide (400 < l0.length) = false:=decide_eq_false (by omega)
  clear c2
  have H':=Aside0.mk H
  clear H
  go_enter Try.func20,Try.ntmps20
  go_wp2
  go_loopg [3] k (fun kq v3 w'=>∃ (x3_1 : Int),v3 = .int .i64 x3_1 ∧ Aside0 (spec_RowsOk.l0 kq l0 x3_1 = some r) ∧ Aside0 (kq ≤ k) ∧ Aside0 (Below w.heap.size w w'))
  case atStart=>exact ⟨(0),Q7,H',⟨Nat.le_refl _⟩,⟨Q46⟩⟩
  case round =>
   clear H'
   try clear c2
   try clear c2b0
   try clear c2b1
   try clear p2
   obtain ⟨x3_1,rfl,HA,HK1,HB⟩:=hrel
   cases gk with
   | zero=>exact absurd HA.out (by simp [spec_RowsOk.l0])
   | succ k1 =>
    have H:=HA.out
    clear HA
    simp only [spec_RowsOk.l0] at H
    by_cases c3 : x3_1 < (l0.length : Int)
    ·rw [if_pos c3] at H
     have c3b0 : decide (x3_1 < (l0.length : Int)) = true:=decide_eq_true c3
     clear c3
     by_cases c4 : 0 ≤ x3_1
     ·rw [if_pos c4] at H
      have c4b0 : decide (0 ≤ x3_1) = true:=decide_eq_true c4
      clear c4
      replace H:=Option.bind_eq_some_iff.mp H
      obtain ⟨t280,A50,H⟩:=H
      replace H : (if t280 = true then (spec_RowsOk.l0 k1 l0 (wrap64 (x3_1 + 1))) else (some false)) = some r:=H
      have A5:=Aside0.mk A50
      clear A50
      by_cases c6 : t280 = true
      ·subst c6
       have H1 : (spec_RowsOk.l0 k1 l0 (wrap64 (x3_1 + 1))) = some r:=by rw [if_pos rfl] at H;exact H
       clear H
       have H:=H1
       clear H1
       have H':=Aside0.mk H
       clear H
       have p279 : 0 ≤ (x3_1 : Int):=of_decide_eq_true Q8
       have q279 : x3_1 < (l0.length : Int):=of_decide_eq_true Q8
       obtain ⟨ad279,e279,hx279_0,hx279_1,hx279_2,hx279_3,hx279_4⟩:=at_T38 HR0.out x3_1 p279 q279
       cases e279
       replace hx279_0:=cb_ HB hx279_0
       replace hx279_1:=cb_ HB hx279_1
       replace hx279_2:=cb_ HB hx279_2
       replace hx279_3:=cb_ HB hx279_3
       replace hx279_4:=cb_ HB hx279_4
       replace p279:=eq_true p279
       replace q279:=eq_true q279
       go_wp2_with (first|((with_reducible refine gate_callee (f:=59) rfl ?_);refine goesL_ (some 17) rfl rfl Try.func59 Q2 rfl #[.agg #[.int .i64 ((rd_T38 l0 x3_1).f0),.int .i64 ((rd_T38 l0 x3_1).f1),.int .i64 ((rd_T38 l0 x3_1).f2.f0),.int .i64 ((rd_T38 l0 x3_1).f2.f1),.int .i64 ((rd_T38 l0 x3_1).f3)]] rfl Q50 ?_;(with_reducible refine (spec_l2Row.calls ((rd_T38 l0 x3_1).f0) ((rd_T38 l0 x3_1).f1) ((rd_T38 l0 x3_1).f2.f0) ((rd_T38 l0 x3_1).f2.f1) ((rd_T38 l0 x3_1).f3) true _ A5.out).mono ?_);rintro e w7 ⟨rfl,hb⟩;refine ⟨_,rfl,?_⟩;have n0_:=Aside0.mk (below_step Q46 hb);clear HB;have HB:=n0_;clear n0_;(try clear hb);(try clear hb2);(try clear hk);(try clear hi)))
       go_roundg k1
       case measure=>have:=HK1.out;omega
       case rel=>exact ⟨(wrap64 (x3_1 + 1)),Q7,H',⟨Q4⟩,⟨Q46⟩⟩
      ·replace c6:=Bool.eq_false_iff.mpr c6
       subst c6
       have H1 : (some false) = some r:=by rw [if_neg (show ¬ (false = true) by decide)] at H;exact H
       clear H
       have H:=H1
       clear H1
       obtain rfl:=Option.some.inj H
       have p279 : 0 ≤ (x3_1 : Int):=of_decide_eq_true Q8
       have q279 : x3_1 < (l0.length : Int):=of_decide_eq_true Q8
       obtain ⟨ad279,e279,hx279_0,hx279_1,hx279_2,hx279_3,hx279_4⟩:=at_T38 HR0.out x3_1 p279 q279
       cases e279
       replace hx279_0:=cb_ HB hx279_0
       replace hx279_1:=cb_ HB hx279_1
       replace hx279_2:=cb_ HB hx279_2
       replace hx279_3:=cb_ HB hx279_3
       replace hx279_4:=cb_ HB hx279_4
       replace p279:=eq_true p279
       replace q279:=eq_true q279
       go_wp2_with (first|((with_reducible refine gate_callee (f:=59) rfl ?_);refine goesL_ (some 17) rfl rfl Try.func59 Q2 rfl #[.agg #[.int .i64 ((rd_T38 l0 x3_1).f0),.int .i64 ((rd_T38 l0 x3_1).f1),.int .i64 ((rd_T38 l0 x3_1).f2.f0),.int .i64 ((rd_T38 l0 x3_1).f2.f1),.int .i64 ((rd_T38 l0 x3_1).f3)]] rfl Q50 ?_;(with_reducible refine (spec_l2Row.calls ((rd_T38 l0 x3_1).f0) ((rd_T38 l0 x3_1).f1) ((rd_T38 l0 x3_1).f2.f0) ((rd_T38 l0 x3_1).f2.f1) ((rd_T38 l0 x3_1).f3) false _ A5.out).mono ?_);rintro e w8 ⟨rfl,hb⟩;refine ⟨_,rfl,?_⟩;have n0_:=Aside0.mk (below_step Q46 hb);clear HB;have HB:=n0_;clear n0_;(try clear hb);(try clear hb2);(try clear hk);(try clear hi)))
       go_ret
       exact ⟨Q11,Q46⟩
     ·rw [if_neg c4] at H
      exact absurd H Q0
    ·rw [if_neg c3] at H
     have c3b0 : decide (x3_1 < (l0.length : Int)) = false:=decide_eq_false c3
     clear c3
     obtain rfl:=Option.some.inj H
     go_wp2
     go_ret
     exact ⟨Q11,Q46⟩
def impl_TimeOk.f (a0_0 : Int) (a0_1 : Int) : Option (Bool) := if a0_0 ≥ 0 then (if a0_0 ≤ 7 then (if a0_1 ≥ 0 then (some (decide (a0_1 ≤ 7))) else (some false)) else (some false)) else (some false)
set_option maxHeartbeats 8000000 in
set_option maxRecDepth 100000 in
theorem impl_TimeOk.calls (a0_0 : Int) (a0_1 : Int) (r : Bool) (w : World) (h : impl_TimeOk.f a0_0 a0_1 = some r) :
  Calls Try.prog 62 #[.agg #[.int .i64 a0_0,.int .i64 a0_1]] w fun e w'=>e = .returned (.bool r) ∧ Below w.heap.size w w':=by
 have hu36:=Try.underlying36
 have HB:=Aside0.mk (Below.refl w.heap.size w)
 have H : (if a0_0 ≥ 0 then (if a0_0 ≤ 7 then (if a0_1 ≥ 0 then (some (decide (a0_1 ≤ 7))) else (some false)) else (some false)) else (some false)) = some r:=h
 clear h
 by_cases c2 : a0_0 ≥ 0
 ·rw [if_pos c2] at H
  have c2b0 : decide (0 ≤ a0_0) = true:=decide_eq_true c2
  clear c2
  by_cases c3 : a0_0 ≤ 7
  ·rw [if_pos c3] at H
   have c3b0 : decide (a0_0 ≤ 7) = true:=decide_eq_true c3
   clear c3
   by_cases c4 : a0_1 ≥ 0
   ·rw [if_pos c4] at H
    have c4b0 : decide (0 ≤ a0_1) = true:=decide_eq_true c4
    clear c4
    obtain rfl:=Option.some.inj H
    go_enter Try.func62,Try.ntmps62
    go_wp2_with (first|((with_reducible refine gate_dst (N:=1) rfl ?_);refine box_event ?hg (N:=1) ?hd (cs:=#[.int .i64 a0_0,.int .i64 a0_1]) (t:=36) ?hr ?_;(case hd=>rfl);(case hg=>rfl);(case hr=>first|(go_simp;done)|(go_simp;rfl));intro gb281 hg w5 hbox hb;have n0_:=Aside0.mk (below_step Q46 hb);have n1_:=Aside0.mk (hbox);have n2_:=Aside0.mk ((Q106 : w.heap.size ≤ gb281));have n3_:=n2_;clear HB;have HB:=n0_;have BK281:=n1_;have GW281:=n2_;have GE281:=n3_;clear n0_ n1_ n2_ n3_;clear hb hbox hg;obtain ⟨hcz6_0,hcz6_1,hfz6_0,hfz6_1⟩:=bx2_ BK281))
    go_ret
    exact ⟨Q11,Q58⟩
   ·rw [if_neg c4] at H
    have c4b0 : decide (0 ≤ a0_1) = false:=decide_eq_false c4
    clear c4
    obtain rfl:=Option.some.inj H
    go_enter Try.func62,Try.ntmps62
    go_wp2_with (first|((with_reducible refine gate_dst (N:=1) rfl ?_);refine box_event ?hg (N:=1) ?hd (cs:=#[.int .i64 a0_0,.int .i64 a0_1]) (t:=36) ?hr ?_;(case hd=>rfl);(case hg=>rfl);(case hr=>first|(go_simp;done)|(go_simp;rfl));intro gb281 hg w7 hbox hb;have n0_:=Aside0.mk (below_step Q46 hb);have n1_:=Aside0.mk (hbox);have n2_:=Aside0.mk ((Q106 : w.heap.size ≤ gb281));have n3_:=n2_;clear HB;have HB:=n0_;have BK281:=n1_;have GW281:=n2_;have GE281:=n3_;clear n0_ n1_ n2_ n3_;clear hb hbox hg;obtain ⟨hcz8_0,hcz8_1,hfz8_0,hfz8_1⟩:=bx2_ BK281))
    go_ret
    exact ⟨Q11,Q58⟩
  ·rw [if_neg c3] at H
   have c3b0 : decide (a0_0 ≤ 7) = false:=decide_eq_false c3
   clear c3
   obtain rfl:=Option.some.inj H
   go_enter Try.func62,Try.ntmps62
   go_wp2_with (first|((with_reducible refine gate_dst (N:=1) rfl ?_);refine box_event ?hg (N:=1) ?hd (cs:=#[.int .i64 a0_0,.int .i64 a0_1]) (t:=36) ?hr ?_;(case hd=>rfl);(case hg=>rfl);(case hr=>first|(go_simp;done)|(go_simp;rfl));intro gb281 hg w9 hbox hb;have n0_:=Aside0.mk (below_step Q46 hb);have n1_:=Aside0.mk (hbox);have n2_:=Aside0.mk ((Q106 : w.heap.size ≤ gb281));have n3_:=n2_;clear HB;have HB:=n0_;have BK281:=n1_;have GW281:=n2_;have GE281:=n3_;clear n0_ n1_ n2_ n3_;clear hb hbox hg;obtain ⟨hcz10_0,hcz10_1,hfz10_0,hfz10_1⟩:=bx2_ BK281))
   go_ret
   exact ⟨Q11,Q58⟩
 ·rw [if_neg c2] at H
  have c2b0 : decide (0 ≤ a0_0) = false:=decide_eq_false c2
  clear c2
  obtain rfl:=Option.some.inj H
  go_enter Try.func62,Try.ntmps62
  go_wp2_with (first|((with_reducible refine gate_dst (N:=1) rfl ?_);refine box_event ?hg (N:=1) ?hd (cs:=#[.int .i64 a0_0,.int .i64 a0_1]) (t:=36) ?hr ?_;(case hd=>rfl);(case hg=>rfl);(case hr=>first|(go_simp;done)|(go_simp;rfl));intro gb281 hg w11 hbox hb;have n0_:=Aside0.mk (below_step Q46 hb);have n1_:=Aside0.mk (hbox);have n2_:=Aside0.mk ((Q106 : w.heap.size ≤ gb281));have n3_:=n2_;clear HB;have HB:=n0_;have BK281:=n1_;have GW281:=n2_;have GE281:=n3_;clear n0_ n1_ n2_ n3_;clear hb hbox hg;obtain ⟨hcz12_0,hcz12_1,hfz12_0,hfz12_1⟩:=bx2_ BK281))
  go_ret
  exact ⟨Q11,Q58⟩
def impl_RowsOk.l0 : Nat → List (S38) → List (S38) → Int → Int → Option (Bool)
 | 0, _, _, _, _ => none
 | k + 1, x0, x5, x6, x7 => if x7 < x6 then (if 0 ≤ x7 then (if x7 < (x5.length : Int) then (if ((rd_T38 x5 x7).f0) < 0 then (some false) else (if ((rd_T38 x5 x7).f0) ≥ 4 then (some false) else (if ((rd_T38 x5 x7).f1) < 0 then (some false) else (if ((rd_T38 x5 x7).f1) ≥ 100 then (some false) else ((impl_TimeOk.f ((rd_T38 x5 x7).f2.f0) ((rd_T38 x5 x7).f2.f1)).bind fun t284 => (if t284 = true then (if ((rd_T38 x5 x7).f3) < (-99999) then (some false) else (if ((rd_T38 x5 x7).f3) > 99999 then (some false) else (impl_RowsOk.l0 k x0 x5 x6 (wrap64 (x7 + 1))))) else (some false))))))) else (none)) else (none)) else (some (decide ((x0.length : Int) ≤ 400)))
def impl_RowsOk.f (k : Nat) (l0 : List (S38)) : Option (Bool) := impl_RowsOk.l0 k l0 l0 (l0.length : Int) 0
theorem impl_RowsOk.mono_l : ∀ k,(∀ y0 y1 y2 y3,LeO (impl_RowsOk.l0 k y0 y1 y2 y3) (impl_RowsOk.l0 (k + 1) y0 y1 y2 y3))
 | 0=>fun _ _ _ _ r h=>by simp [impl_RowsOk.l0] at h
 | k + 1=>by
  have ih0:=impl_RowsOk.mono_l k
  ·intro y0 y1 y2 y3
   unfold impl_RowsOk.l0
   repeat' first
   | (with_reducible exact ih0 _ _ _ _)
   | (with_reducible exact LeO.refl _)
   | (with_reducible exact LeO.none _)
   | (with_reducible refine LeO.ite ?_ ?_)
   | (with_reducible refine LeO.bind ?_ (fun _=>?_))
   | exact ih0 _ _ _ _
   | exact LeO.none _
   | refine LeO.ite ?_ ?_
   | refine LeO.bind ?_ (fun _=>?_)
theorem impl_RowsOk.mono : ∀ a0 k,LeO (impl_RowsOk.f k a0) (impl_RowsOk.f (k + 1) a0):=by
 intro a0 k
 have ih0:=impl_RowsOk.mono_l k
 unfold impl_RowsOk.f
 repeat' first
   | (with_reducible exact ih0 _ _ _ _)
   | (with_reducible exact LeO.refl _)
   | (with_reducible exact LeO.none _)
   | (with_reducible refine LeO.ite ?_ ?_)
   | (with_reducible refine LeO.bind ?_ (fun _=>?_))
   | exact ih0 _ _ _ _
   | exact LeO.none _
   | refine LeO.ite ?_ ?_
   | refine LeO.bind ?_ (fun _=>?_)
set_option maxHeartbeats 8000000 in
set_option maxRecDepth 100000 in
theorem impl_RowsOk.calls (k : Nat) (A0 : Option Addr) (c0 : Nat) (l0 : List (S38)) (r : Bool) (w : World) (hr0 : Kd.C k38 w A0 l0.length l0) (hc0 : l0.length ≤ c0) (h : impl_RowsOk.f k l0 = some r) :
  Calls Try.prog 39 #[.slice A0 l0.length c0] w fun e w'=>e = .returned (.bool r) ∧ Below w.heap.size w w':=by
 have hu38:=Try.underlying38
 have hu36:=Try.underlying36
 have HR0:=Aside0.mk hr0
 have HC0:=Aside0.mk hc0
 clear hr0 hc0
 have HB:=Aside0.mk (Below.refl w.heap.size w)
 have H : (impl_RowsOk.l0 k l0 l0 (l0.length : Int) 0) = some r:=h
 clear h
 have H':=Aside0.mk H
 clear H
 go_enter Try.func39,Try.ntmps39
 go_wp2
 go_loopg [7] k (fun kq v7 w'=>∃ (x7_1 : Int),v7 = .int .i64 x7_1 ∧ Aside0 (impl_RowsOk.l0 kq l0 l0 (l0.length : Int) x7_1 = some r) ∧ Aside0 (kq ≤ k) ∧ Aside0 (Below w.heap.size w w'))
 case atStart=>exact ⟨(0),Q7,H',⟨Nat.le_refl _⟩,⟨Q46⟩⟩
 case round =>
  clear H'
  obtain ⟨x7_1,rfl,HA,HK1,HB⟩:=hrel
  cases gk with
  | zero=>exact absurd HA.out (by simp [impl_RowsOk.l0])
  | succ k1 =>
   have H:=HA.out
   clear HA
   simp only [impl_RowsOk.l0] at H
   by_cases c2 : x7_1 < (l0.length : Int)
   ·rw [if_pos c2] at H
    have c2b0 : decide (x7_1 < (l0.length : Int)) = true:=decide_eq_true c2
    clear c2
    by_cases c3 : 0 ≤ x7_1
    ·rw [if_pos c3] at H
     have c3b0 : decide (0 ≤ x7_1) = true:=decide_eq_true c3
     clear c3
     by_cases c4 : x7_1 < (l0.length : Int)
     ·rw [if_pos c4] at H
      have c4b0 : decide (x7_1 < (l0.length : Int)) = true:=decide_eq_true c4
      clear c4
      by_cases c5 : ((rd_T38 l0 x7_1).f0) < 0
      ·rw [if_pos c5] at H
       have c5b0 : decide (((rd_T38 l0 x7_1).f0) < 0) = true:=decide_eq_true c5
       clear c5
       obtain rfl:=Option.some.inj H
       have p282 : 0 ≤ (x7_1 : Int):=of_decide_eq_true Q8
       have q282 : x7_1 < (l0.length : Int):=of_decide_eq_true Q8
       obtain ⟨ad282,e282,hx282_0,hx282_1,hx282_2,hx282_3,hx282_4⟩:=at_T38 HR0.out x7_1 p282 q282
       cases e282
       replace hx282_0:=cb_ HB hx282_0
       replace hx282_1:=cb_ HB hx282_1
       replace hx282_2:=cb_ HB hx282_2
       replace hx282_3:=cb_ HB hx282_3
       replace hx282_4:=cb_ HB hx282_4
       replace p282:=eq_true p282
       replace q282:=eq_true q282
       go_wp2_with (first|((with_reducible refine gate_dst (N:=4) rfl ?_);refine box_event ?hg (N:=4) ?hd (cs:=#[.int .i64 0,.int .i64 0,.int .i64 0,.int .i64 0,.int .i64 0]) (t:=38) ?hr ?_;(case hd=>rfl);(case hg=>rfl);(case hr=>first|(go_simp;done)|(go_simp;rfl));intro gb283 hg w6 hbox hb;have n0_:=Aside0.mk (below_step Q46 hb);have n1_:=Aside0.mk (hbox);have n2_:=Aside0.mk ((Q106 : w.heap.size ≤ gb283));have n3_:=n2_;clear HB;have HB:=n0_;have BK283:=n1_;have GW283:=n2_;have GE283:=n3_;clear n0_ n1_ n2_ n3_;clear hb hbox hg;obtain ⟨hcz7_0,hcz7_1,hcz7_2,hcz7_3,hcz7_4,hfz7_0,hfz7_1,hfz7_2,hfz7_3,hfz7_4⟩:=bx5_ BK283))
       go_ret
       exact ⟨Q11,Q59⟩
      ·rw [if_neg c5] at H
       have c5b0 : decide (((rd_T38 l0 x7_1).f0) < 0) = false:=decide_eq_false c5
       clear c5
       by_cases c8 : ((rd_T38 l0 x7_1).f0) ≥ 4
       ·rw [if_pos c8] at H
        have c8b0 : decide (4 ≤ ((rd_T38 l0 x7_1).f0)) = true:=decide_eq_true c8
        clear c8
        obtain rfl:=Option.some.inj H
        have p282 : 0 ≤ (x7_1 : Int):=of_decide_eq_true Q8
        have q282 : x7_1 < (l0.length : Int):=of_decide_eq_true Q8
        obtain ⟨ad282,e282,hx282_0,hx282_1,hx282_2,hx282_3,hx282_4⟩:=at_T38 HR0.out x7_1 p282 q282
        cases e282
        replace hx282_0:=cb_ HB hx282_0
        replace hx282_1:=cb_ HB hx282_1
        replace hx282_2:=cb_ HB hx282_2
        replace hx282_3:=cb_ HB hx282_3
        replace hx282_4:=cb_ HB hx282_4
        replace p282:=eq_true p282
        replace q282:=eq_true q282
        go_wp2_with (first|((with_reducible refine gate_dst (N:=4) rfl ?_);refine box_event ?hg (N:=4) ?hd (cs:=#[.int .i64 0,.int .i64 0,.int .i64 0,.int .i64 0,.int .i64 0]) (t:=38) ?hr ?_;(case hd=>rfl);(case hg=>rfl);(case hr=>first|(go_simp;done)|(go_simp;rfl));intro gb283 hg w9 hbox hb;have n0_:=Aside0.mk (below_step Q46 hb);have n1_:=Aside0.mk (hbox);have n2_:=Aside0.mk ((Q106 : w.heap.size ≤ gb283));have n3_:=n2_;clear HB;have HB:=n0_;have BK283:=n1_;have GW283:=n2_;have GE283:=n3_;clear n0_ n1_ n2_ n3_;clear hb hbox hg;obtain ⟨hcz10_0,hcz10_1,hcz10_2,hcz10_3,hcz10_4,hfz10_0,hfz10_1,hfz10_2,hfz10_3,hfz10_4⟩:=bx5_ BK283))
        go_ret
        exact ⟨Q11,Q59⟩
       ·rw [if_neg c8] at H
        have c8b0 : decide (4 ≤ ((rd_T38 l0 x7_1).f0)) = false:=decide_eq_false c8
        clear c8
        by_cases c11 : ((rd_T38 l0 x7_1).f1) < 0
        ·rw [if_pos c11] at H
         have c11b0 : decide (((rd_T38 l0 x7_1).f1) < 0) = true:=decide_eq_true c11
         clear c11
         obtain rfl:=Option.some.inj H
         have p282 : 0 ≤ (x7_1 : Int):=of_decide_eq_true Q8
         have q282 : x7_1 < (l0.length : Int):=of_decide_eq_true Q8
         obtain ⟨ad282,e282,hx282_0,hx282_1,hx282_2,hx282_3,hx282_4⟩:=at_T38 HR0.out x7_1 p282 q282
         cases e282
         replace hx282_0:=cb_ HB hx282_0
         replace hx282_1:=cb_ HB hx282_1
         replace hx282_2:=cb_ HB hx282_2
         replace hx282_3:=cb_ HB hx282_3
         replace hx282_4:=cb_ HB hx282_4
         replace p282:=eq_true p282
         replace q282:=eq_true q282
         go_wp2_with (first|((with_reducible refine gate_dst (N:=4) rfl ?_);refine box_event ?hg (N:=4) ?hd (cs:=#[.int .i64 0,.int .i64 0,.int .i64 0,.int .i64 0,.int .i64 0]) (t:=38) ?hr ?_;(case hd=>rfl);(case hg=>rfl);(case hr=>first|(go_simp;done)|(go_simp;rfl));intro gb283 hg w12 hbox hb;have n0_:=Aside0.mk (below_step Q46 hb);have n1_:=Aside0.mk (hbox);have n2_:=Aside0.mk ((Q106 : w.heap.size ≤ gb283));have n3_:=n2_;clear HB;have HB:=n0_;have BK283:=n1_;have GW283:=n2_;have GE283:=n3_;clear n0_ n1_ n2_ n3_;clear hb hbox hg;obtain ⟨hcz13_0,hcz13_1,hcz13_2,hcz13_3,hcz13_4,hfz13_0,hfz13_1,hfz13_2,hfz13_3,hfz13_4⟩:=bx5_ BK283))
         go_ret
         exact ⟨Q11,Q59⟩
        ·rw [if_neg c11] at H
         have c11b0 : decide (((rd_T38 l0 x7_1).f1) < 0) = false:=decide_eq_false c11
         clear c11
         by_cases c14 : ((rd_T38 l0 x7_1).f1) ≥ 100
         ·rw [if_pos c14] at H
          have c14b0 : decide (100 ≤ ((rd_T38 l0 x7_1).f1)) = true:=decide_eq_true c14
          clear c14
          obtain rfl:=Option.some.inj H
          have p282 : 0 ≤ (x7_1 : Int):=of_decide_eq_true Q8
          have q282 : x7_1 < (l0.length : Int):=of_decide_eq_true Q8
          obtain ⟨ad282,e282,hx282_0,hx282_1,hx282_2,hx282_3,hx282_4⟩:=at_T38 HR0.out x7_1 p282 q282
          cases e282
          replace hx282_0:=cb_ HB hx282_0
          replace hx282_1:=cb_ HB hx282_1
          replace hx282_2:=cb_ HB hx282_2
          replace hx282_3:=cb_ HB hx282_3
          replace hx282_4:=cb_ HB hx282_4
          replace p282:=eq_true p282
          replace q282:=eq_true q282
          go_wp2_with (first|((with_reducible refine gate_dst (N:=4) rfl ?_);refine box_event ?hg (N:=4) ?hd (cs:=#[.int .i64 0,.int .i64 0,.int .i64 0,.int .i64 0,.int .i64 0]) (t:=38) ?hr ?_;(case hd=>rfl);(case hg=>rfl);(case hr=>first|(go_simp;done)|(go_simp;rfl));intro gb283 hg w15 hbox hb;have n0_:=Aside0.mk (below_step Q46 hb);have n1_:=Aside0.mk (hbox);have n2_:=Aside0.mk ((Q106 : w.heap.size ≤ gb283));have n3_:=n2_;clear HB;have HB:=n0_;have BK283:=n1_;have GW283:=n2_;have GE283:=n3_;clear n0_ n1_ n2_ n3_;clear hb hbox hg;obtain ⟨hcz16_0,hcz16_1,hcz16_2,hcz16_3,hcz16_4,hfz16_0,hfz16_1,hfz16_2,hfz16_3,hfz16_4⟩:=bx5_ BK283))
          go_ret
          exact ⟨Q11,Q59⟩
         ·rw [if_neg c14] at H
          have c14b0 : decide (100 ≤ ((rd_T38 l0 x7_1).f1)) = false:=decide_eq_false c14
          clear c14
          replace H:=Option.bind_eq_some_iff.mp H
          obtain ⟨t284,A170,H⟩:=H
          replace H : (if t284 = true then (if ((rd_T38 l0 x7_1).f3) < (-99999) then (some false) else (if ((rd_T38 l0 x7_1).f3) > 99999 then (some false) else (impl_RowsOk.l0 k1 l0 l0 (l0.length : Int) (wrap64 (x7_1 + 1))))) else (some false)) = some r:=H
          have A17:=Aside0.mk A170
          clear A170
          by_cases c18 : t284 = true
          ·subst c18
           have H1 : (if ((rd_T38 l0 x7_1).f3) < (-99999) then (some false) else (if ((rd_T38 l0 x7_1).f3) > 99999 then (some false) else (impl_RowsOk.l0 k1 l0 l0 (l0.length : Int) (wrap64 (x7_1 + 1))))) = some r:=by rw [if_pos rfl] at H;exact H
           clear H
           have H:=H1
           clear H1
           by_cases c19 : ((rd_T38 l0 x7_1).f3) < (-99999)
           ·rw [if_pos c19] at H
            have c19b0 : decide (((rd_T38 l0 x7_1).f3) < (-99999)) = true:=decide_eq_true c19
            clear c19
            obtain rfl:=Option.some.inj H
            have p282 : 0 ≤ (x7_1 : Int):=of_decide_eq_true Q8
            have q282 : x7_1 < (l0.length : Int):=of_decide_eq_true Q8
            obtain ⟨ad282,e282,hx282_0,hx282_1,hx282_2,hx282_3,hx282_4⟩:=at_T38 HR0.out x7_1 p282 q282
            cases e282
            replace hx282_0:=cb_ HB hx282_0
            replace hx282_1:=cb_ HB hx282_1
            replace hx282_2:=cb_ HB hx282_2
            replace hx282_3:=cb_ HB hx282_3
            replace hx282_4:=cb_ HB hx282_4
            replace p282:=eq_true p282
            replace q282:=eq_true q282
            go_wp2_with (first|((with_reducible refine gate_dst (N:=4) rfl ?_);refine box_event ?hg (N:=4) ?hd (cs:=#[.int .i64 0,.int .i64 0,.int .i64 0,.int .i64 0,.int .i64 0]) (t:=38) ?hr ?_;(case hd=>rfl);(case hg=>rfl);(case hr=>first|(go_simp;done)|(go_simp;rfl));intro gb283 hg w20 hbox hb;have n0_:=Aside0.mk (below_step Q46 hb);have n1_:=Aside0.mk (hbox);have n2_:=Aside0.mk ((Q106 : w.heap.size ≤ gb283));have n3_:=n2_;clear HB;have HB:=n0_;have BK283:=n1_;have GW283:=n2_;have GE283:=n3_;clear n0_ n1_ n2_ n3_;clear hb hbox hg;obtain ⟨hcz21_0,hcz21_1,hcz21_2,hcz21_3,hcz21_4,hfz21_0,hfz21_1,hfz21_2,hfz21_3,hfz21_4⟩:=bx5_ BK283)|(go_at_call 62;(with_reducible refine (impl_TimeOk.calls ((rd_T38 l0 x7_1).f2.f0) ((rd_T38 l0 x7_1).f2.f1) true _ A17.out).mono ?_);rintro e w22 ⟨rfl,hb⟩;have n0_:=Aside0.mk (blk_below (g:=gb283) (o:=.cells #[.int .i64 ((rd_T38 l0 x7_1).f0),.int .i64 ((rd_T38 l0 x7_1).f1),.int .i64 ((rd_T38 l0 x7_1).f2.f0),.int .i64 ((rd_T38 l0 x7_1).f2.f1),.int .i64 ((rd_T38 l0 x7_1).f3)] 38 (0,0)) Q104 hb);have n1_:=Aside0.mk (below_step Q59 hb);clear BK283;clear HB;have BK283:=n0_;have HB:=n1_;clear n0_ n1_;(try clear hb);(try clear hb2);(try clear hk);(try clear hi);obtain ⟨hcz23_0,hcz23_1,hcz23_2,hcz23_3,hcz23_4,hfz23_0,hfz23_1,hfz23_2,hfz23_3,hfz23_4⟩:=bx5_ BK283))
            go_ret
            exact ⟨Q11,Q59⟩
           ·rw [if_neg c19] at H
            have c19b0 : decide (((rd_T38 l0 x7_1).f3) < (-99999)) = false:=decide_eq_false c19
            clear c19
            by_cases c24 : ((rd_T38 l0 x7_1).f3) > 99999
            ·rw [if_pos c24] at H
             have c24b0 : decide (99999 < ((rd_T38 l0 x7_1).f3)) = true:=decide_eq_true c24
             clear c24
             obtain rfl:=Option.some.inj H
             have p282 : 0 ≤ (x7_1 : Int):=of_decide_eq_true Q8
             have q282 : x7_1 < (l0.length : Int):=of_decide_eq_true Q8
             obtain ⟨ad282,e282,hx282_0,hx282_1,hx282_2,hx282_3,hx282_4⟩:=at_T38 HR0.out x7_1 p282 q282
             cases e282
             replace hx282_0:=cb_ HB hx282_0
             replace hx282_1:=cb_ HB hx282_1
             replace hx282_2:=cb_ HB hx282_2
             replace hx282_3:=cb_ HB hx282_3
             replace hx282_4:=cb_ HB hx282_4
             replace p282:=eq_true p282
             replace q282:=eq_true q282
             go_wp2_with (first|((with_reducible refine gate_dst (N:=4) rfl ?_);refine box_event ?hg (N:=4) ?hd (cs:=#[.int .i64 0,.int .i64 0,.int .i64 0,.int .i64 0,.int .i64 0]) (t:=38) ?hr ?_;(case hd=>rfl);(case hg=>rfl);(case hr=>first|(go_simp;done)|(go_simp;rfl));intro gb283 hg w25 hbox hb;have n0_:=Aside0.mk (below_step Q46 hb);have n1_:=Aside0.mk (hbox);have n2_:=Aside0.mk ((Q106 : w.heap.size ≤ gb283));have n3_:=n2_;clear HB;have HB:=n0_;have BK283:=n1_;have GW283:=n2_;have GE283:=n3_;clear n0_ n1_ n2_ n3_;clear hb hbox hg;obtain ⟨hcz26_0,hcz26_1,hcz26_2,hcz26_3,hcz26_4,hfz26_0,hfz26_1,hfz26_2,hfz26_3,hfz26_4⟩:=bx5_ BK283)|(go_at_call 62;(with_reducible refine (impl_TimeOk.calls ((rd_T38 l0 x7_1).f2.f0) ((rd_T38 l0 x7_1).f2.f1) true _ A17.out).mono ?_);rintro e w27 ⟨rfl,hb⟩;have n0_:=Aside0.mk (blk_below (g:=gb283) (o:=.cells #[.int .i64 ((rd_T38 l0 x7_1).f0),.int .i64 ((rd_T38 l0 x7_1).f1),.int .i64 ((rd_T38 l0 x7_1).f2.f0),.int .i64 ((rd_T38 l0 x7_1).f2.f1),.int .i64 ((rd_T38 l0 x7_1).f3)] 38 (0,0)) Q104 hb);have n1_:=Aside0.mk (below_step Q59 hb);clear BK283;clear HB;have BK283:=n0_;have HB:=n1_;clear n0_ n1_;(try clear hb);(try clear hb2);(try clear hk);(try clear hi);obtain ⟨hcz28_0,hcz28_1,hcz28_2,hcz28_3,hcz28_4,hfz28_0,hfz28_1,hfz28_2,hfz28_3,hfz28_4⟩:=bx5_ BK283))
             go_ret
             exact ⟨Q11,Q59⟩
            ·rw [if_neg c24] at H
             have c24b0 : decide (99999 < ((rd_T38 l0 x7_1).f3)) = false:=decide_eq_false c24
             clear c24
             have H':=Aside0.mk H
             clear H
             have p282 : 0 ≤ (x7_1 : Int):=of_decide_eq_true Q8
             have q282 : x7_1 < (l0.length : Int):=of_decide_eq_true Q8
             obtain ⟨ad282,e282,hx282_0,hx282_1,hx282_2,hx282_3,hx282_4⟩:=at_T38 HR0.out x7_1 p282 q282
             cases e282
             replace hx282_0:=cb_ HB hx282_0
             replace hx282_1:=cb_ HB hx282_1
             replace hx282_2:=cb_ HB hx282_2
             replace hx282_3:=cb_ HB hx282_3
             replace hx282_4:=cb_ HB hx282_4
             replace p282:=eq_true p282
             replace q282:=eq_true q282
             go_wp2_with (first|((with_reducible refine gate_dst (N:=4) rfl ?_);refine box_event ?hg (N:=4) ?hd (cs:=#[.int .i64 0,.int .i64 0,.int .i64 0,.int .i64 0,.int .i64 0]) (t:=38) ?hr ?_;(case hd=>rfl);(case hg=>rfl);(case hr=>first|(go_simp;done)|(go_simp;rfl));intro gb283 hg w29 hbox hb;have n0_:=Aside0.mk (below_step Q46 hb);have n1_:=Aside0.mk (hbox);have n2_:=Aside0.mk ((Q106 : w.heap.size ≤ gb283));have n3_:=n2_;clear HB;have HB:=n0_;have BK283:=n1_;have GW283:=n2_;have GE283:=n3_;clear n0_ n1_ n2_ n3_;clear hb hbox hg;obtain ⟨hcz30_0,hcz30_1,hcz30_2,hcz30_3,hcz30_4,hfz30_0,hfz30_1,hfz30_2,hfz30_3,hfz30_4⟩:=bx5_ BK283)|(go_at_call 62;(with_reducible refine (impl_TimeOk.calls ((rd_T38 l0 x7_1).f2.f0) ((rd_T38 l0 x7_1).f2.f1) true _ A17.out).mono ?_);rintro e w31 ⟨rfl,hb⟩;have n0_:=Aside0.mk (blk_below (g:=gb283) (o:=.cells #[.int .i64 ((rd_T38 l0 x7_1).f0),.int .i64 ((rd_T38 l0 x7_1).f1),.int .i64 ((rd_T38 l0 x7_1).f2.f0),.int .i64 ((rd_T38 l0 x7_1).f2.f1),.int .i64 ((rd_T38 l0 x7_1).f3)] 38 (0,0)) Q104 hb);have n1_:=Aside0.mk (below_step Q59 hb);clear BK283;clear HB;have BK283:=n0_;have HB:=n1_;clear n0_ n1_;(try clear hb);(try clear hb2);(try clear hk);(try clear hi);obtain ⟨hcz32_0,hcz32_1,hcz32_2,hcz32_3,hcz32_4,hfz32_0,hfz32_1,hfz32_2,hfz32_3,hfz32_4⟩:=bx5_ BK283))
             go_roundg k1
             case measure=>have:=HK1.out;omega
             case rel=>exact ⟨(wrap64 (x7_1 + 1)),Q7,H',⟨Q4⟩,⟨Q59⟩⟩
          ·replace c18:=Bool.eq_false_iff.mpr c18
           subst c18
           have H1 : (some false) = some r:=by rw [if_neg (show ¬ (false = true) by decide)] at H;exact H
           clear H
           have H:=H1
           clear H1
           obtain rfl:=Option.some.inj H
           have p282 : 0 ≤ (x7_1 : Int):=of_decide_eq_true Q8
           have q282 : x7_1 < (l0.length : Int):=of_decide_eq_true Q8
           obtain ⟨ad282,e282,hx282_0,hx282_1,hx282_2,hx282_3,hx282_4⟩:=at_T38 HR0.out x7_1 p282 q282
           cases e282
           replace hx282_0:=cb_ HB hx282_0
           replace hx282_1:=cb_ HB hx282_1
           replace hx282_2:=cb_ HB hx282_2
           replace hx282_3:=cb_ HB hx282_3
           replace hx282_4:=cb_ HB hx282_4
           replace p282:=eq_true p282
           replace q282:=eq_true q282
           go_wp2_with (first|((with_reducible refine gate_dst (N:=4) rfl ?_);refine box_event ?hg (N:=4) ?hd (cs:=#[.int .i64 0,.int .i64 0,.int .i64 0,.int .i64 0,.int .i64 0]) (t:=38) ?hr ?_;(case hd=>rfl);(case hg=>rfl);(case hr=>first|(go_simp;done)|(go_simp;rfl));intro gb283 hg w33 hbox hb;have n0_:=Aside0.mk (below_step Q46 hb);have n1_:=Aside0.mk (hbox);have n2_:=Aside0.mk ((Q106 : w.heap.size ≤ gb283));have n3_:=n2_;clear HB;have HB:=n0_;have BK283:=n1_;have GW283:=n2_;have GE283:=n3_;clear n0_ n1_ n2_ n3_;clear hb hbox hg;obtain ⟨hcz34_0,hcz34_1,hcz34_2,hcz34_3,hcz34_4,hfz34_0,hfz34_1,hfz34_2,hfz34_3,hfz34_4⟩:=bx5_ BK283)|(go_at_call 62;(with_reducible refine (impl_TimeOk.calls ((rd_T38 l0 x7_1).f2.f0) ((rd_T38 l0 x7_1).f2.f1) false _ A17.out).mono ?_);rintro e w35 ⟨rfl,hb⟩;have n0_:=Aside0.mk (blk_below (g:=gb283) (o:=.cells #[.int .i64 ((rd_T38 l0 x7_1).f0),.int .i64 ((rd_T38 l0 x7_1).f1),.int .i64 ((rd_T38 l0 x7_1).f2.f0),.int .i64 ((rd_T38 l0 x7_1).f2.f1),.int .i64 ((rd_T38 l0 x7_1).f3)] 38 (0,0)) Q104 hb);have n1_:=Aside0.mk (below_step Q59 hb);clear BK283;clear HB;have BK283:=n0_;have HB:=n1_;clear n0_ n1_;(try clear hb);(try clear hb2);(try clear hk);(try clear hi)))
           go_ret
           exact ⟨Q11,Q59⟩
     ·rw [if_neg c4] at H
      exact absurd H Q0
    ·rw [if_neg c3] at H
     exact absurd H Q0
   ·rw [if_neg c2] at H
    have c2b0 : decide (x7_1 < (l0.length : Int)) = false:=decide_eq_false c2
    clear c2
    obtain rfl:=Option.some.inj H
    go_wp2
    go_ret
    exact ⟨Q11,Q46⟩
def impl_ahead.f (a0_0 : Int) (a0_1 : Int) (a1_0 : Int) (a1_1 : Int) : Option (Bool) := if a0_0 < a1_0 then (some true) else (if a0_0 = a1_0 then (some (decide (a0_1 < a1_1))) else (some false))
set_option maxHeartbeats 8000000 in
set_option maxRecDepth 100000 in
theorem impl_ahead.calls (a0_0 : Int) (a0_1 : Int) (a1_0 : Int) (a1_1 : Int) (r : Bool) (w : World) (h : impl_ahead.f a0_0 a0_1 a1_0 a1_1 = some r) :
  Calls Try.prog 91 #[.agg #[.int .i64 a0_0,.int .i64 a0_1],.agg #[.int .i64 a1_0,.int .i64 a1_1]] w fun e w'=>e = .returned (.bool r) ∧ Below w.heap.size w w':=by
 have hu36:=Try.underlying36
 have HB:=Aside0.mk (Below.refl w.heap.size w)
 have H : (if a0_0 < a1_0 then (some true) else (if a0_0 = a1_0 then (some (decide (a0_1 < a1_1))) else (some false))) = some r:=h
 clear h
 by_cases c3 : a0_0 < a1_0
 ·rw [if_pos c3] at H
  have c3b0 : decide (a0_0 < a1_0) = true:=decide_eq_true c3
  clear c3
  obtain rfl:=Option.some.inj H
  go_enter Try.func91,Try.ntmps91
  go_wp2_with (first|((with_reducible refine gate_dst (N:=2) rfl ?_);refine box_event ?hg (N:=2) ?hd (cs:=#[.int .i64 a0_0,.int .i64 a0_1]) (t:=36) ?hr ?_;(case hd=>rfl);(case hg=>rfl);(case hr=>first|(go_simp;done)|(go_simp;rfl));intro gb285 hg w4 hbox hb;have n0_:=Aside0.mk (below_step Q46 hb);have n1_:=Aside0.mk (hbox);have n2_:=Aside0.mk ((Q106 : w.heap.size ≤ gb285));have n3_:=n2_;clear HB;have HB:=n0_;have BK285:=n1_;have GW285:=n2_;have GE285:=n3_;clear n0_ n1_ n2_ n3_;clear hb hbox hg)|((with_reducible refine gate_dst (N:=3) rfl ?_);refine box_event ?hg (N:=3) ?hd (cs:=#[.int .i64 a1_0,.int .i64 a1_1]) (t:=36) ?hr ?_;(case hd=>rfl);(case hg=>rfl);(case hr=>first|(go_simp;done)|(go_simp;rfl));intro gb286 hg w5 hbox hb;have n0_:=Aside0.mk (blk_below (g:=gb285) (o:=.cells #[.int .i64 a0_0,.int .i64 a0_1] 36 (0,0)) Q33 hb);have n1_:=Aside0.mk (below_step Q60 hb);have n2_:=Aside0.mk (hbox);have n3_:=Aside0.mk ((by rw [hg];exact (below_size Q60) : w.heap.size ≤ gb286));have n4_:=n3_;have n5_:=Aside0.mk ((Q110 : gb285 ≠ gb286));have n6_:=Aside0.mk ((Q111 : gb286 ≠ gb285));clear BK285;clear HB;have BK285:=n0_;have HB:=n1_;have BK286:=n2_;have GW286:=n3_;have GE286:=n4_;have NB285_286:=n5_;have NB286_285:=n6_;clear n0_ n1_ n2_ n3_ n4_ n5_ n6_;clear hb hbox hg;have hnb6:=NB285_286.out;have hnc6:=NB286_285.out;obtain ⟨hcz7_0,hcz7_1,hfz7_0,hfz7_1⟩:=bx2_ BK285;obtain ⟨hcz8_0,hcz8_1,hfz8_0,hfz8_1⟩:=bx2_ BK286))
  go_ret
  exact ⟨Q11,Q86⟩
 ·rw [if_neg c3] at H
  have c3b0 : decide (a0_0 < a1_0) = false:=decide_eq_false c3
  clear c3
  by_cases c9 : a0_0 = a1_0
  ·rw [if_pos c9] at H
   have c9b0 : (a0_0 == a1_0) = true:=beq_iff_eq.mpr c9
   have c9b1 : (a0_0 != a1_0) = false:=bne_eq_false_iff_eq.mpr c9
   clear c9
   obtain rfl:=Option.some.inj H
   go_enter Try.func91,Try.ntmps91
   go_wp2_with (first|((with_reducible refine gate_dst (N:=2) rfl ?_);refine box_event ?hg (N:=2) ?hd (cs:=#[.int .i64 a0_0,.int .i64 a0_1]) (t:=36) ?hr ?_;(case hd=>rfl);(case hg=>rfl);(case hr=>first|(go_simp;done)|(go_simp;rfl));intro gb285 hg w10 hbox hb;have n0_:=Aside0.mk (below_step Q46 hb);have n1_:=Aside0.mk (hbox);have n2_:=Aside0.mk ((Q106 : w.heap.size ≤ gb285));have n3_:=n2_;clear HB;have HB:=n0_;have BK285:=n1_;have GW285:=n2_;have GE285:=n3_;clear n0_ n1_ n2_ n3_;clear hb hbox hg)|((with_reducible refine gate_dst (N:=3) rfl ?_);refine box_event ?hg (N:=3) ?hd (cs:=#[.int .i64 a1_0,.int .i64 a1_1]) (t:=36) ?hr ?_;(case hd=>rfl);(case hg=>rfl);(case hr=>first|(go_simp;done)|(go_simp;rfl));intro gb286 hg w11 hbox hb;have n0_:=Aside0.mk (blk_below (g:=gb285) (o:=.cells #[.int .i64 a0_0,.int .i64 a0_1] 36 (0,0)) Q33 hb);have n1_:=Aside0.mk (below_step Q60 hb);have n2_:=Aside0.mk (hbox);have n3_:=Aside0.mk ((by rw [hg];exact (below_size Q60) : w.heap.size ≤ gb286));have n4_:=n3_;have n5_:=Aside0.mk ((Q110 : gb285 ≠ gb286));have n6_:=Aside0.mk ((Q111 : gb286 ≠ gb285));clear BK285;clear HB;have BK285:=n0_;have HB:=n1_;have BK286:=n2_;have GW286:=n3_;have GE286:=n4_;have NB285_286:=n5_;have NB286_285:=n6_;clear n0_ n1_ n2_ n3_ n4_ n5_ n6_;clear hb hbox hg;have hnb12:=NB285_286.out;have hnc12:=NB286_285.out;obtain ⟨hcz13_0,hcz13_1,hfz13_0,hfz13_1⟩:=bx2_ BK285;obtain ⟨hcz14_0,hcz14_1,hfz14_0,hfz14_1⟩:=bx2_ BK286))
   go_ret
   exact ⟨Q11,Q86⟩
  ·rw [if_neg c9] at H
   have c9b0 : (a0_0 == a1_0) = false:=beq_eq_false_iff_ne.mpr c9
   have c9b1 : (a0_0 != a1_0) = true:=bne_iff_ne.mpr c9
   obtain rfl:=Option.some.inj H
   go_enter Try.func91,Try.ntmps91
   go_wp2_with (first|((with_reducible refine gate_dst (N:=2) rfl ?_);refine box_event ?hg (N:=2) ?hd (cs:=#[.int .i64 a0_0,.int .i64 a0_1]) (t:=36) ?hr ?_;(case hd=>rfl);(case hg=>rfl);(case hr=>first|(go_simp;done)|(go_simp;rfl));intro gb285 hg w15 hbox hb;have n0_:=Aside0.mk (below_step Q46 hb);have n1_:=Aside0.mk (hbox);have n2_:=Aside0.mk ((Q106 : w.heap.size ≤ gb285));have n3_:=n2_;clear HB;have HB:=n0_;have BK285:=n1_;have GW285:=n2_;have GE285:=n3_;clear n0_ n1_ n2_ n3_;clear hb hbox hg)|((with_reducible refine gate_dst (N:=3) rfl ?_);refine box_event ?hg (N:=3) ?hd (cs:=#[.int .i64 a1_0,.int .i64 a1_1]) (t:=36) ?hr ?_;(case hd=>rfl);(case hg=>rfl);(case hr=>first|(go_simp;done)|(go_simp;rfl));intro gb286 hg w16 hbox hb;have n0_:=Aside0.mk (blk_below (g:=gb285) (o:=.cells #[.int .i64 a0_0,.int .i64 a0_1] 36 (0,0)) Q33 hb);have n1_:=Aside0.mk (below_step Q60 hb);have n2_:=Aside0.mk (hbox);have n3_:=Aside0.mk ((by rw [hg];exact (below_size Q60) : w.heap.size ≤ gb286));have n4_:=n3_;have n5_:=Aside0.mk ((Q110 : gb285 ≠ gb286));have n6_:=Aside0.mk ((Q111 : gb286 ≠ gb285));clear BK285;clear HB;have BK285:=n0_;have HB:=n1_;have BK286:=n2_;have GW286:=n3_;have GE286:=n4_;have NB285_286:=n5_;have NB286_285:=n6_;clear n0_ n1_ n2_ n3_ n4_ n5_ n6_;clear hb hbox hg;have hnb17:=NB285_286.out;have hnc17:=NB286_285.out;obtain ⟨hcz18_0,hcz18_1,hfz18_0,hfz18_1⟩:=bx2_ BK285;obtain ⟨hcz19_0,hcz19_1,hfz19_0,hfz19_1⟩:=bx2_ BK286))
   go_ret
   exact ⟨Q11,Q86⟩
def impl_rowAhead.f (a0_0 : Int) (a0_1 : Int) (a0_2 : Int) (a0_3 : Int) (a0_4 : Int) (a1_0 : Int) (a1_1 : Int) (a1_2 : Int) (a1_3 : Int) (a1_4 : Int) : Option (Bool) := if a0_0 = a1_0 then (if a0_1 = a1_1 then ((impl_ahead.f a0_2 a0_3 a1_2 a1_3).bind fun t289 => (some t289)) else (some (decide (a0_1 < a1_1)))) else (some (decide (a0_0 < a1_0)))
set_option maxHeartbeats 8000000 in
set_option maxRecDepth 100000 in
theorem impl_rowAhead.calls (a0_0 : Int) (a0_1 : Int) (a0_2 : Int) (a0_3 : Int) (a0_4 : Int) (a1_0 : Int) (a1_1 : Int) (a1_2 : Int) (a1_3 : Int) (a1_4 : Int) (r : Bool) (w : World) (h : impl_rowAhead.f a0_0 a0_1 a0_2 a0_3 a0_4 a1_0 a1_1 a1_2 a1_3 a1_4 = some r) :
  Calls Try.prog 64 #[.agg #[.int .i64 a0_0,.int .i64 a0_1,.int .i64 a0_2,.int .i64 a0_3,.int .i64 a0_4],.agg #[.int .i64 a1_0,.int .i64 a1_1,.int .i64 a1_2,.int .i64 a1_3,.int .i64 a1_4]] w fun e w'=>e = .returned (.bool r) ∧ Below w.heap.size w w':=by
 have hu38:=Try.underlying38
 have hu36:=Try.underlying36
 have HB:=Aside0.mk (Below.refl w.heap.size w)
 have H : (if a0_0 = a1_0 then (if a0_1 = a1_1 then ((impl_ahead.f a0_2 a0_3 a1_2 a1_3).bind fun t289=>(some t289)) else (some (decide (a0_1 < a1_1)))) else (some (decide (a0_0 < a1_0)))) = some r:=h
 clear h
 by_cases c3 : a0_0 = a1_0
 ·rw [if_pos c3] at H
  have c3b0 : (a0_0 == a1_0) = true:=beq_iff_eq.mpr c3
  have c3b1 : (a0_0 != a1_0) = false:=bne_eq_false_iff_eq.mpr c3
  clear c3
  by_cases c4 : a0_1 = a1_1
  ·rw [if_pos c4] at H
   have c4b0 : (a0_1 == a1_1) = true:=beq_iff_eq.mpr c4
   have c4b1 : (a0_1 != a1_1) = false:=bne_eq_false_iff_eq.mpr c4
   clear c4
   replace H:=Option.bind_eq_some_iff.mp H
   obtain ⟨t289,A50,H⟩:=H
   replace H : (some t289) = some r:=H
   have A5:=Aside0.mk A50
   clear A50
   obtain rfl:=Option.some.inj H
   go_enter Try.func64,Try.ntmps64
   go_wp2_with (first|((with_reducible refine gate_dst (N:=2) rfl ?_);refine box_event ?hg (N:=2) ?hd (cs:=#[.int .i64 a0_0,.int .i64 a0_1,.int .i64 a0_2,.int .i64 a0_3,.int .i64 a0_4]) (t:=38) ?hr ?_;(case hd=>rfl);(case hg=>rfl);(case hr=>first|(go_simp;done)|(go_simp;rfl));intro gb287 hg w6 hbox hb;have n0_:=Aside0.mk (below_step Q46 hb);have n1_:=Aside0.mk (hbox);have n2_:=Aside0.mk ((Q106 : w.heap.size ≤ gb287));have n3_:=n2_;clear HB;have HB:=n0_;have BK287:=n1_;have GW287:=n2_;have GE287:=n3_;clear n0_ n1_ n2_ n3_;clear hb hbox hg)|((with_reducible refine gate_dst (N:=3) rfl ?_);refine box_event ?hg (N:=3) ?hd (cs:=#[.int .i64 a1_0,.int .i64 a1_1,.int .i64 a1_2,.int .i64 a1_3,.int .i64 a1_4]) (t:=38) ?hr ?_;(case hd=>rfl);(case hg=>rfl);(case hr=>first|(go_simp;done)|(go_simp;rfl));intro gb288 hg w7 hbox hb;have n0_:=Aside0.mk (blk_below (g:=gb287) (o:=.cells #[.int .i64 a0_0,.int .i64 a0_1,.int .i64 a0_2,.int .i64 a0_3,.int .i64 a0_4] 38 (0,0)) Q34 hb);have n1_:=Aside0.mk (below_step Q61 hb);have n2_:=Aside0.mk (hbox);have n3_:=Aside0.mk ((by rw [hg];exact (below_size Q61) : w.heap.size ≤ gb288));have n4_:=n3_;have n5_:=Aside0.mk ((Q114 : gb287 ≠ gb288));have n6_:=Aside0.mk ((Q115 : gb288 ≠ gb287));clear BK287;clear HB;have BK287:=n0_;have HB:=n1_;have BK288:=n2_;have GW288:=n3_;have GE288:=n4_;have NB287_288:=n5_;have NB288_287:=n6_;clear n0_ n1_ n2_ n3_ n4_ n5_ n6_;clear hb hbox hg;have hnb8:=NB287_288.out;have hnc8:=NB288_287.out;obtain ⟨hcz9_0,hcz9_1,hcz9_2,hcz9_3,hcz9_4,hfz9_0,hfz9_1,hfz9_2,hfz9_3,hfz9_4⟩:=bx5_ BK287;obtain ⟨hcz10_0,hcz10_1,hcz10_2,hcz10_3,hcz10_4,hfz10_0,hfz10_1,hfz10_2,hfz10_3,hfz10_4⟩:=bx5_ BK288)|((with_reducible refine gate_callee (f:=91) rfl ?_);refine goesL_ (some 31) rfl rfl Try.func91 Q2 rfl #[.agg #[.int .i64 a0_2,.int .i64 a0_3],.agg #[.int .i64 a1_2,.int .i64 a1_3]] rfl Q50 ?_;(with_reducible refine (impl_ahead.calls a0_2 a0_3 a1_2 a1_3 t289 _ A5.out).mono ?_);rintro e w11 ⟨rfl,hb⟩;refine ⟨_,rfl,?_⟩;have n0_:=Aside0.mk (blk_below (g:=gb287) (o:=.cells #[.int .i64 a0_0,.int .i64 a0_1,.int .i64 a0_2,.int .i64 a0_3,.int .i64 a0_4] 38 (0,0)) Q34 hb);have n1_:=Aside0.mk (blk_below (g:=gb288) (o:=.cells #[.int .i64 a1_0,.int .i64 a1_1,.int .i64 a1_2,.int .i64 a1_3,.int .i64 a1_4] 38 (0,0)) (by (with_reducible repeat (first|refine blk_drewN ?_ _|refine blk_drew ?_|refine blk_alloc ?_ _));exact BK288.out) hb);have n2_:=Aside0.mk (below_step Q87 hb);clear BK287;clear BK288;clear HB;have BK287:=n0_;have BK288:=n1_;have HB:=n2_;clear n0_ n1_ n2_;(try clear hb);(try clear hb2);(try clear hk);(try clear hi)))
   go_ret
   exact ⟨Q11,Q87⟩
  ·rw [if_neg c4] at H
   have c4b0 : (a0_1 == a1_1) = false:=beq_eq_false_iff_ne.mpr c4
   have c4b1 : (a0_1 != a1_1) = true:=bne_iff_ne.mpr c4
   obtain rfl:=Option.some.inj H
   go_enter Try.func64,Try.ntmps64
   go_wp2_with (first|((with_reducible refine gate_dst (N:=2) rfl ?_);refine box_event ?hg (N:=2) ?hd (cs:=#[.int .i64 a0_0,.int .i64 a0_1,.int .i64 a0_2,.int .i64 a0_3,.int .i64 a0_4]) (t:=38) ?hr ?_;(case hd=>rfl);(case hg=>rfl);(case hr=>first|(go_simp;done)|(go_simp;rfl));intro gb287 hg w12 hbox hb;have n0_:=Aside0.mk (below_step Q46 hb);have n1_:=Aside0.mk (hbox);have n2_:=Aside0.mk ((Q106 : w.heap.size ≤ gb287));have n3_:=n2_;clear HB;have HB:=n0_;have BK287:=n1_;have GW287:=n2_;have GE287:=n3_;clear n0_ n1_ n2_ n3_;clear hb hbox hg)|((with_reducible refine gate_dst (N:=3) rfl ?_);refine box_event ?hg (N:=3) ?hd (cs:=#[.int .i64 a1_0,.int .i64 a1_1,.int .i64 a1_2,.int .i64 a1_3,.int .i64 a1_4]) (t:=38) ?hr ?_;(case hd=>rfl);(case hg=>rfl);(case hr=>first|(go_simp;done)|(go_simp;rfl));intro gb288 hg w13 hbox hb;have n0_:=Aside0.mk (blk_below (g:=gb287) (o:=.cells #[.int .i64 a0_0,.int .i64 a0_1,.int .i64 a0_2,.int .i64 a0_3,.int .i64 a0_4] 38 (0,0)) Q34 hb);have n1_:=Aside0.mk (below_step Q61 hb);have n2_:=Aside0.mk (hbox);have n3_:=Aside0.mk ((by rw [hg];exact (below_size Q61) : w.heap.size ≤ gb288));have n4_:=n3_;have n5_:=Aside0.mk ((Q114 : gb287 ≠ gb288));have n6_:=Aside0.mk ((Q115 : gb288 ≠ gb287));clear BK287;clear HB;have BK287:=n0_;have HB:=n1_;have BK288:=n2_;have GW288:=n3_;have GE288:=n4_;have NB287_288:=n5_;have NB288_287:=n6_;clear n0_ n1_ n2_ n3_ n4_ n5_ n6_;clear hb hbox hg;have hnb14:=NB287_288.out;have hnc14:=NB288_287.out;obtain ⟨hcz15_0,hcz15_1,hcz15_2,hcz15_3,hcz15_4,hfz15_0,hfz15_1,hfz15_2,hfz15_3,hfz15_4⟩:=bx5_ BK287;obtain ⟨hcz16_0,hcz16_1,hcz16_2,hcz16_3,hcz16_4,hfz16_0,hfz16_1,hfz16_2,hfz16_3,hfz16_4⟩:=bx5_ BK288))
   go_ret
   exact ⟨Q11,Q87⟩
 ·rw [if_neg c3] at H
  have c3b0 : (a0_0 == a1_0) = false:=beq_eq_false_iff_ne.mpr c3
  have c3b1 : (a0_0 != a1_0) = true:=bne_iff_ne.mpr c3
  obtain rfl:=Option.some.inj H
  go_enter Try.func64,Try.ntmps64
  go_wp2_with (first|((with_reducible refine gate_dst (N:=2) rfl ?_);refine box_event ?hg (N:=2) ?hd (cs:=#[.int .i64 a0_0,.int .i64 a0_1,.int .i64 a0_2,.int .i64 a0_3,.int .i64 a0_4]) (t:=38) ?hr ?_;(case hd=>rfl);(case hg=>rfl);(case hr=>first|(go_simp;done)|(go_simp;rfl));intro gb287 hg w17 hbox hb;have n0_:=Aside0.mk (below_step Q46 hb);have n1_:=Aside0.mk (hbox);have n2_:=Aside0.mk ((Q106 : w.heap.size ≤ gb287));have n3_:=n2_;clear HB;have HB:=n0_;have BK287:=n1_;have GW287:=n2_;have GE287:=n3_;clear n0_ n1_ n2_ n3_;clear hb hbox hg)|((with_reducible refine gate_dst (N:=3) rfl ?_);refine box_event ?hg (N:=3) ?hd (cs:=#[.int .i64 a1_0,.int .i64 a1_1,.int .i64 a1_2,.int .i64 a1_3,.int .i64 a1_4]) (t:=38) ?hr ?_;(case hd=>rfl);(case hg=>rfl);(case hr=>first|(go_simp;done)|(go_simp;rfl));intro gb288 hg w18 hbox hb;have n0_:=Aside0.mk (blk_below (g:=gb287) (o:=.cells #[.int .i64 a0_0,.int .i64 a0_1,.int .i64 a0_2,.int .i64 a0_3,.int .i64 a0_4] 38 (0,0)) Q34 hb);have n1_:=Aside0.mk (below_step Q61 hb);have n2_:=Aside0.mk (hbox);have n3_:=Aside0.mk ((by rw [hg];exact (below_size Q61) : w.heap.size ≤ gb288));have n4_:=n3_;have n5_:=Aside0.mk ((Q114 : gb287 ≠ gb288));have n6_:=Aside0.mk ((Q115 : gb288 ≠ gb287));clear BK287;clear HB;have BK287:=n0_;have HB:=n1_;have BK288:=n2_;have GW288:=n3_;have GE288:=n4_;have NB287_288:=n5_;have NB288_287:=n6_;clear n0_ n1_ n2_ n3_ n4_ n5_ n6_;clear hb hbox hg;have hnb19:=NB287_288.out;have hnc19:=NB288_287.out;obtain ⟨hcz20_0,hcz20_1,hcz20_2,hcz20_3,hcz20_4,hfz20_0,hfz20_1,hfz20_2,hfz20_3,hfz20_4⟩:=bx5_ BK287;obtain ⟨hcz21_0,hcz21_1,hcz21_2,hcz21_3,hcz21_4,hfz21_0,hfz21_1,hfz21_2,hfz21_3,hfz21_4⟩:=bx5_ BK288))
  go_ret
  exact ⟨Q11,Q87⟩
def impl_BatchOk.l0 : Nat → List (S38) → List (S38) → Int → Int → Option (Bool)
 | 0, _, _, _, _ => none
 | k + 1, x0, x5, x6, x7 => if x7 < x6 then (if 0 ≤ x7 then (if x7 < (x5.length : Int) then (if ((rd_T38 x5 x7).f3) = 0 then (some false) else (if x7 > 0 then (if 0 ≤ (wrap64 (x7 - 1)) then (if (wrap64 (x7 - 1)) < (x0.length : Int) then ((impl_rowAhead.f ((rd_T38 x0 (wrap64 (x7 - 1))).f0) ((rd_T38 x0 (wrap64 (x7 - 1))).f1) ((rd_T38 x0 (wrap64 (x7 - 1))).f2.f0) ((rd_T38 x0 (wrap64 (x7 - 1))).f2.f1) ((rd_T38 x0 (wrap64 (x7 - 1))).f3) ((rd_T38 x5 x7).f0) ((rd_T38 x5 x7).f1) ((rd_T38 x5 x7).f2.f0) ((rd_T38 x5 x7).f2.f1) ((rd_T38 x5 x7).f3)).bind fun t293 => (if t293 = true then (impl_BatchOk.l0 k x0 x5 x6 (wrap64 (x7 + 1))) else (some false))) else (none)) else (none)) else (impl_BatchOk.l0 k x0 x5 x6 (wrap64 (x7 + 1))))) else (none)) else (none)) else ((impl_RowsOk.f k x0).bind fun t294 => (some t294))
def impl_BatchOk.f (k : Nat) (l0 : List (S38)) : Option (Bool) := impl_BatchOk.l0 k l0 l0 (l0.length : Int) 0
theorem impl_BatchOk.mono_l : ∀ k,(∀ y0 y1 y2 y3,LeO (impl_BatchOk.l0 k y0 y1 y2 y3) (impl_BatchOk.l0 (k + 1) y0 y1 y2 y3))
 | 0=>fun _ _ _ _ r h=>by simp [impl_BatchOk.l0] at h
 | k + 1=>by
  have ih0:=impl_BatchOk.mono_l k
  ·intro y0 y1 y2 y3
   unfold impl_BatchOk.l0
   repeat' first
   | (with_reducible exact ih0 _ _ _ _)
   | (with_reducible exact impl_RowsOk.mono _ _)
   | (with_reducible exact LeO.refl _)
   | (with_reducible exact LeO.none _)
   | (with_reducible refine LeO.ite ?_ ?_)
   | (with_reducible refine LeO.bind ?_ (fun _=>?_))
   | exact ih0 _ _ _ _
   | exact impl_RowsOk.mono _ _
   | exact LeO.none _
   | refine LeO.ite ?_ ?_
   | refine LeO.bind ?_ (fun _=>?_)
theorem impl_BatchOk.mono : ∀ a0 k,LeO (impl_BatchOk.f k a0) (impl_BatchOk.f (k + 1) a0):=by
 intro a0 k
 have ih0:=impl_BatchOk.mono_l k
 unfold impl_BatchOk.f
 repeat' first
   | (with_reducible exact ih0 _ _ _ _)
   | (with_reducible exact impl_RowsOk.mono _ _)
   | (with_reducible exact LeO.refl _)
   | (with_reducible exact LeO.none _)
   | (with_reducible refine LeO.ite ?_ ?_)
   | (with_reducible refine LeO.bind ?_ (fun _=>?_))
   | exact ih0 _ _ _ _
   | exact impl_RowsOk.mono _ _
   | exact LeO.none _
   | refine LeO.ite ?_ ?_
   | refine LeO.bind ?_ (fun _=>?_)
def impl_BatchOk.T4 : Bool × List (List Nat × List Nat) := (true, [([], []), ([0], [0]), ([1], [1]), ([2], [2]), ([3], [3]), ([4, 3], [3, 4]), ([5, 3, 3], [3, 5]), ([6], [6]), ([6], [6]), ([8, 6], [6, 8]), ([7, 9, 6], [6, 7, 9]), ([10, 6], [6, 10]), ([6], [6]), ([11, 12, 6, 6], [6, 11, 12]), ([13, 6], [6, 13]), ([6, 14, 3], [3, 6, 14]), ([3, 15], [3, 15])])
def impl_BatchOk.B4 : List Nat := [0, 1, 3, 7, 15, 31, 63, 127, 127, 383, 1023, 2047, 127, 8191, 16383, 32767, 65535]
theorem impl_BatchOk.tab4 : rtab .any (opsOf Try.f24 4) = impl_BatchOk.T4:=by kernel_rfl
theorem impl_BatchOk.bits4 : waitsOk impl_BatchOk.T4.2 impl_BatchOk.B4 = true:=by kernel_rfl
set_option maxHeartbeats 8000000 in
set_option maxRecDepth 100000 in
theorem impl_BatchOk.calls (k : Nat) (A0 : Option Addr) (c0 : Nat) (l0 : List (S38)) (r : Bool) (w : World) (hr0 : Kd.C k38 w A0 l0.length l0) (hc0 : l0.length ≤ c0) (h : impl_BatchOk.f k l0 = some r) :
  Calls Try.prog 24 #[.slice A0 l0.length c0] w fun e w'=>e = .returned (.bool r) ∧ Below w.heap.size w w':=by
 have hu38:=Try.underlying38
 have HR0:=Aside0.mk hr0
 have HC0:=Aside0.mk hc0
 clear hr0 hc0
 have HB:=Aside0.mk (Below.refl w.heap.size w)
 have H : (impl_BatchOk.l0 k l0 l0 (l0.length : Int) 0) = some r:=h
 clear h
 have H':=Aside0.mk H
 clear H
 go_enter Try.func24,Try.ntmps24
 go_wp2
 go_loopg [7] k (fun kq v7 w'=>∃ (x7_1 : Int),v7 = .int .i64 x7_1 ∧ Aside0 (impl_BatchOk.l0 kq l0 l0 (l0.length : Int) x7_1 = some r) ∧ Aside0 (kq ≤ k) ∧ Aside0 (Below w.heap.size w w'))
 case atStart=>exact ⟨(0),Q7,H',⟨Nat.le_refl _⟩,⟨Q46⟩⟩
 case round =>
  clear H'
  obtain ⟨x7_1,rfl,HA,HK1,HB⟩:=hrel
  cases gk with
  | zero=>exact absurd HA.out (by simp [impl_BatchOk.l0])
  | succ k1 =>
   have H:=HA.out
   clear HA
   simp only [impl_BatchOk.l0] at H
   by_cases c2 : x7_1 < (l0.length : Int)
   ·rw [if_pos c2] at H
    have c2b0 : decide (x7_1 < (l0.length : Int)) = true:=decide_eq_true c2
    clear c2
    by_cases c3 : 0 ≤ x7_1
    ·rw [if_pos c3] at H
     have c3b0 : decide (0 ≤ x7_1) = true:=decide_eq_true c3
     clear c3
     by_cases c4 : x7_1 < (l0.length : Int)
     ·rw [if_pos c4] at H
      have c4b0 : decide (x7_1 < (l0.length : Int)) = true:=decide_eq_true c4
      clear c4
      by_cases c5 : ((rd_T38 l0 x7_1).f3) = 0
      ·rw [if_pos c5] at H
       have c5b0 : (((rd_T38 l0 x7_1).f3) == 0) = true:=beq_iff_eq.mpr c5
       have c5b1 : (((rd_T38 l0 x7_1).f3) != 0) = false:=bne_eq_false_iff_eq.mpr c5
       clear c5
       obtain rfl:=Option.some.inj H
       have p290 : 0 ≤ (x7_1 : Int):=of_decide_eq_true Q8
       have q290 : x7_1 < (l0.length : Int):=of_decide_eq_true Q8
       obtain ⟨ad290,e290,hx290_0,hx290_1,hx290_2,hx290_3,hx290_4⟩:=at_T38 HR0.out x7_1 p290 q290
       cases e290
       replace hx290_0:=cb_ HB hx290_0
       replace hx290_1:=cb_ HB hx290_1
       replace hx290_2:=cb_ HB hx290_2
       replace hx290_3:=cb_ HB hx290_3
       replace hx290_4:=cb_ HB hx290_4
       replace p290:=eq_true p290
       replace q290:=eq_true q290
       try go_wp2_with (first|((with_reducible refine gate_dst (N:=4) rfl ?_);refine box_event ?hg (N:=4) ?hd (cs:=#[.int .i64 0,.int .i64 0,.int .i64 0,.int .i64 0,.int .i64 0]) (t:=38) ?hr ?_;(case hd=>rfl);(case hg=>rfl);(case hr=>first|(go_simp;done)|(go_simp;rfl));intro gb291 hg w6 hbox hb;have n0_:=Aside0.mk (below_step Q46 hb);have n1_:=Aside0.mk (hbox);have n2_:=Aside0.mk ((Q106 : w.heap.size ≤ gb291));have n3_:=n2_;clear HB;have HB:=n0_;have BK291:=n1_;have GW291:=n2_;have GE291:=n3_;clear n0_ n1_ n2_ n3_;clear hb hbox hg;obtain ⟨hcz7_0,hcz7_1,hcz7_2,hcz7_3,hcz7_4,hfz7_0,hfz7_1,hfz7_2,hfz7_3,hfz7_4⟩:=bx5_ BK291))
       have n0_ : Aside0 ((((((w6.setCell ⟨gb291,0,none⟩ (.int .i64 ((rd_T38 l0 x7_1).f0))).setCell ⟨gb291,1,none⟩ (.int .i64 ((rd_T38 l0 x7_1).f1))).setCell ⟨gb291,2,none⟩ (.int .i64 ((rd_T38 l0 x7_1).f2.f0))).setCell ⟨gb291,3,none⟩ (.int .i64 ((rd_T38 l0 x7_1).f2.f1))).setCell ⟨gb291,4,none⟩ (.int .i64 ((rd_T38 l0 x7_1).f3))).heap[gb291]? = some (.cells #[.int .i64 ((rd_T38 l0 x7_1).f0),.int .i64 ((rd_T38 l0 x7_1).f1),.int .i64 ((rd_T38 l0 x7_1).f2.f0),.int .i64 ((rd_T38 l0 x7_1).f2.f1),.int .i64 ((rd_T38 l0 x7_1).f3)] 38 (0,0))):=⟨Q105⟩
       have n1_ : Aside0 (Below w.heap.size w (((((w6.setCell ⟨gb291,0,none⟩ (.int .i64 ((rd_T38 l0 x7_1).f0))).setCell ⟨gb291,1,none⟩ (.int .i64 ((rd_T38 l0 x7_1).f1))).setCell ⟨gb291,2,none⟩ (.int .i64 ((rd_T38 l0 x7_1).f2.f0))).setCell ⟨gb291,3,none⟩ (.int .i64 ((rd_T38 l0 x7_1).f2.f1))).setCell ⟨gb291,4,none⟩ (.int .i64 ((rd_T38 l0 x7_1).f3)))):=⟨Q62⟩
       (try clear BK291)
       (try clear HB)
       generalize (((((w6.setCell ⟨gb291,0,none⟩ (.int .i64 ((rd_T38 l0 x7_1).f0))).setCell ⟨gb291,1,none⟩ (.int .i64 ((rd_T38 l0 x7_1).f1))).setCell ⟨gb291,2,none⟩ (.int .i64 ((rd_T38 l0 x7_1).f2.f0))).setCell ⟨gb291,3,none⟩ (.int .i64 ((rd_T38 l0 x7_1).f2.f1))).setCell ⟨gb291,4,none⟩ (.int .i64 ((rd_T38 l0 x7_1).f3))) = w8 at n0_ n1_ ⊢
       have BK291:=n0_
       have HB:=n1_
       clear n0_ n1_
       have n0_:=Aside0.mk (blk_drew BK291.out)
       have n1_:=Aside0.mk (below_drew1 HB.out)
       clear BK291
       clear HB
       have BK291:=n0_
       have HB:=n1_
       clear n0_ n1_
       refine start_ (n:=17) (S:=fun w'=>w'.cell? ⟨gb291,0,none⟩ = some (.int .i64 ((rd_T38 l0 x7_1).f0)) ∧ w'.cell? ⟨gb291,1,none⟩ = some (.int .i64 ((rd_T38 l0 x7_1).f1)) ∧ w'.cell? ⟨gb291,2,none⟩ = some (.int .i64 ((rd_T38 l0 x7_1).f2.f0)) ∧ w'.cell? ⟨gb291,3,none⟩ = some (.int .i64 ((rd_T38 l0 x7_1).f2.f1)) ∧ w'.cell? ⟨gb291,4,none⟩ = some (.int .i64 ((rd_T38 l0 x7_1).f3))) (ds:=[]) b17_0 Q2 rfl rfl ⟨(blk_cell BK291.out 0).trans rfl,(blk_cell BK291.out 1).trans rfl,(blk_cell BK291.out 2).trans rfl,(blk_cell BK291.out 3).trans rfl,(blk_cell BK291.out 4).trans rfl⟩ (fun hHeld=>?_);refine with_tabW impl_BatchOk.tab4 impl_BatchOk.bits4 (fun HT_ HW_=>?_)
       generalize w8.drew = w9 at BK291 HB hHeld ⊢
       refine pU_ 0 12 b17_1 ?_
       refine tU_ 1 13 b17_2 hHeld ?_
       refine pU_ 2 14 b17_3 ?_
       refine pU_ 3 15 b17_4 ?_
       refine pV_ 4 16 b17_5 ?_
       refine pV_ 5 17 b17_6 ?_
       refine pV_ 6 18 b17_7 ?_
       refine pV_ 7 19 b17_8 ?_
       refine pV_ 8 20 b17_9 ?_
       refine pV_ 9 21 b17_10 ?_
       refine pV_ 10 22 b17_11 ?_
       refine pV_ 11 23 b17_12 ?_
       refine pV_ 12 24 b17_13 ?_
       refine pV_ 13 25 b17_14 ?_
       refine pV_ 14 26 b17_15 ?_
       refine pV_ 15 27 b17_16 ?_
       refine pU_ 16 28 b17_17 ?_
       refine done_ (done_of HT_.out Q2) ?_
       try go_wp2
       go_ret
       exact ⟨Q11,Q62⟩
      ·rw [if_neg c5] at H
       have c5b0 : (((rd_T38 l0 x7_1).f3) == 0) = false:=beq_eq_false_iff_ne.mpr c5
       have c5b1 : (((rd_T38 l0 x7_1).f3) != 0) = true:=bne_iff_ne.mpr c5
       by_cases c10 : x7_1 > 0
       ·rw [if_pos c10] at H
        have c10b0 : decide (0 < x7_1) = true:=decide_eq_true c10
        clear c10
        obtain ⟨ji11,hji11⟩ : ∃ j_ : Int,(wrap64 (x7_1 - 1)) = j_:=⟨_,rfl⟩
        replace H : (if 0 ≤ (ji11) then (if (ji11) < (l0.length : Int) then ((impl_rowAhead.f ((rd_T38 l0 (ji11)).f0) ((rd_T38 l0 (ji11)).f1) ((rd_T38 l0 (ji11)).f2.f0) ((rd_T38 l0 (ji11)).f2.f1) ((rd_T38 l0 (ji11)).f3) ((rd_T38 l0 x7_1).f0) ((rd_T38 l0 x7_1).f1) ((rd_T38 l0 x7_1).f2.f0) ((rd_T38 l0 x7_1).f2.f1) ((rd_T38 l0 x7_1).f3)).bind fun t293=>(if t293 = true then (impl_BatchOk.l0 k1 l0 l0 (l0.length : Int) (wrap64 (x7_1 + 1))) else (some false))) else (none)) else (none)) = some r:=by first|(rw [hji11] at H;exact H)|(simp only [hji11] at H ⊢;exact H)
        have hji11w : (IntKind.i64.wrap (x7_1 - 1)) = ji11:=(i64_w _).trans hji11
        by_cases c12 : 0 ≤ (ji11)
        ·rw [if_pos c12] at H
         have c12b0 : decide (0 ≤ (ji11)) = true:=decide_eq_true c12
         clear c12
         by_cases c13 : (ji11) < (l0.length : Int)
         ·rw [if_pos c13] at H
          have c13b0 : decide ((ji11) < (l0.length : Int)) = true:=decide_eq_true c13
          clear c13
          replace H:=Option.bind_eq_some_iff.mp H
          obtain ⟨t293,A140,H⟩:=H
          replace H : (if t293 = true then (impl_BatchOk.l0 k1 l0 l0 (l0.length : Int) (wrap64 (x7_1 + 1))) else (some false)) = some r:=H
          have A14:=Aside0.mk A140
          clear A140
          by_cases c15 : t293 = true
          ·subst c15
           have H1 : (impl_BatchOk.l0 k1 l0 l0 (l0.length : Int) (wrap64 (x7_1 + 1))) = some r:=by rw [if_pos rfl] at H;exact H
           clear H
           have H:=H1
           clear H1
           have H':=Aside0.mk H
           clear H
           have p290 : 0 ≤ (x7_1 : Int):=of_decide_eq_true Q8
           have q290 : x7_1 < (l0.length : Int):=of_decide_eq_true Q8
           obtain ⟨ad290,e290,hx290_0,hx290_1,hx290_2,hx290_3,hx290_4⟩:=at_T38 HR0.out x7_1 p290 q290
           cases e290
           replace hx290_0:=cb_ HB hx290_0
           replace hx290_1:=cb_ HB hx290_1
           replace hx290_2:=cb_ HB hx290_2
           replace hx290_3:=cb_ HB hx290_3
           replace hx290_4:=cb_ HB hx290_4
           replace p290:=eq_true p290
           replace q290:=eq_true q290
           try go_wp2_with (first|((with_reducible refine gate_dst (N:=4) rfl ?_);refine box_event ?hg (N:=4) ?hd (cs:=#[.int .i64 0,.int .i64 0,.int .i64 0,.int .i64 0,.int .i64 0]) (t:=38) ?hr ?_;(case hd=>rfl);(case hg=>rfl);(case hr=>first|(go_simp;done)|(go_simp;rfl));intro gb291 hg w16 hbox hb;have n0_:=Aside0.mk (below_step Q46 hb);have n1_:=Aside0.mk (hbox);have n2_:=Aside0.mk ((Q106 : w.heap.size ≤ gb291));have n3_:=n2_;clear HB;have HB:=n0_;have BK291:=n1_;have GW291:=n2_;have GE291:=n3_;clear n0_ n1_ n2_ n3_;clear hb hbox hg;obtain ⟨hcz17_0,hcz17_1,hcz17_2,hcz17_3,hcz17_4,hfz17_0,hfz17_1,hfz17_2,hfz17_3,hfz17_4⟩:=bx5_ BK291))
           have n0_ : Aside0 ((((((w16.setCell ⟨gb291,0,none⟩ (.int .i64 ((rd_T38 l0 x7_1).f0))).setCell ⟨gb291,1,none⟩ (.int .i64 ((rd_T38 l0 x7_1).f1))).setCell ⟨gb291,2,none⟩ (.int .i64 ((rd_T38 l0 x7_1).f2.f0))).setCell ⟨gb291,3,none⟩ (.int .i64 ((rd_T38 l0 x7_1).f2.f1))).setCell ⟨gb291,4,none⟩ (.int .i64 ((rd_T38 l0 x7_1).f3))).heap[gb291]? = some (.cells #[.int .i64 ((rd_T38 l0 x7_1).f0),.int .i64 ((rd_T38 l0 x7_1).f1),.int .i64 ((rd_T38 l0 x7_1).f2.f0),.int .i64 ((rd_T38 l0 x7_1).f2.f1),.int .i64 ((rd_T38 l0 x7_1).f3)] 38 (0,0))):=⟨Q105⟩
           have n1_ : Aside0 (Below w.heap.size w (((((w16.setCell ⟨gb291,0,none⟩ (.int .i64 ((rd_T38 l0 x7_1).f0))).setCell ⟨gb291,1,none⟩ (.int .i64 ((rd_T38 l0 x7_1).f1))).setCell ⟨gb291,2,none⟩ (.int .i64 ((rd_T38 l0 x7_1).f2.f0))).setCell ⟨gb291,3,none⟩ (.int .i64 ((rd_T38 l0 x7_1).f2.f1))).setCell ⟨gb291,4,none⟩ (.int .i64 ((rd_T38 l0 x7_1).f3)))):=⟨Q62⟩
           (try clear BK291)
           (try clear HB)
           generalize (((((w16.setCell ⟨gb291,0,none⟩ (.int .i64 ((rd_T38 l0 x7_1).f0))).setCell ⟨gb291,1,none⟩ (.int .i64 ((rd_T38 l0 x7_1).f1))).setCell ⟨gb291,2,none⟩ (.int .i64 ((rd_T38 l0 x7_1).f2.f0))).setCell ⟨gb291,3,none⟩ (.int .i64 ((rd_T38 l0 x7_1).f2.f1))).setCell ⟨gb291,4,none⟩ (.int .i64 ((rd_T38 l0 x7_1).f3))) = w18 at n0_ n1_ ⊢
           have BK291:=n0_
           have HB:=n1_
           clear n0_ n1_
           have n0_:=Aside0.mk (blk_drew BK291.out)
           have n1_:=Aside0.mk (below_drew1 HB.out)
           clear BK291
           clear HB
           have BK291:=n0_
           have HB:=n1_
           clear n0_ n1_
           have p292 : 0 ≤ ((ji11) : Int):=of_decide_eq_true Q8
           have q292 : (ji11) < (l0.length : Int):=of_decide_eq_true Q8
           obtain ⟨ad292,e292,hx292_0,hx292_1,hx292_2,hx292_3,hx292_4⟩:=at_T38 HR0.out (ji11) p292 q292
           have hw292_4:=hx292_4
           have hw292_3:=hx292_3
           have hw292_2:=hx292_2
           have hw292_1:=hx292_1
           have hw292_0:=hx292_0
           obtain rfl : ad290 = ad292:=(by injection e292)
           replace hx292_0:=cb_ HB hx292_0
           replace hx292_1:=cb_ HB hx292_1
           replace hx292_2:=cb_ HB hx292_2
           replace hx292_3:=cb_ HB hx292_3
           replace hx292_4:=cb_ HB hx292_4
           replace p292:=eq_true p292
           replace q292:=eq_true q292
           refine start_ (n:=17) (S:=fun w'=>w'.cell? ⟨gb291,0,none⟩ = some (.int .i64 ((rd_T38 l0 x7_1).f0)) ∧ w'.cell? ⟨gb291,1,none⟩ = some (.int .i64 ((rd_T38 l0 x7_1).f1)) ∧ w'.cell? ⟨gb291,2,none⟩ = some (.int .i64 ((rd_T38 l0 x7_1).f2.f0)) ∧ w'.cell? ⟨gb291,3,none⟩ = some (.int .i64 ((rd_T38 l0 x7_1).f2.f1)) ∧ w'.cell? ⟨gb291,4,none⟩ = some (.int .i64 ((rd_T38 l0 x7_1).f3)) ∧ w'.cell? (ad290.add (((ji11)).toNat * 5)) = some (.int .i64 ((rd_T38 l0 (ji11)).f0)) ∧ w'.cell? ⟨(ad290.add (((ji11)).toNat * 5)).block,(ad290.add (((ji11)).toNat * 5)).off + 1,none⟩ = some (.int .i64 ((rd_T38 l0 (ji11)).f1)) ∧ w'.cell? ⟨(ad290.add (((ji11)).toNat * 5)).block,(ad290.add (((ji11)).toNat * 5)).off + 2,none⟩ = some (.int .i64 ((rd_T38 l0 (ji11)).f2.f0)) ∧ w'.cell? ⟨(ad290.add (((ji11)).toNat * 5)).block,(ad290.add (((ji11)).toNat * 5)).off + 3,none⟩ = some (.int .i64 ((rd_T38 l0 (ji11)).f2.f1)) ∧ w'.cell? ⟨(ad290.add (((ji11)).toNat * 5)).block,(ad290.add (((ji11)).toNat * 5)).off + 4,none⟩ = some (.int .i64 ((rd_T38 l0 (ji11)).f3))) (ds:=[]) b17_0 Q2 rfl rfl ⟨(blk_cell BK291.out 0).trans rfl,(blk_cell BK291.out 1).trans rfl,(blk_cell BK291.out 2).trans rfl,(blk_cell BK291.out 3).trans rfl,(blk_cell BK291.out 4).trans rfl,(cb_ HB hw292_0:),(cb_ HB hw292_1:),(cb_ HB hw292_2:),(cb_ HB hw292_3:),(cb_ HB hw292_4:)⟩ (fun hHeld=>?_);refine with_tabW impl_BatchOk.tab4 impl_BatchOk.bits4 (fun HT_ HW_=>?_)
           generalize w18.drew = w19 at BK291 HB hx292_0 hx292_1 hx292_2 hx292_3 hx292_4 hHeld ⊢
           refine pU_ 0 12 b17_1 ?_
           refine tU_ 1 13 b17_2 hHeld ?_
           refine pU_ 2 14 b17_3 ?_
           refine pU_ 3 15 b17_4 ?_
           refine pU_ 4 16 b17_5 ?_
           refine pU_ 5 17 b17_6 ?_
           refine pU_ 6 18 b17_7 ?_
           refine pU_ 7 19 b17_8 ?_
           refine pU_ 8 20 b17_9 ?_
           refine pU_ 9 21 b17_10 ?_
           refine pU_ 10 22 b17_11 ?_
           refine tU_ 11 23 b17_12 hHeld ?_
           refine tU_ 12 24 b17_13 hHeld ?_
           refine one_ (i:=13) (N:=some 25) b17_14 rfl rfl (one_of HT_.out Q2) Q1 (fun K hK=>?_)
           refine goes_ Try.func64 Q2 rfl #[.agg #[.int .i64 ((rd_T38 l0 (ji11)).f0),.int .i64 ((rd_T38 l0 (ji11)).f1),.int .i64 ((rd_T38 l0 (ji11)).f2.f0),.int .i64 ((rd_T38 l0 (ji11)).f2.f1),.int .i64 ((rd_T38 l0 (ji11)).f3)],.agg #[.int .i64 ((rd_T38 l0 x7_1).f0),.int .i64 ((rd_T38 l0 x7_1).f1),.int .i64 ((rd_T38 l0 x7_1).f2.f0),.int .i64 ((rd_T38 l0 x7_1).f2.f1),.int .i64 ((rd_T38 l0 x7_1).f3)]] (by rfl) rfl rfl (by (try simp only [List.map_toArray,List.map_cons,List.map_nil]);first|done|(simp only [hji11];rfl)|rfl|(simp only [List.length_drop,List.length_take];rfl)) ?_
           with_reducible refine (impl_rowAhead.calls ((rd_T38 l0 (ji11)).f0) ((rd_T38 l0 (ji11)).f1) ((rd_T38 l0 (ji11)).f2.f0) ((rd_T38 l0 (ji11)).f2.f1) ((rd_T38 l0 (ji11)).f3) ((rd_T38 l0 x7_1).f0) ((rd_T38 l0 x7_1).f1) ((rd_T38 l0 x7_1).f2.f0) ((rd_T38 l0 x7_1).f2.f1) ((rd_T38 l0 x7_1).f3) true _ A14.out).mono ?_
           rintro e w20 ⟨rfl,hb⟩
           refine ⟨_,rfl,?_⟩
           have n0_:=Aside0.mk (blk_below (g:=gb291) (o:=.cells #[.int .i64 ((rd_T38 l0 x7_1).f0),.int .i64 ((rd_T38 l0 x7_1).f1),.int .i64 ((rd_T38 l0 x7_1).f2.f0),.int .i64 ((rd_T38 l0 x7_1).f2.f1),.int .i64 ((rd_T38 l0 x7_1).f3)] 38 (0,0)) (by (with_reducible repeat (first|refine blk_drewN ?_ _|refine blk_drew ?_|refine blk_alloc ?_ _));exact BK291.out) hb)
           have n1_:=Aside0.mk (below_step Q62 hb)
           clear BK291
           clear HB
           have BK291:=n0_
           have HB:=n1_
           clear n0_ n1_
           (try clear hb)
           (try clear hb2)
           (try clear hk)
           (try clear hi)
           refine hK.out _ _ ⟨(blk_cell BK291.out 0).trans rfl,(blk_cell BK291.out 1).trans rfl,(blk_cell BK291.out 2).trans rfl,(blk_cell BK291.out 3).trans rfl,(blk_cell BK291.out 4).trans rfl,(cb_ HB hw292_0:),(cb_ HB hw292_1:),(cb_ HB hw292_2:),(cb_ HB hw292_3:),(cb_ HB hw292_4:)⟩ (fun hHeld=>?_)
           clear hK K
           refine norm_ (a':=?_) ?_ ?_
           rotate_left
           ·show Act.put _ (some 25) _ = _
            simp only [Act.put,sA_,sZ_,sS_,i64_w,i32_w]
            rfl
           refine pU_ 14 26 b17_15 ?_
           refine pU_ 15 27 b17_16 ?_
           refine pU_ 16 28 b17_17 ?_
           refine done_ (done_of HT_.out Q2) ?_
           try go_wp2
           go_roundg k1
           case measure=>have:=HK1.out;omega
           case rel=>exact ⟨(wrap64 (x7_1 + 1)),Q7,H',⟨Q4⟩,⟨Q62⟩⟩
          ·replace c15:=Bool.eq_false_iff.mpr c15
           subst c15
           have H1 : (some false) = some r:=by rw [if_neg (show ¬ (false = true) by decide)] at H;exact H
           clear H
           have H:=H1
           clear H1
           obtain rfl:=Option.some.inj H
           have p290 : 0 ≤ (x7_1 : Int):=of_decide_eq_true Q8
           have q290 : x7_1 < (l0.length : Int):=of_decide_eq_true Q8
           obtain ⟨ad290,e290,hx290_0,hx290_1,hx290_2,hx290_3,hx290_4⟩:=at_T38 HR0.out x7_1 p290 q290
           cases e290
           replace hx290_0:=cb_ HB hx290_0
           replace hx290_1:=cb_ HB hx290_1
           replace hx290_2:=cb_ HB hx290_2
           replace hx290_3:=cb_ HB hx290_3
           replace hx290_4:=cb_ HB hx290_4
           replace p290:=eq_true p290
           replace q290:=eq_true q290
           try go_wp2_with (first|((with_reducible refine gate_dst (N:=4) rfl ?_);refine box_event ?hg (N:=4) ?hd (cs:=#[.int .i64 0,.int .i64 0,.int .i64 0,.int .i64 0,.int .i64 0]) (t:=38) ?hr ?_;(case hd=>rfl);(case hg=>rfl);(case hr=>first|(go_simp;done)|(go_simp;rfl));intro gb291 hg w21 hbox hb;have n0_:=Aside0.mk (below_step Q46 hb);have n1_:=Aside0.mk (hbox);have n2_:=Aside0.mk ((Q106 : w.heap.size ≤ gb291));have n3_:=n2_;clear HB;have HB:=n0_;have BK291:=n1_;have GW291:=n2_;have GE291:=n3_;clear n0_ n1_ n2_ n3_;clear hb hbox hg;obtain ⟨hcz22_0,hcz22_1,hcz22_2,hcz22_3,hcz22_4,hfz22_0,hfz22_1,hfz22_2,hfz22_3,hfz22_4⟩:=bx5_ BK291))
           have n0_ : Aside0 ((((((w21.setCell ⟨gb291,0,none⟩ (.int .i64 ((rd_T38 l0 x7_1).f0))).setCell ⟨gb291,1,none⟩ (.int .i64 ((rd_T38 l0 x7_1).f1))).setCell ⟨gb291,2,none⟩ (.int .i64 ((rd_T38 l0 x7_1).f2.f0))).setCell ⟨gb291,3,none⟩ (.int .i64 ((rd_T38 l0 x7_1).f2.f1))).setCell ⟨gb291,4,none⟩ (.int .i64 ((rd_T38 l0 x7_1).f3))).heap[gb291]? = some (.cells #[.int .i64 ((rd_T38 l0 x7_1).f0),.int .i64 ((rd_T38 l0 x7_1).f1),.int .i64 ((rd_T38 l0 x7_1).f2.f0),.int .i64 ((rd_T38 l0 x7_1).f2.f1),.int .i64 ((rd_T38 l0 x7_1).f3)] 38 (0,0))):=⟨Q105⟩
           have n1_ : Aside0 (Below w.heap.size w (((((w21.setCell ⟨gb291,0,none⟩ (.int .i64 ((rd_T38 l0 x7_1).f0))).setCell ⟨gb291,1,none⟩ (.int .i64 ((rd_T38 l0 x7_1).f1))).setCell ⟨gb291,2,none⟩ (.int .i64 ((rd_T38 l0 x7_1).f2.f0))).setCell ⟨gb291,3,none⟩ (.int .i64 ((rd_T38 l0 x7_1).f2.f1))).setCell ⟨gb291,4,none⟩ (.int .i64 ((rd_T38 l0 x7_1).f3)))):=⟨Q62⟩
           (try clear BK291)
           (try clear HB)
           generalize (((((w21.setCell ⟨gb291,0,none⟩ (.int .i64 ((rd_T38 l0 x7_1).f0))).setCell ⟨gb291,1,none⟩ (.int .i64 ((rd_T38 l0 x7_1).f1))).setCell ⟨gb291,2,none⟩ (.int .i64 ((rd_T38 l0 x7_1).f2.f0))).setCell ⟨gb291,3,none⟩ (.int .i64 ((rd_T38 l0 x7_1).f2.f1))).setCell ⟨gb291,4,none⟩ (.int .i64 ((rd_T38 l0 x7_1).f3))) = w23 at n0_ n1_ ⊢
           have BK291:=n0_
           have HB:=n1_
           clear n0_ n1_
           have n0_:=Aside0.mk (blk_drew BK291.out)
           have n1_:=Aside0.mk (below_drew1 HB.out)
           clear BK291
           clear HB
           have BK291:=n0_
           have HB:=n1_
           clear n0_ n1_
           have p292 : 0 ≤ ((ji11) : Int):=of_decide_eq_true Q8
           have q292 : (ji11) < (l0.length : Int):=of_decide_eq_true Q8
           obtain ⟨ad292,e292,hx292_0,hx292_1,hx292_2,hx292_3,hx292_4⟩:=at_T38 HR0.out (ji11) p292 q292
           have hw292_4:=hx292_4
           have hw292_3:=hx292_3
           have hw292_2:=hx292_2
           have hw292_1:=hx292_1
           have hw292_0:=hx292_0
           obtain rfl : ad290 = ad292:=(by injection e292)
           replace hx292_0:=cb_ HB hx292_0
           replace hx292_1:=cb_ HB hx292_1
           replace hx292_2:=cb_ HB hx292_2
           replace hx292_3:=cb_ HB hx292_3
           replace hx292_4:=cb_ HB hx292_4
           replace p292:=eq_true p292
           replace q292:=eq_true q292
           refine start_ (n:=17) (S:=fun w'=>w'.cell? ⟨gb291,0,none⟩ = some (.int .i64 ((rd_T38 l0 x7_1).f0)) ∧ w'.cell? ⟨gb291,1,none⟩ = some (.int .i64 ((rd_T38 l0 x7_1).f1)) ∧ w'.cell? ⟨gb291,2,none⟩ = some (.int .i64 ((rd_T38 l0 x7_1).f2.f0)) ∧ w'.cell? ⟨gb291,3,none⟩ = some (.int .i64 ((rd_T38 l0 x7_1).f2.f1)) ∧ w'.cell? ⟨gb291,4,none⟩ = some (.int .i64 ((rd_T38 l0 x7_1).f3)) ∧ w'.cell? (ad290.add (((ji11)).toNat * 5)) = some (.int .i64 ((rd_T38 l0 (ji11)).f0)) ∧ w'.cell? ⟨(ad290.add (((ji11)).toNat * 5)).block,(ad290.add (((ji11)).toNat * 5)).off + 1,none⟩ = some (.int .i64 ((rd_T38 l0 (ji11)).f1)) ∧ w'.cell? ⟨(ad290.add (((ji11)).toNat * 5)).block,(ad290.add (((ji11)).toNat * 5)).off + 2,none⟩ = some (.int .i64 ((rd_T38 l0 (ji11)).f2.f0)) ∧ w'.cell? ⟨(ad290.add (((ji11)).toNat * 5)).block,(ad290.add (((ji11)).toNat * 5)).off + 3,none⟩ = some (.int .i64 ((rd_T38 l0 (ji11)).f2.f1)) ∧ w'.cell? ⟨(ad290.add (((ji11)).toNat * 5)).block,(ad290.add (((ji11)).toNat * 5)).off + 4,none⟩ = some (.int .i64 ((rd_T38 l0 (ji11)).f3))) (ds:=[]) b17_0 Q2 rfl rfl ⟨(blk_cell BK291.out 0).trans rfl,(blk_cell BK291.out 1).trans rfl,(blk_cell BK291.out 2).trans rfl,(blk_cell BK291.out 3).trans rfl,(blk_cell BK291.out 4).trans rfl,(cb_ HB hw292_0:),(cb_ HB hw292_1:),(cb_ HB hw292_2:),(cb_ HB hw292_3:),(cb_ HB hw292_4:)⟩ (fun hHeld=>?_);refine with_tabW impl_BatchOk.tab4 impl_BatchOk.bits4 (fun HT_ HW_=>?_)
           generalize w23.drew = w24 at BK291 HB hx292_0 hx292_1 hx292_2 hx292_3 hx292_4 hHeld ⊢
           refine pU_ 0 12 b17_1 ?_
           refine tU_ 1 13 b17_2 hHeld ?_
           refine pU_ 2 14 b17_3 ?_
           refine pU_ 3 15 b17_4 ?_
           refine pU_ 4 16 b17_5 ?_
           refine pU_ 5 17 b17_6 ?_
           refine pU_ 6 18 b17_7 ?_
           refine pU_ 7 19 b17_8 ?_
           refine pU_ 8 20 b17_9 ?_
           refine pU_ 9 21 b17_10 ?_
           refine pU_ 10 22 b17_11 ?_
           refine tU_ 11 23 b17_12 hHeld ?_
           refine tU_ 12 24 b17_13 hHeld ?_
           refine one_ (i:=13) (N:=some 25) b17_14 rfl rfl (one_of HT_.out Q2) Q1 (fun K hK=>?_)
           refine goes_ Try.func64 Q2 rfl #[.agg #[.int .i64 ((rd_T38 l0 (ji11)).f0),.int .i64 ((rd_T38 l0 (ji11)).f1),.int .i64 ((rd_T38 l0 (ji11)).f2.f0),.int .i64 ((rd_T38 l0 (ji11)).f2.f1),.int .i64 ((rd_T38 l0 (ji11)).f3)],.agg #[.int .i64 ((rd_T38 l0 x7_1).f0),.int .i64 ((rd_T38 l0 x7_1).f1),.int .i64 ((rd_T38 l0 x7_1).f2.f0),.int .i64 ((rd_T38 l0 x7_1).f2.f1),.int .i64 ((rd_T38 l0 x7_1).f3)]] (by rfl) rfl rfl (by (try simp only [List.map_toArray,List.map_cons,List.map_nil]);first|done|(simp only [hji11];rfl)|rfl|(simp only [List.length_drop,List.length_take];rfl)) ?_
           with_reducible refine (impl_rowAhead.calls ((rd_T38 l0 (ji11)).f0) ((rd_T38 l0 (ji11)).f1) ((rd_T38 l0 (ji11)).f2.f0) ((rd_T38 l0 (ji11)).f2.f1) ((rd_T38 l0 (ji11)).f3) ((rd_T38 l0 x7_1).f0) ((rd_T38 l0 x7_1).f1) ((rd_T38 l0 x7_1).f2.f0) ((rd_T38 l0 x7_1).f2.f1) ((rd_T38 l0 x7_1).f3) false _ A14.out).mono ?_
           rintro e w25 ⟨rfl,hb⟩
           refine ⟨_,rfl,?_⟩
           have n0_:=Aside0.mk (blk_below (g:=gb291) (o:=.cells #[.int .i64 ((rd_T38 l0 x7_1).f0),.int .i64 ((rd_T38 l0 x7_1).f1),.int .i64 ((rd_T38 l0 x7_1).f2.f0),.int .i64 ((rd_T38 l0 x7_1).f2.f1),.int .i64 ((rd_T38 l0 x7_1).f3)] 38 (0,0)) (by (with_reducible repeat (first|refine blk_drewN ?_ _|refine blk_drew ?_|refine blk_alloc ?_ _));exact BK291.out) hb)
           have n1_:=Aside0.mk (below_step Q62 hb)
           clear BK291
           clear HB
           have BK291:=n0_
           have HB:=n1_
           clear n0_ n1_
           (try clear hb)
           (try clear hb2)
           (try clear hk)
           (try clear hi)
           refine hK.out _ _ ⟨(blk_cell BK291.out 0).trans rfl,(blk_cell BK291.out 1).trans rfl,(blk_cell BK291.out 2).trans rfl,(blk_cell BK291.out 3).trans rfl,(blk_cell BK291.out 4).trans rfl,(cb_ HB hw292_0:),(cb_ HB hw292_1:),(cb_ HB hw292_2:),(cb_ HB hw292_3:),(cb_ HB hw292_4:)⟩ (fun hHeld=>?_)
           clear hK K
           refine norm_ (a':=?_) ?_ ?_
           rotate_left
           ·show Act.put _ (some 25) _ = _
            simp only [Act.put,sA_,sZ_,sS_,i64_w,i32_w]
            rfl
           refine pU_ 14 26 b17_15 ?_
           refine pU_ 15 27 b17_16 ?_
           refine pU_ 16 28 b17_17 ?_
           refine done_ (done_of HT_.out Q2) ?_
           try go_wp2
           go_ret
           exact ⟨by first|rfl|(simp [errW_none,errW_some] <;> rfl)|(simp only [← hji11];first|rfl|(simp [errW_none,errW_some] <;> rfl))|(simp [*,errW_none,errW_some] <;> rfl),Q62⟩
         ·rw [if_neg c13] at H
          exact absurd H Q0
        ·rw [if_neg c12] at H
         exact absurd H Q0
       ·rw [if_neg c10] at H
        have c10b0 : decide (0 < x7_1) = false:=decide_eq_false c10
        clear c10
        have H':=Aside0.mk H
        clear H
        have p290 : 0 ≤ (x7_1 : Int):=of_decide_eq_true Q8
        have q290 : x7_1 < (l0.length : Int):=of_decide_eq_true Q8
        obtain ⟨ad290,e290,hx290_0,hx290_1,hx290_2,hx290_3,hx290_4⟩:=at_T38 HR0.out x7_1 p290 q290
        cases e290
        replace hx290_0:=cb_ HB hx290_0
        replace hx290_1:=cb_ HB hx290_1
        replace hx290_2:=cb_ HB hx290_2
        replace hx290_3:=cb_ HB hx290_3
        replace hx290_4:=cb_ HB hx290_4
        replace p290:=eq_true p290
        replace q290:=eq_true q290
        try go_wp2_with (first|((with_reducible refine gate_dst (N:=4) rfl ?_);refine box_event ?hg (N:=4) ?hd (cs:=#[.int .i64 0,.int .i64 0,.int .i64 0,.int .i64 0,.int .i64 0]) (t:=38) ?hr ?_;(case hd=>rfl);(case hg=>rfl);(case hr=>first|(go_simp;done)|(go_simp;rfl));intro gb291 hg w26 hbox hb;have n0_:=Aside0.mk (below_step Q46 hb);have n1_:=Aside0.mk (hbox);have n2_:=Aside0.mk ((Q106 : w.heap.size ≤ gb291));have n3_:=n2_;clear HB;have HB:=n0_;have BK291:=n1_;have GW291:=n2_;have GE291:=n3_;clear n0_ n1_ n2_ n3_;clear hb hbox hg;obtain ⟨hcz27_0,hcz27_1,hcz27_2,hcz27_3,hcz27_4,hfz27_0,hfz27_1,hfz27_2,hfz27_3,hfz27_4⟩:=bx5_ BK291))
        have n0_ : Aside0 ((((((w26.setCell ⟨gb291,0,none⟩ (.int .i64 ((rd_T38 l0 x7_1).f0))).setCell ⟨gb291,1,none⟩ (.int .i64 ((rd_T38 l0 x7_1).f1))).setCell ⟨gb291,2,none⟩ (.int .i64 ((rd_T38 l0 x7_1).f2.f0))).setCell ⟨gb291,3,none⟩ (.int .i64 ((rd_T38 l0 x7_1).f2.f1))).setCell ⟨gb291,4,none⟩ (.int .i64 ((rd_T38 l0 x7_1).f3))).heap[gb291]? = some (.cells #[.int .i64 ((rd_T38 l0 x7_1).f0),.int .i64 ((rd_T38 l0 x7_1).f1),.int .i64 ((rd_T38 l0 x7_1).f2.f0),.int .i64 ((rd_T38 l0 x7_1).f2.f1),.int .i64 ((rd_T38 l0 x7_1).f3)] 38 (0,0))):=⟨Q105⟩
        have n1_ : Aside0 (Below w.heap.size w (((((w26.setCell ⟨gb291,0,none⟩ (.int .i64 ((rd_T38 l0 x7_1).f0))).setCell ⟨gb291,1,none⟩ (.int .i64 ((rd_T38 l0 x7_1).f1))).setCell ⟨gb291,2,none⟩ (.int .i64 ((rd_T38 l0 x7_1).f2.f0))).setCell ⟨gb291,3,none⟩ (.int .i64 ((rd_T38 l0 x7_1).f2.f1))).setCell ⟨gb291,4,none⟩ (.int .i64 ((rd_T38 l0 x7_1).f3)))):=⟨Q62⟩
        (try clear BK291)
        (try clear HB)
        generalize (((((w26.setCell ⟨gb291,0,none⟩ (.int .i64 ((rd_T38 l0 x7_1).f0))).setCell ⟨gb291,1,none⟩ (.int .i64 ((rd_T38 l0 x7_1).f1))).setCell ⟨gb291,2,none⟩ (.int .i64 ((rd_T38 l0 x7_1).f2.f0))).setCell ⟨gb291,3,none⟩ (.int .i64 ((rd_T38 l0 x7_1).f2.f1))).setCell ⟨gb291,4,none⟩ (.int .i64 ((rd_T38 l0 x7_1).f3))) = w28 at n0_ n1_ ⊢
        have BK291:=n0_
        have HB:=n1_
        clear n0_ n1_
        have n0_:=Aside0.mk (blk_drew BK291.out)
        have n1_:=Aside0.mk (below_drew1 HB.out)
        clear BK291
        clear HB
        have BK291:=n0_
        have HB:=n1_
        clear n0_ n1_
        refine start_ (n:=17) (S:=fun w'=>w'.cell? ⟨gb291,0,none⟩ = some (.int .i64 ((rd_T38 l0 x7_1).f0)) ∧ w'.cell? ⟨gb291,1,none⟩ = some (.int .i64 ((rd_T38 l0 x7_1).f1)) ∧ w'.cell? ⟨gb291,2,none⟩ = some (.int .i64 ((rd_T38 l0 x7_1).f2.f0)) ∧ w'.cell? ⟨gb291,3,none⟩ = some (.int .i64 ((rd_T38 l0 x7_1).f2.f1)) ∧ w'.cell? ⟨gb291,4,none⟩ = some (.int .i64 ((rd_T38 l0 x7_1).f3))) (ds:=[]) b17_0 Q2 rfl rfl ⟨(blk_cell BK291.out 0).trans rfl,(blk_cell BK291.out 1).trans rfl,(blk_cell BK291.out 2).trans rfl,(blk_cell BK291.out 3).trans rfl,(blk_cell BK291.out 4).trans rfl⟩ (fun hHeld=>?_);refine with_tabW impl_BatchOk.tab4 impl_BatchOk.bits4 (fun HT_ HW_=>?_)
        generalize w28.drew = w29 at BK291 HB hHeld ⊢
        refine pU_ 0 12 b17_1 ?_
        refine tU_ 1 13 b17_2 hHeld ?_
        refine pU_ 2 14 b17_3 ?_
        refine pU_ 3 15 b17_4 ?_
        refine pU_ 4 16 b17_5 ?_
        refine pU_ 5 17 b17_6 ?_
        refine pU_ 6 18 b17_7 ?_
        refine pV_ 7 19 b17_8 ?_
        refine pV_ 8 20 b17_9 ?_
        refine pV_ 9 21 b17_10 ?_
        refine pV_ 10 22 b17_11 ?_
        refine pV_ 11 23 b17_12 ?_
        refine pV_ 12 24 b17_13 ?_
        refine pV_ 13 25 b17_14 ?_
        refine pV_ 14 26 b17_15 ?_
        refine pU_ 15 27 b17_16 ?_
        refine pU_ 16 28 b17_17 ?_
        refine done_ (done_of HT_.out Q2) ?_
        try go_wp2
        go_roundg k1
        case measure=>have:=HK1.out;omega
        case rel=>exact ⟨(wrap64 (x7_1 + 1)),Q7,H',⟨Q4⟩,⟨Q62⟩⟩
     ·rw [if_neg c4] at H
      exact absurd H Q0
    ·rw [if_neg c3] at H
     exact absurd H Q0
   ·rw [if_neg c2] at H
    have c2b0 : decide (x7_1 < (l0.length : Int)) = false:=decide_eq_false c2
    clear c2
    replace H:=Option.bind_eq_some_iff.mp H
    obtain ⟨t294,A300,H⟩:=H
    replace H : (some t294) = some r:=H
    have A30:=Aside0.mk A300
    clear A300
    obtain rfl:=Option.some.inj H
    go_wp2_with (first|((with_reducible refine gate_callee (f:=39) rfl ?_);refine goesL_ (some 31) rfl rfl Try.func39 Q2 rfl #[.slice A0 l0.length c0] rfl Q50 ?_;(with_reducible refine (impl_RowsOk.calls k1 _ _ l0 t294 _ ?side1 ?side2 A30.out).mono ?_);(case side1=>exact Q73);(case side2=>exact HC0.out);rintro e w31 ⟨rfl,hb⟩;refine ⟨_,rfl,?_⟩;have n0_:=Aside0.mk (below_step Q46 hb);clear HB;have HB:=n0_;clear n0_;(try clear hb);(try clear hb2);(try clear hk);(try clear hi)))
    go_ret
    exact ⟨Q11,Q46⟩
def impl_below.f (a0_0 : Int) (a0_1 : Int) (a1_0 : Int) (a1_1 : Int) : Option (Bool) := if a0_0 ≤ a1_0 then (some (decide (a0_1 ≤ a1_1))) else (some false)
set_option maxHeartbeats 8000000 in
set_option maxRecDepth 100000 in
theorem impl_below.calls (a0_0 : Int) (a0_1 : Int) (a1_0 : Int) (a1_1 : Int) (r : Bool) (w : World) (h : impl_below.f a0_0 a0_1 a1_0 a1_1 = some r) :
  Calls Try.prog 90 #[.agg #[.int .i64 a0_0,.int .i64 a0_1],.agg #[.int .i64 a1_0,.int .i64 a1_1]] w fun e w'=>e = .returned (.bool r) ∧ Below w.heap.size w w':=by
 have hu36:=Try.underlying36
 have HB:=Aside0.mk (Below.refl w.heap.size w)
 have H : (if a0_0 ≤ a1_0 then (some (decide (a0_1 ≤ a1_1))) else (some false)) = some r:=h
 clear h
 by_cases c3 : a0_0 ≤ a1_0
 ·rw [if_pos c3] at H
  have c3b0 : decide (a0_0 ≤ a1_0) = true:=decide_eq_true c3
  clear c3
  obtain rfl:=Option.some.inj H
  go_enter Try.func90,Try.ntmps90
  go_wp2_with (first|((with_reducible refine gate_dst (N:=2) rfl ?_);refine box_event ?hg (N:=2) ?hd (cs:=#[.int .i64 a0_0,.int .i64 a0_1]) (t:=36) ?hr ?_;(case hd=>rfl);(case hg=>rfl);(case hr=>first|(go_simp;done)|(go_simp;rfl));intro gb295 hg w4 hbox hb;have n0_:=Aside0.mk (below_step Q46 hb);have n1_:=Aside0.mk (hbox);have n2_:=Aside0.mk ((Q106 : w.heap.size ≤ gb295));have n3_:=n2_;clear HB;have HB:=n0_;have BK295:=n1_;have GW295:=n2_;have GE295:=n3_;clear n0_ n1_ n2_ n3_;clear hb hbox hg)|((with_reducible refine gate_dst (N:=3) rfl ?_);refine box_event ?hg (N:=3) ?hd (cs:=#[.int .i64 a1_0,.int .i64 a1_1]) (t:=36) ?hr ?_;(case hd=>rfl);(case hg=>rfl);(case hr=>first|(go_simp;done)|(go_simp;rfl));intro gb296 hg w5 hbox hb;have n0_:=Aside0.mk (blk_below (g:=gb295) (o:=.cells #[.int .i64 a0_0,.int .i64 a0_1] 36 (0,0)) Q35 hb);have n1_:=Aside0.mk (below_step Q63 hb);have n2_:=Aside0.mk (hbox);have n3_:=Aside0.mk ((by rw [hg];exact (below_size Q63) : w.heap.size ≤ gb296));have n4_:=n3_;have n5_:=Aside0.mk ((by rw [hg];exact Nat.ne_of_lt (blk_lt (g:=gb295) (o:=.cells #[.int .i64 a0_0,.int .i64 a0_1] 36 (0,0)) Q35) : gb295 ≠ gb296));have n6_:=Aside0.mk ((by rw [hg];exact Nat.ne_of_gt (blk_lt (g:=gb295) (o:=.cells #[.int .i64 a0_0,.int .i64 a0_1] 36 (0,0)) Q35) : gb296 ≠ gb295));clear BK295;clear HB;have BK295:=n0_;have HB:=n1_;have BK296:=n2_;have GW296:=n3_;have GE296:=n4_;have NB295_296:=n5_;have NB296_295:=n6_;clear n0_ n1_ n2_ n3_ n4_ n5_ n6_;clear hb hbox hg;have hnb6:=NB295_296.out;have hnc6:=NB296_295.out;obtain ⟨hcz7_0,hcz7_1,hfz7_0,hfz7_1⟩:=bx2_ BK295;obtain ⟨hcz8_0,hcz8_1,hfz8_0,hfz8_1⟩:=bx2_ BK296))
  go_ret
  exact ⟨Q11,by repeat (first|(with_reducible first|exact HB.out|apply below_alloc|apply pw_below_drewN|apply below_drew1|refine below_set ?_ GE295.out|refine below_set ?_ GE296.out)|exact HB.out)⟩
 ·rw [if_neg c3] at H
  have c3b0 : decide (a0_0 ≤ a1_0) = false:=decide_eq_false c3
  clear c3
  obtain rfl:=Option.some.inj H
  go_enter Try.func90,Try.ntmps90
  go_wp2_with (first|((with_reducible refine gate_dst (N:=2) rfl ?_);refine box_event ?hg (N:=2) ?hd (cs:=#[.int .i64 a0_0,.int .i64 a0_1]) (t:=36) ?hr ?_;(case hd=>rfl);(case hg=>rfl);(case hr=>first|(go_simp;done)|(go_simp;rfl));intro gb295 hg w9 hbox hb;have n0_:=Aside0.mk (below_step Q46 hb);have n1_:=Aside0.mk (hbox);have n2_:=Aside0.mk ((Q106 : w.heap.size ≤ gb295));have n3_:=n2_;clear HB;have HB:=n0_;have BK295:=n1_;have GW295:=n2_;have GE295:=n3_;clear n0_ n1_ n2_ n3_;clear hb hbox hg)|((with_reducible refine gate_dst (N:=3) rfl ?_);refine box_event ?hg (N:=3) ?hd (cs:=#[.int .i64 a1_0,.int .i64 a1_1]) (t:=36) ?hr ?_;(case hd=>rfl);(case hg=>rfl);(case hr=>first|(go_simp;done)|(go_simp;rfl));intro gb296 hg w10 hbox hb;have n0_:=Aside0.mk (blk_below (g:=gb295) (o:=.cells #[.int .i64 a0_0,.int .i64 a0_1] 36 (0,0)) Q35 hb);have n1_:=Aside0.mk (below_step Q63 hb);have n2_:=Aside0.mk (hbox);have n3_:=Aside0.mk ((by rw [hg];exact (below_size Q63) : w.heap.size ≤ gb296));have n4_:=n3_;have n5_:=Aside0.mk ((by rw [hg];exact Nat.ne_of_lt (blk_lt (g:=gb295) (o:=.cells #[.int .i64 a0_0,.int .i64 a0_1] 36 (0,0)) Q35) : gb295 ≠ gb296));have n6_:=Aside0.mk ((by rw [hg];exact Nat.ne_of_gt (blk_lt (g:=gb295) (o:=.cells #[.int .i64 a0_0,.int .i64 a0_1] 36 (0,0)) Q35) : gb296 ≠ gb295));clear BK295;clear HB;have BK295:=n0_;have HB:=n1_;have BK296:=n2_;have GW296:=n3_;have GE296:=n4_;have NB295_296:=n5_;have NB296_295:=n6_;clear n0_ n1_ n2_ n3_ n4_ n5_ n6_;clear hb hbox hg;have hnb11:=NB295_296.out;have hnc11:=NB296_295.out;obtain ⟨hcz12_0,hcz12_1,hfz12_0,hfz12_1⟩:=bx2_ BK295;obtain ⟨hcz13_0,hcz13_1,hfz13_0,hfz13_1⟩:=bx2_ BK296))
  go_ret
  exact ⟨Q11,by repeat (first|(with_reducible first|exact HB.out|apply below_alloc|apply pw_below_drewN|apply below_drew1|refine below_set ?_ GE295.out|refine below_set ?_ GE296.out)|exact HB.out)⟩
def impl_present.l0 : Nat → List (S83) → List (S38) → Int → Int → Int → Int → Option ((List (S83)))
 | 0, _, _, _, _, _, _ => none
 | k + 1, x5, x9, x10, x11, x300000, x300001 => if x11 < x10 then (if 0 ≤ x11 then (if x11 < (x9.length : Int) then ((impl_below.f ((rd_T38 x9 x11).f2.f0) ((rd_T38 x9 x11).f2.f1) x300000 x300001).bind fun t305 => (if t305 = true then (if x5.length < 5864062014805 then (impl_present.l0 k (x5 ++ [(⟨(rd_T38 x9 x11).f0, (rd_T38 x9 x11).f1, (rd_T38 x9 x11).f3⟩ : S83)]) x9 x10 (wrap64 (x11 + 1)) x300000 x300001) else (none)) else (impl_present.l0 k x5 x9 x10 (wrap64 (x11 + 1)) x300000 x300001))) else (none)) else (none)) else ((impl_gathered.f x5).bind fun t309 => (some t309))
end Go.Proofs.Ytjlkffmdmifahaa.PFnBatchOf
