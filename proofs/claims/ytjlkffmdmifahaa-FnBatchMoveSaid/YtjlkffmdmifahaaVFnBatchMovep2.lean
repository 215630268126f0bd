/- Functions that the law comes to: each as a plain Lean function, with the contract of the Go function. -/
import Derived.Test.YtjlkffmdmifahaaVFnBatchMovew
import Derived.Test.YtjlkffmdmifahaaVFnBatchMovep0
import Derived.Test.YtjlkffmdmifahaaVFnBatchMovep1
namespace Go.Proofs.Ytjlkffmdmifahaa.PFnBatchMove
open Go.RowKit Go.Proofs.YtjlkffmdmifahaaW.PrintWords Go.Proofs.YtjlkffmdmifahaaW.PrintLast Go.Proofs.YtjlkffmdmifahaaW.PrintMore
attribute [local go_sem] max2_int min2_int max_two min_two max_three min_three max_four min_four
set_option linter.unusedVariables false
set_option linter.unusedSimpArgs false
attribute [local go_sem high] eqA36 eqA38 eqA83
set_option maxHeartbeats 8000000 in
set_option maxRecDepth 100000 in
theorem spec_l71Spoil.calls (k : Nat) (g : Nat) (s0_0 : List Int) (s0_1 : Int) (A1 : Option Addr) (c1 : Nat) (l1 : List (S38)) (r1 : List (S38)) (r2 : Int) (w0 w : World) (hI : IsS87 w0 w g s0_0 s0_1) (hB : Below w0.heap.size w0 w) (hr1 : ∀ W_,KeepBut w W_ g none → Kd.C k38 W_ A1 l1.length l1) (hc1 : l1.length ≤ c1) (h : spec_l71Spoil.f k s0_0 s0_1 l1 = some (r1,r2)) :
  Calls Try.prog 81 #[.pointer (some ⟨g,0,none⟩),.slice A1 l1.length c1] w fun e w'=>∃ v0_ : Value,e = .returned (v0_) ∧ Kd.R k38 38 w' w.heap.size (fun _=>True) v0_ r1 ∧ IsS87 w0 w' g s0_0 r2 ∧ Below w0.heap.size w0 w' ∧ KeepBut w w' g none:=by
 have hu38:=Try.underlying38
 have hu36:=Try.underlying36
 have HR1:=Aside0.mk hr1
 have HC1:=Aside0.mk hc1
 clear hr1 hc1
 have HI0:=Aside0.mk hI
 have HK:=am (KeepBut.refl w g none)
 have HL:=Aside0.mk hB.size
 clear hI
 have HW0:=Aside0.mk hB.size
 have HB:=Aside0.mk hB
 clear hB
 have H : ((spec_l71Row.f k s0_0 s0_1).bind fun bt165=>((spec_l6Rd_pick.f k s0_0 bt165.2.2.2.2.2 5).bind fun bt172=>(if bt172.1 = 0 then ((some (([(-1),4] : List Int) : List Int)).bind fun y174=>((spec_l6Rd_pick.f k s0_0 bt172.2 2).bind fun bt177=>(if 0 ≤ bt177.1 then (if bt177.1 < (y174.length : Int) then ((some (([] : List (S38)) : List (S38))).bind fun y180=>(if y180.length + l1.length < 3518437208883 then ((some (y180 ++ l1 : List (S38))).bind fun y183=>((some (([(⟨rd y174 bt177.1,bt165.2.1,(⟨bt165.2.2.1,bt165.2.2.2.1⟩ : S36),bt165.2.2.2.2.1⟩ : S38)] : List (S38)) : List (S38))).bind fun y186=>(if y183.length + y186.length < 3518437208883 then (some ((y183 ++ y186),bt177.2)) else (none)))) else (none))) else (none)) else (none)))) else (if bt172.1 = 1 then ((some (([(-1),100] : List Int) : List Int)).bind fun y192=>((spec_l6Rd_pick.f k s0_0 bt172.2 2).bind fun bt195=>(if 0 ≤ bt195.1 then (if bt195.1 < (y192.length : Int) then ((some (([] : List (S38)) : List (S38))).bind fun y198=>(if y198.length + l1.length < 3518437208883 then ((some (y198 ++ l1 : List (S38))).bind fun y201=>((some (([(⟨bt165.1,rd y192 bt195.1,(⟨bt165.2.2.1,bt165.2.2.2.1⟩ : S36),bt165.2.2.2.2.1⟩ : S38)] : List (S38)) : List (S38))).bind fun y204=>(if y201.length + y204.length < 3518437208883 then (some ((y201 ++ y204),bt195.2)) else (none)))) else (none))) else (none)) else (none)))) else (if bt172.1 = 2 then ((some (([] : List (S38)) : List (S38))).bind fun y210=>(if y210.length + l1.length < 3518437208883 then ((some (y210 ++ l1 : List (S38))).bind fun y213=>((some (([(⟨bt165.1,bt165.2.1,(⟨(-1),0⟩ : S36),bt165.2.2.2.2.1⟩ : S38)] : List (S38)) : List (S38))).bind fun y216=>(if y213.length + y216.length < 3518437208883 then (some ((y213 ++ y216),bt172.2)) else (none)))) else (none))) else (if bt172.1 = 3 then ((some (([(-100000),100000] : List Int) : List Int)).bind fun y222=>((spec_l6Rd_pick.f k s0_0 bt172.2 2).bind fun bt225=>(if 0 ≤ bt225.1 then (if bt225.1 < (y222.length : Int) then ((some (([] : List (S38)) : List (S38))).bind fun y228=>(if y228.length + l1.length < 3518437208883 then ((some (y228 ++ l1 : List (S38))).bind fun y231=>((some (([(⟨bt165.1,bt165.2.1,(⟨bt165.2.2.1,bt165.2.2.2.1⟩ : S36),rd y222 bt225.1⟩ : S38)] : List (S38)) : List (S38))).bind fun y234=>(if y231.length + y234.length < 3518437208883 then (some ((y231 ++ y234),bt225.2)) else (none)))) else (none))) else (none)) else (none)))) else ((some (([] : List (S38)) : List (S38))).bind fun y240=>(if y240.length + l1.length < 3518437208883 then ((some (y240 ++ l1 : List (S38))).bind fun y243=>((some (([(⟨bt165.1,bt165.2.1,(⟨bt165.2.2.1,8⟩ : S36),bt165.2.2.2.2.1⟩ : S38)] : List (S38)) : List (S38))).bind fun y246=>(if y243.length + y246.length < 3518437208883 then (some ((y243 ++ y246),bt172.2)) else (none)))) else (none))))))))) = some (r1,r2):=h
 clear h
 replace H:=Option.bind_eq_some_iff.mp H
 obtain ⟨⟨t165,t166,t167,t168,t169,t170⟩,A30,H⟩:=H
 replace H : ((spec_l6Rd_pick.f k s0_0 t170 5).bind fun bt172=>(if bt172.1 = 0 then ((some (([(-1),4] : List Int) : List Int)).bind fun y174=>((spec_l6Rd_pick.f k s0_0 bt172.2 2).bind fun bt177=>(if 0 ≤ bt177.1 then (if bt177.1 < (y174.length : Int) then ((some (([] : List (S38)) : List (S38))).bind fun y180=>(if y180.length + l1.length < 3518437208883 then ((some (y180 ++ l1 : List (S38))).bind fun y183=>((some (([(⟨rd y174 bt177.1,t166,(⟨t167,t168⟩ : S36),t169⟩ : S38)] : List (S38)) : List (S38))).bind fun y186=>(if y183.length + y186.length < 3518437208883 then (some ((y183 ++ y186),bt177.2)) else (none)))) else (none))) else (none)) else (none)))) else (if bt172.1 = 1 then ((some (([(-1),100] : List Int) : List Int)).bind fun y192=>((spec_l6Rd_pick.f k s0_0 bt172.2 2).bind fun bt195=>(if 0 ≤ bt195.1 then (if bt195.1 < (y192.length : Int) then ((some (([] : List (S38)) : List (S38))).bind fun y198=>(if y198.length + l1.length < 3518437208883 then ((some (y198 ++ l1 : List (S38))).bind fun y201=>((some (([(⟨t165,rd y192 bt195.1,(⟨t167,t168⟩ : S36),t169⟩ : S38)] : List (S38)) : List (S38))).bind fun y204=>(if y201.length + y204.length < 3518437208883 then (some ((y201 ++ y204),bt195.2)) else (none)))) else (none))) else (none)) else (none)))) else (if bt172.1 = 2 then ((some (([] : List (S38)) : List (S38))).bind fun y210=>(if y210.length + l1.length < 3518437208883 then ((some (y210 ++ l1 : List (S38))).bind fun y213=>((some (([(⟨t165,t166,(⟨(-1),0⟩ : S36),t169⟩ : S38)] : List (S38)) : List (S38))).bind fun y216=>(if y213.length + y216.length < 3518437208883 then (some ((y213 ++ y216),bt172.2)) else (none)))) else (none))) else (if bt172.1 = 3 then ((some (([(-100000),100000] : List Int) : List Int)).bind fun y222=>((spec_l6Rd_pick.f k s0_0 bt172.2 2).bind fun bt225=>(if 0 ≤ bt225.1 then (if bt225.1 < (y222.length : Int) then ((some (([] : List (S38)) : List (S38))).bind fun y228=>(if y228.length + l1.length < 3518437208883 then ((some (y228 ++ l1 : List (S38))).bind fun y231=>((some (([(⟨t165,t166,(⟨t167,t168⟩ : S36),rd y222 bt225.1⟩ : S38)] : List (S38)) : List (S38))).bind fun y234=>(if y231.length + y234.length < 3518437208883 then (some ((y231 ++ y234),bt225.2)) else (none)))) else (none))) else (none)) else (none)))) else ((some (([] : List (S38)) : List (S38))).bind fun y240=>(if y240.length + l1.length < 3518437208883 then ((some (y240 ++ l1 : List (S38))).bind fun y243=>((some (([(⟨t165,t166,(⟨t167,8⟩ : S36),t169⟩ : S38)] : List (S38)) : List (S38))).bind fun y246=>(if y243.length + y246.length < 3518437208883 then (some ((y243 ++ y246),bt172.2)) else (none)))) else (none)))))))) = some (r1,r2):=H
 have A3:=Aside0.mk A30
 clear A30
 replace H:=Option.bind_eq_some_iff.mp H
 obtain ⟨⟨t172,t173⟩,A40,H⟩:=H
 replace H : (if t172 = 0 then ((some (([(-1),4] : List Int) : List Int)).bind fun y174=>((spec_l6Rd_pick.f k s0_0 t173 2).bind fun bt177=>(if 0 ≤ bt177.1 then (if bt177.1 < (y174.length : Int) then ((some (([] : List (S38)) : List (S38))).bind fun y180=>(if y180.length + l1.length < 3518437208883 then ((some (y180 ++ l1 : List (S38))).bind fun y183=>((some (([(⟨rd y174 bt177.1,t166,(⟨t167,t168⟩ : S36),t169⟩ : S38)] : List (S38)) : List (S38))).bind fun y186=>(if y183.length + y186.length < 3518437208883 then (some ((y183 ++ y186),bt177.2)) else (none)))) else (none))) else (none)) else (none)))) else (if t172 = 1 then ((some (([(-1),100] : List Int) : List Int)).bind fun y192=>((spec_l6Rd_pick.f k s0_0 t173 2).bind fun bt195=>(if 0 ≤ bt195.1 then (if bt195.1 < (y192.length : Int) then ((some (([] : List (S38)) : List (S38))).bind fun y198=>(if y198.length + l1.length < 3518437208883 then ((some (y198 ++ l1 : List (S38))).bind fun y201=>((some (([(⟨t165,rd y192 bt195.1,(⟨t167,t168⟩ : S36),t169⟩ : S38)] : List (S38)) : List (S38))).bind fun y204=>(if y201.length + y204.length < 3518437208883 then (some ((y201 ++ y204),bt195.2)) else (none)))) else (none))) else (none)) else (none)))) else (if t172 = 2 then ((some (([] : List (S38)) : List (S38))).bind fun y210=>(if y210.length + l1.length < 3518437208883 then ((some (y210 ++ l1 : List (S38))).bind fun y213=>((some (([(⟨t165,t166,(⟨(-1),0⟩ : S36),t169⟩ : S38)] : List (S38)) : List (S38))).bind fun y216=>(if y213.length + y216.length < 3518437208883 then (some ((y213 ++ y216),t173)) else (none)))) else (none))) else (if t172 = 3 then ((some (([(-100000),100000] : List Int) : List Int)).bind fun y222=>((spec_l6Rd_pick.f k s0_0 t173 2).bind fun bt225=>(if 0 ≤ bt225.1 then (if bt225.1 < (y222.length : Int) then ((some (([] : List (S38)) : List (S38))).bind fun y228=>(if y228.length + l1.length < 3518437208883 then ((some (y228 ++ l1 : List (S38))).bind fun y231=>((some (([(⟨t165,t166,(⟨t167,t168⟩ : S36),rd y222 bt225.1⟩ : S38)] : List (S38)) : List (S38))).bind fun y234=>(if y231.length + y234.length < 3518437208883 then (some ((y231 ++ y234),bt225.2)) else (none)))) else (none))) else (none)) else (none)))) else ((some (([] : List (S38)) : List (S38))).bind fun y240=>(if y240.length + l1.length < 3518437208883 then ((some (y240 ++ l1 : List (S38))).bind fun y243=>((some (([(⟨t165,t166,(⟨t167,8⟩ : S36),t169⟩ : S38)] : List (S38)) : List (S38))).bind fun y246=>(if y243.length + y246.length < 3518437208883 then (some ((y243 ++ y246),t173)) else (none)))) else (none))))))) = some (r1,r2):=H
 have A4:=Aside0.mk A40
 clear A40
 by_cases c5 : t172 = 0
 case' pos =>
  rw [if_pos c5] at H
  have c5b0 : (t172 == 0) = true:=beq_iff_eq.mpr c5
  have c5b1 : (t172 != 0) = false:=bne_eq_false_iff_eq.mpr c5
  clear c5
  obtain ⟨y174,hy_⟩ : ∃ y_ : List Int,y_ = (([(-1),4] : List Int)):=⟨_,rfl⟩
  replace H : ((spec_l6Rd_pick.f k s0_0 t173 2).bind fun bt177=>(if 0 ≤ bt177.1 then (if bt177.1 < (y174.length : Int) then ((some (([] : List (S38)) : List (S38))).bind fun ya=>(if ya.length + l1.length < 3518437208883 then ((some (ya ++ l1 : List (S38))).bind fun yb=>((some (([(⟨rd y174 bt177.1,t166,(⟨t167,t168⟩ : S36),t169⟩ : S38)] : List (S38)) : List (S38))).bind fun yc=>(if yb.length + yc.length < 3518437208883 then (some ((yb ++ yc),bt177.2)) else (none)))) else (none))) else (none)) else (none))) = some (r1,r2):=Q162
  have Ny174:=Aside0.mk hy_
  clear hy_
  replace H:=Option.bind_eq_some_iff.mp H
  obtain ⟨⟨t177,tp⟩,A60,H⟩:=H
  replace H : (if 0 ≤ t177 then (if t177 < (y174.length : Int) then ((some (([] : List (S38)) : List (S38))).bind fun ya=>(if ya.length + l1.length < 3518437208883 then ((some (ya ++ l1 : List (S38))).bind fun yb=>((some (([(⟨rd y174 t177,t166,(⟨t167,t168⟩ : S36),t169⟩ : S38)] : List (S38)) : List (S38))).bind fun yc=>(if yb.length + yc.length < 3518437208883 then (some ((yb ++ yc),tp)) else (none)))) else (none))) else (none)) else (none)) = some (r1,r2):=H
  have A6:=Aside0.mk A60
  clear A60
  have c7 : 0 ≤ t177:=Classical.byContradiction fun hn_=>by rw [if_neg hn_] at H;exact absurd H (by simp)
  rw [if_pos c7] at H
  have c7b0 : decide (0 ≤ t177) = true:=decide_eq_true c7
  clear c7
  have c8 : t177 < (y174.length : Int):=Classical.byContradiction fun hn_=>by rw [if_neg hn_] at H;exact absurd H (by simp)
  rw [if_pos c8] at H
  have c8b0 : decide (t177 < (y174.length : Int)) = true:=decide_eq_true c8
  clear c8
  obtain ⟨ya,hya⟩ : ∃ y_ : List (S38),y_ = (([] : List (S38))):=⟨_,rfl⟩
  replace H : (if ya.length + l1.length < 3518437208883 then ((some (ya ++ l1 : List (S38))).bind fun yb=>((some (([(⟨rd y174 t177,t166,(⟨t167,t168⟩ : S36),t169⟩ : S38)] : List (S38)) : List (S38))).bind fun yc=>(if yb.length + yc.length < 3518437208883 then (some ((yb ++ yc),tp)) else (none)))) else (none)) = some (r1,r2):=Q163
  have Nya:=Aside0.mk hya
  clear hya
  have c9 : ya.length + l1.length < 3518437208883:=Classical.byContradiction fun hn_=>by rw [if_neg hn_] at H;exact absurd H (by simp)
  rw [if_pos c9] at H
  have LMca:=Aside0.mk c9
  clear c9
  obtain ⟨yb,hyb⟩ : ∃ y_ : List (S38),y_ = (ya ++ l1):=⟨_,rfl⟩
  replace H : ((some (([(⟨rd y174 t177,t166,(⟨t167,t168⟩ : S36),t169⟩ : S38)] : List (S38)) : List (S38))).bind fun yc=>(if yb.length + yc.length < 3518437208883 then (some ((yb ++ yc),tp)) else (none))) = some (r1,r2):=Q164
  have Nyb:=Aside0.mk hyb
  clear hyb
  obtain ⟨yc,hyc⟩ : ∃ y_ : List (S38),y_ = (([(⟨rd y174 t177,t166,(⟨t167,t168⟩ : S36),t169⟩ : S38)] : List (S38))):=⟨_,rfl⟩
  replace H : (if yb.length + yc.length < 3518437208883 then (some ((yb ++ yc),tp)) else (none)) = some (r1,r2):=Q165
  have Nyc:=Aside0.mk hyc
  clear hyc
  have c10 : yb.length + yc.length < 3518437208883:=Classical.byContradiction fun hn_=>by rw [if_neg hn_] at H;exact absurd H (by simp)
  rw [if_pos c10] at H
  have LMcb:=Aside0.mk c10
  clear c10
  obtain ⟨yd,hyd⟩ : ∃ y_ : List (S38),y_ = (yb ++ yc):=⟨_,rfl⟩
  replace H : (some (yd,tp)) = some (r1,r2):=Q166
  have Nyd:=Aside0.mk hyd
  clear hyd
  simp only [Option.some.injEq,Prod.mk.injEq] at H
  obtain ⟨rfl,rfl⟩:=H
  go_enter Try.func81,Try.ntmps81
  try go_wp2_with (first|((with_reducible refine gate_callee (f:=70) rfl ?_);refine goesL_ (some 7) rfl rfl Try.func70 Q1 rfl #[.pointer (some ⟨g,0,none⟩)] rfl Q84 ?_;(with_reducible refine (spec_l71Row.calls k g s0_0 s0_1 t165 t166 t167 t168 t169 t170 w0 _ ?side1 ?side2 A3.out).mono ?_);(case side1=>exact Q88);(case side2=>exact Q114);rintro e w11 ⟨rfl,hi,hb,hk⟩;refine ⟨_,rfl,?_⟩;replace HK:=am (KeepBut.trans Q87 hk (.inl rfl));replace HB:=am (hb);replace HI0:=am (hi);(try clear hb hk hi))|((with_reducible refine gate_dst (N:=5) rfl ?_);refine bE_ 5 #[.int .i64 0,.int .i64 0,.int .i64 0,.int .i64 0,.int .i64 0] 38 ?_;intro gb171 hg w12 hbox hb;replace HB:=am (below_step Q114 hb);have BK171:=am (hbox);have GW171:=am ((Q174 : w.heap.size ≤ gb171));have GE171:=am ((Nat.le_trans HW0.out (Q174 : w.heap.size ≤ gb171) : w0.heap.size ≤ gb171));replace HK:=am (KeepBut.trans Q87 (KeepBut.of_below hb g none) (.inl rfl));have NB0_171:=am ((by rw [hg];exact Nat.ne_of_lt (IsS87.lt (show IsS87 w0 _ g s0_0 t170 from by repeat (first|(with_reducible first|exact HI0.out|apply IsS87.alloc|apply IsS87.drewN|apply IsS87.drew|apply IsS87.set_1)|exact HI0.out))) : g ≠ gb171));have NB171_0:=am ((by rw [hg];exact Nat.ne_of_gt (IsS87.lt (show IsS87 w0 _ g s0_0 t170 from by repeat (first|(with_reducible first|exact HI0.out|apply IsS87.alloc|apply IsS87.drewN|apply IsS87.drew|apply IsS87.set_1)|exact HI0.out))) : gb171 ≠ g));replace HI0:=am (IsS87.below Q88 hb);clear hb hbox hg;have hnb13:=NB171_0.out;have hnc13:=NB0_171.out;obtain ⟨hcz14_0,hcz14_1,hcz14_2,hcz14_3,hcz14_4,hfz14_0,hfz14_1,hfz14_2,hfz14_3,hfz14_4⟩:=bx5_ BK171)|((with_reducible refine gate_callee (f:=68) rfl ?_);refine goesL_ (some 9) rfl rfl Try.func68 Q1 rfl #[.pointer (some ⟨g,0,none⟩),.int .i64 5] rfl Q84 ?_;(with_reducible refine (spec_l6Rd_pick.calls k g s0_0 t170 5 t172 t173 w0 _ ?side1 ?side2 A4.out).mono ?_);(case side1=>exact Q131);(case side2=>exact Q147);rintro e w15 ⟨rfl,hi,hb,hk⟩;refine ⟨_,rfl,?_⟩;replace BK171:=am (KeepBut.blk hk (g':=gb171) (o:=.cells #[.int .i64 t165,.int .i64 t166,.int .i64 t167,.int .i64 t168,.int .i64 t169] 38 (0,0)) Q170 NB171_0.out (by simp));replace HK:=am (KeepBut.trans Q126 hk (.inl rfl));replace HB:=am (hb);replace HI0:=am (hi);(try clear hb hk hi))|((with_reducible refine gate_dst (N:=14) rfl ?_);refine Kd.R_lit (Kd.int .i64) _ 3 ?hg (N:=14) ?hd (xs:=([(-1),4] : List Int)) (inner:=[.int .i64 (-1),.int .i64 4]) (ok:=fun _=>True) (okp:=fun _=>True) ?hr ?hp (fun _ hk=>hk) trivial (Below.refl _ _) (Nat.le_refl _) (by simp) ?_;(case hd=>rfl);(case hg=>rfl);(case hr=>first|(go_simp;done)|(go_simp;rfl));(case hp=>exact (Reps.one (show Kd.M (Kd.int .i64) _ _ _ (-1) [.int .i64 (-1)] from rfl) (Reps.one (show Kd.M (Kd.int .i64) _ _ _ 4 [.int .i64 4] from rfl) (Reps.none _ _))));intro v175 w16 ho17 hb hg_ hnew_;clear hg_ hnew_;(first|rw [← Ny174.out] at ho17|(simp only [Int.reduceToNat] at ho17;rw [← Ny174.out] at ho17));have HO176:=am (Kd.R_lower ho17 (keep_size (w:=w) (g:=g) (row:=none) Q126));replace BK171:=am (blk_below (g:=gb171) (o:=.cells #[.int .i64 t165,.int .i64 t166,.int .i64 t167,.int .i64 t168,.int .i64 t169] 38 (0,0)) Q44 hb);replace HK:=am (KeepBut.trans Q126 (KeepBut.of_below hb g none) (.inl rfl));replace HB:=am (below_step Q147 hb);replace HI0:=am (IsS87.below Q131 hb);clear hb ho17)|((with_reducible refine gate_callee (f:=68) rfl ?_);refine goesL_ (some 16) rfl rfl Try.func68 Q1 rfl #[.pointer (some ⟨g,0,none⟩),.int .i64 2] rfl Q84 ?_;(with_reducible refine (spec_l6Rd_pick.calls k g s0_0 t173 2 t177 tp w0 _ ?side1 ?side2 A6.out).mono ?_);(case side1=>exact Q131);(case side2=>exact Q147);rintro e w18 ⟨rfl,hi,hb,hk⟩;refine ⟨_,rfl,?_⟩;replace BK171:=am (KeepBut.blk hk (g':=gb171) (o:=.cells #[.int .i64 t165,.int .i64 t166,.int .i64 t167,.int .i64 t168,.int .i64 t169] 38 (0,0)) Q44 NB171_0.out (by simp));replace HO176:=am (Kd.R_mono (Kd.R_keep (IsS87.apart (show IsS87 w0 _ g s0_0 t173 from by repeat (first|(with_reducible first|exact HI0.out|apply IsS87.alloc|apply IsS87.drewN|apply IsS87.drew|apply IsS87.set_1|refine IsS87.far ?_ NB0_171.out _)|exact HI0.out)) (by (with_reducible repeat (first|apply Kd.R_alloc|apply Kd.R_drewN|apply Kd.R_drew));exact HO176.out) Q0) hk (fun _ h=>h.2)) (fun _ h=>h.1));replace HK:=am (KeepBut.trans Q126 hk (.inl rfl));replace HB:=am (hb);replace HI0:=am (hi);(try clear hb hk hi);obtain ⟨Ao19,co19,eo19⟩:=Kd.R_slice HO176.out;subst eo19;have p179 : 0 ≤ (t177 : Int):=of_decide_eq_true Q8;have q179 : t177 < (y174.length : Int):=of_decide_eq_true Q8;obtain ⟨ad179,e179,hx179_0⟩:=Kd.at_int (Kd.R_reads' HO176.out).2.2 t177 p179 q179;cases e179;replace p179:=eq_true p179;replace q179:=eq_true q179;obtain ⟨hcz20_0,hcz20_1,hcz20_2,hcz20_3,hcz20_4,hfz20_0,hfz20_1,hfz20_2,hfz20_3,hfz20_4⟩:=bx5_ BK171))
  have n0_ : Aside0 (Kd.R (Kd.int .i64) 3 (w18.setCell ⟨gb171,0,none⟩ (.int .i64 (rd y174 t177))) w.heap.size (fun _=>True) (.slice (some ad179) y174.length co19) y174):=⟨by (with_reducible repeat (first|apply Kd.R_alloc|apply Kd.R_drewN|apply Kd.R_drew));exact Kd.R_mono (Kd.R_far (p:=⟨gb171,0,none⟩) (Kd.R_types HO176.out BK171.out Q0) (fun _ hk=>hk.2) (.int .i64 (rd y174 t177))) (fun _ hk=>trivial)⟩
  have n1_ : Aside0 ((w18.setCell ⟨gb171,0,none⟩ (.int .i64 (rd y174 t177))).heap[gb171]? = some (.cells #[.int .i64 (rd y174 t177),.int .i64 t166,.int .i64 t167,.int .i64 t168,.int .i64 t169] 38 (0,0))):=⟨by (with_reducible repeat (first|refine blk_drewN ?_ _|refine blk_drew ?_|refine blk_alloc ?_ _));refine blk_put (cs:=#[.int .i64 t165,.int .i64 t166,.int .i64 t167,.int .i64 t168,.int .i64 t169]) ?_ 0 _ rfl;(with_reducible repeat (first|refine blk_drewN ?_ _|refine blk_drew ?_|refine blk_alloc ?_ _));exact BK171.out⟩
  have n2_ : Aside0 (IsS87 w0 (w18.setCell ⟨gb171,0,none⟩ (.int .i64 (rd y174 t177))) g s0_0 tp):=⟨Q131⟩
  have n3_ : Aside0 (KeepBut w (w18.setCell ⟨gb171,0,none⟩ (.int .i64 (rd y174 t177))) g none):=⟨Q126⟩
  have n4_ : Aside0 (Below w0.heap.size w0 (w18.setCell ⟨gb171,0,none⟩ (.int .i64 (rd y174 t177)))):=⟨Q147⟩
  (try clear HO176)
  (try clear BK171)
  (try clear HI0)
  (try clear HK)
  (try clear HB)
  generalize (w18.setCell ⟨gb171,0,none⟩ (.int .i64 (rd y174 t177))) = wT at n0_ n1_ n2_ n3_ n4_ ⊢
  have HO176:=n0_
  have BK171:=n1_
  have HI0:=n2_
  have HK:=n3_
  have HB:=n4_
  clear n0_ n1_ n2_ n3_ n4_
  clear HO176
  obtain ⟨e0,e1,e2,e3,e4,hE,BKE⟩ : ∃ e0 e1 e2 e3 e4 : Int,(⟨e0,e1,⟨e2,e3⟩,e4⟩ : S38) = ⟨(rd y174 t177),t166,⟨t167,t168⟩,t169⟩ ∧ Aside0 (wT.heap[gb171]? = some (.cells #[.int .i64 e0,.int .i64 e1,.int .i64 e2,.int .i64 e3,.int .i64 e4] 38 (0,0))):=⟨_,_,_,_,_,rfl,BK171⟩
  clear BK171;have BK171:=BKE;clear BKE
  have Ny_:=am (Nyc.out.trans (congrArg (fun z : S38=>[z]) hE.symm));clear Nyc;have Nyc:=Ny_;clear Ny_ hE
 case' neg =>
  rw [if_neg c5] at H
  have c5b0 : (t172 == 0) = false:=beq_eq_false_iff_ne.mpr c5
  have c5b1 : (t172 != 0) = true:=bne_iff_ne.mpr c5
  by_cases c31 : t172 = 1
  case' pos =>
   rw [if_pos c31] at H
   have c31b0 : (t172 == 1) = true:=beq_iff_eq.mpr c31
   have c31b1 : (t172 != 1) = false:=bne_eq_false_iff_eq.mpr c31
   clear c31
   obtain ⟨y192,hy_⟩ : ∃ y_ : List Int,y_ = (([(-1),100] : List Int)):=⟨_,rfl⟩
   replace H : ((spec_l6Rd_pick.f k s0_0 t173 2).bind fun bt195=>(if 0 ≤ bt195.1 then (if bt195.1 < (y192.length : Int) then ((some (([] : List (S38)) : List (S38))).bind fun ya=>(if ya.length + l1.length < 3518437208883 then ((some (ya ++ l1 : List (S38))).bind fun yb=>((some (([(⟨t165,rd y192 bt195.1,(⟨t167,t168⟩ : S36),t169⟩ : S38)] : List (S38)) : List (S38))).bind fun yc=>(if yb.length + yc.length < 3518437208883 then (some ((yb ++ yc),bt195.2)) else (none)))) else (none))) else (none)) else (none))) = some (r1,r2):=Q162
   have Ny192:=Aside0.mk hy_
   clear hy_
   replace H:=Option.bind_eq_some_iff.mp H
   obtain ⟨⟨t195,tp⟩,A320,H⟩:=H
   replace H : (if 0 ≤ t195 then (if t195 < (y192.length : Int) then ((some (([] : List (S38)) : List (S38))).bind fun ya=>(if ya.length + l1.length < 3518437208883 then ((some (ya ++ l1 : List (S38))).bind fun yb=>((some (([(⟨t165,rd y192 t195,(⟨t167,t168⟩ : S36),t169⟩ : S38)] : List (S38)) : List (S38))).bind fun yc=>(if yb.length + yc.length < 3518437208883 then (some ((yb ++ yc),tp)) else (none)))) else (none))) else (none)) else (none)) = some (r1,r2):=H
   have A32:=Aside0.mk A320
   clear A320
   have c33 : 0 ≤ t195:=Classical.byContradiction fun hn_=>by rw [if_neg hn_] at H;exact absurd H (by simp)
   rw [if_pos c33] at H
   have c33b0 : decide (0 ≤ t195) = true:=decide_eq_true c33
   clear c33
   have c34 : t195 < (y192.length : Int):=Classical.byContradiction fun hn_=>by rw [if_neg hn_] at H;exact absurd H (by simp)
   rw [if_pos c34] at H
   have c34b0 : decide (t195 < (y192.length : Int)) = true:=decide_eq_true c34
   clear c34
   obtain ⟨ya,hya⟩ : ∃ y_ : List (S38),y_ = (([] : List (S38))):=⟨_,rfl⟩
   replace H : (if ya.length + l1.length < 3518437208883 then ((some (ya ++ l1 : List (S38))).bind fun yb=>((some (([(⟨t165,rd y192 t195,(⟨t167,t168⟩ : S36),t169⟩ : S38)] : List (S38)) : List (S38))).bind fun yc=>(if yb.length + yc.length < 3518437208883 then (some ((yb ++ yc),tp)) else (none)))) else (none)) = some (r1,r2):=Q163
   have Nya:=Aside0.mk hya
   clear hya
   have c35 : ya.length + l1.length < 3518437208883:=Classical.byContradiction fun hn_=>by rw [if_neg hn_] at H;exact absurd H (by simp)
   rw [if_pos c35] at H
   have LMca:=Aside0.mk c35
   clear c35
   obtain ⟨yb,hyb⟩ : ∃ y_ : List (S38),y_ = (ya ++ l1):=⟨_,rfl⟩
   replace H : ((some (([(⟨t165,rd y192 t195,(⟨t167,t168⟩ : S36),t169⟩ : S38)] : List (S38)) : List (S38))).bind fun yc=>(if yb.length + yc.length < 3518437208883 then (some ((yb ++ yc),tp)) else (none))) = some (r1,r2):=Q164
   have Nyb:=Aside0.mk hyb
   clear hyb
   obtain ⟨yc,hyc⟩ : ∃ y_ : List (S38),y_ = (([(⟨t165,rd y192 t195,(⟨t167,t168⟩ : S36),t169⟩ : S38)] : List (S38))):=⟨_,rfl⟩
   replace H : (if yb.length + yc.length < 3518437208883 then (some ((yb ++ yc),tp)) else (none)) = some (r1,r2):=Q165
   have Nyc:=Aside0.mk hyc
   clear hyc
   have c36 : yb.length + yc.length < 3518437208883:=Classical.byContradiction fun hn_=>by rw [if_neg hn_] at H;exact absurd H (by simp)
   rw [if_pos c36] at H
   have LMcb:=Aside0.mk c36
   clear c36
   obtain ⟨yd,hyd⟩ : ∃ y_ : List (S38),y_ = (yb ++ yc):=⟨_,rfl⟩
   replace H : (some (yd,tp)) = some (r1,r2):=Q166
   have Nyd:=Aside0.mk hyd
   clear hyd
   simp only [Option.some.injEq,Prod.mk.injEq] at H
   obtain ⟨rfl,rfl⟩:=H
   go_enter Try.func81,Try.ntmps81
   try go_wp2_with (first|((with_reducible refine gate_callee (f:=70) rfl ?_);refine goesL_ (some 7) rfl rfl Try.func70 Q1 rfl #[.pointer (some ⟨g,0,none⟩)] rfl Q84 ?_;(with_reducible refine (spec_l71Row.calls k g s0_0 s0_1 t165 t166 t167 t168 t169 t170 w0 _ ?side1 ?side2 A3.out).mono ?_);(case side1=>exact Q88);(case side2=>exact Q114);rintro e w37 ⟨rfl,hi,hb,hk⟩;refine ⟨_,rfl,?_⟩;replace HK:=am (KeepBut.trans Q87 hk (.inl rfl));replace HB:=am (hb);replace HI0:=am (hi);(try clear hb hk hi))|((with_reducible refine gate_dst (N:=5) rfl ?_);refine bE_ 5 #[.int .i64 0,.int .i64 0,.int .i64 0,.int .i64 0,.int .i64 0] 38 ?_;intro gb171 hg w38 hbox hb;replace HB:=am (below_step Q114 hb);have BK171:=am (hbox);have GW171:=am ((Q174 : w.heap.size ≤ gb171));have GE171:=am ((Nat.le_trans HW0.out (Q174 : w.heap.size ≤ gb171) : w0.heap.size ≤ gb171));replace HK:=am (KeepBut.trans Q87 (KeepBut.of_below hb g none) (.inl rfl));have NB0_171:=am ((by rw [hg];exact Nat.ne_of_lt (IsS87.lt (show IsS87 w0 _ g s0_0 t170 from by repeat (first|(with_reducible first|exact HI0.out|apply IsS87.alloc|apply IsS87.drewN|apply IsS87.drew|apply IsS87.set_1)|exact HI0.out))) : g ≠ gb171));have NB171_0:=am ((by rw [hg];exact Nat.ne_of_gt (IsS87.lt (show IsS87 w0 _ g s0_0 t170 from by repeat (first|(with_reducible first|exact HI0.out|apply IsS87.alloc|apply IsS87.drewN|apply IsS87.drew|apply IsS87.set_1)|exact HI0.out))) : gb171 ≠ g));replace HI0:=am (IsS87.below Q88 hb);clear hb hbox hg;have hnb39:=NB171_0.out;have hnc39:=NB0_171.out;obtain ⟨hcz40_0,hcz40_1,hcz40_2,hcz40_3,hcz40_4,hfz40_0,hfz40_1,hfz40_2,hfz40_3,hfz40_4⟩:=bx5_ BK171)|((with_reducible refine gate_callee (f:=68) rfl ?_);refine goesL_ (some 9) rfl rfl Try.func68 Q1 rfl #[.pointer (some ⟨g,0,none⟩),.int .i64 5] rfl Q84 ?_;(with_reducible refine (spec_l6Rd_pick.calls k g s0_0 t170 5 t172 t173 w0 _ ?side1 ?side2 A4.out).mono ?_);(case side1=>exact Q131);(case side2=>exact Q147);rintro e w41 ⟨rfl,hi,hb,hk⟩;refine ⟨_,rfl,?_⟩;replace BK171:=am (KeepBut.blk hk (g':=gb171) (o:=.cells #[.int .i64 t165,.int .i64 t166,.int .i64 t167,.int .i64 t168,.int .i64 t169] 38 (0,0)) Q170 NB171_0.out (by simp));replace HK:=am (KeepBut.trans Q126 hk (.inl rfl));replace HB:=am (hb);replace HI0:=am (hi);(try clear hb hk hi))|((with_reducible refine gate_dst (N:=22) rfl ?_);refine Kd.R_lit (Kd.int .i64) _ 3 ?hg (N:=22) ?hd (xs:=([(-1),100] : List Int)) (inner:=[.int .i64 (-1),.int .i64 100]) (ok:=fun _=>True) (okp:=fun _=>True) ?hr ?hp (fun _ hk=>hk) trivial (Below.refl _ _) (Nat.le_refl _) (by simp) ?_;(case hd=>rfl);(case hg=>rfl);(case hr=>first|(go_simp;done)|(go_simp;rfl));(case hp=>exact (Reps.one (show Kd.M (Kd.int .i64) _ _ _ (-1) [.int .i64 (-1)] from rfl) (Reps.one (show Kd.M (Kd.int .i64) _ _ _ 100 [.int .i64 100] from rfl) (Reps.none _ _))));intro v193 w42 ho43 hb hg_ hnew_;clear hg_ hnew_;(first|rw [← Ny192.out] at ho43|(simp only [Int.reduceToNat] at ho43;rw [← Ny192.out] at ho43));have HO194:=am (Kd.R_lower ho43 (keep_size (w:=w) (g:=g) (row:=none) Q126));replace BK171:=am (blk_below (g:=gb171) (o:=.cells #[.int .i64 t165,.int .i64 t166,.int .i64 t167,.int .i64 t168,.int .i64 t169] 38 (0,0)) Q44 hb);replace HK:=am (KeepBut.trans Q126 (KeepBut.of_below hb g none) (.inl rfl));replace HB:=am (below_step Q147 hb);replace HI0:=am (IsS87.below Q131 hb);clear hb ho43)|((with_reducible refine gate_callee (f:=68) rfl ?_);refine goesL_ (some 24) rfl rfl Try.func68 Q1 rfl #[.pointer (some ⟨g,0,none⟩),.int .i64 2] rfl Q84 ?_;(with_reducible refine (spec_l6Rd_pick.calls k g s0_0 t173 2 t195 tp w0 _ ?side1 ?side2 A32.out).mono ?_);(case side1=>exact Q131);(case side2=>exact Q147);rintro e w44 ⟨rfl,hi,hb,hk⟩;refine ⟨_,rfl,?_⟩;replace BK171:=am (KeepBut.blk hk (g':=gb171) (o:=.cells #[.int .i64 t165,.int .i64 t166,.int .i64 t167,.int .i64 t168,.int .i64 t169] 38 (0,0)) Q44 NB171_0.out (by simp));replace HO194:=am (Kd.R_mono (Kd.R_keep (IsS87.apart (show IsS87 w0 _ g s0_0 t173 from by repeat (first|(with_reducible first|exact HI0.out|apply IsS87.alloc|apply IsS87.drewN|apply IsS87.drew|apply IsS87.set_1|refine IsS87.far ?_ NB0_171.out _)|exact HI0.out)) (by (with_reducible repeat (first|apply Kd.R_alloc|apply Kd.R_drewN|apply Kd.R_drew));exact HO194.out) Q0) hk (fun _ h=>h.2)) (fun _ h=>h.1));replace HK:=am (KeepBut.trans Q126 hk (.inl rfl));replace HB:=am (hb);replace HI0:=am (hi);(try clear hb hk hi);obtain ⟨Ao45,co45,eo45⟩:=Kd.R_slice HO194.out;subst eo45;have p197 : 0 ≤ (t195 : Int):=of_decide_eq_true Q8;have q197 : t195 < (y192.length : Int):=of_decide_eq_true Q8;obtain ⟨ad197,e197,hx197_0⟩:=Kd.at_int (Kd.R_reads' HO194.out).2.2 t195 p197 q197;cases e197;replace p197:=eq_true p197;replace q197:=eq_true q197;obtain ⟨hcz46_0,hcz46_1,hcz46_2,hcz46_3,hcz46_4,hfz46_0,hfz46_1,hfz46_2,hfz46_3,hfz46_4⟩:=bx5_ BK171))
   have n0_ : Aside0 (Kd.R (Kd.int .i64) 3 (w44.setCell ⟨gb171,1,none⟩ (.int .i64 (rd y192 t195))) w.heap.size (fun _=>True) (.slice (some ad197) y192.length co45) y192):=⟨by (with_reducible repeat (first|apply Kd.R_alloc|apply Kd.R_drewN|apply Kd.R_drew));exact Kd.R_mono (Kd.R_far (p:=⟨gb171,1,none⟩) (Kd.R_types HO194.out BK171.out Q0) (fun _ hk=>hk.2) (.int .i64 (rd y192 t195))) (fun _ hk=>trivial)⟩
   have n1_ : Aside0 ((w44.setCell ⟨gb171,1,none⟩ (.int .i64 (rd y192 t195))).heap[gb171]? = some (.cells #[.int .i64 t165,.int .i64 (rd y192 t195),.int .i64 t167,.int .i64 t168,.int .i64 t169] 38 (0,0))):=⟨by (with_reducible repeat (first|refine blk_drewN ?_ _|refine blk_drew ?_|refine blk_alloc ?_ _));refine blk_put (cs:=#[.int .i64 t165,.int .i64 t166,.int .i64 t167,.int .i64 t168,.int .i64 t169]) ?_ 1 _ rfl;(with_reducible repeat (first|refine blk_drewN ?_ _|refine blk_drew ?_|refine blk_alloc ?_ _));exact BK171.out⟩
   have n2_ : Aside0 (IsS87 w0 (w44.setCell ⟨gb171,1,none⟩ (.int .i64 (rd y192 t195))) g s0_0 tp):=⟨Q131⟩
   have n3_ : Aside0 (KeepBut w (w44.setCell ⟨gb171,1,none⟩ (.int .i64 (rd y192 t195))) g none):=⟨Q126⟩
   have n4_ : Aside0 (Below w0.heap.size w0 (w44.setCell ⟨gb171,1,none⟩ (.int .i64 (rd y192 t195)))):=⟨Q147⟩
   (try clear HO194)
   (try clear BK171)
   (try clear HI0)
   (try clear HK)
   (try clear HB)
   generalize (w44.setCell ⟨gb171,1,none⟩ (.int .i64 (rd y192 t195))) = wT at n0_ n1_ n2_ n3_ n4_ ⊢
   have HO194:=n0_
   have BK171:=n1_
   have HI0:=n2_
   have HK:=n3_
   have HB:=n4_
   clear n0_ n1_ n2_ n3_ n4_
   clear HO194
   obtain ⟨e0,e1,e2,e3,e4,hE,BKE⟩ : ∃ e0 e1 e2 e3 e4 : Int,(⟨e0,e1,⟨e2,e3⟩,e4⟩ : S38) = ⟨t165,(rd y192 t195),⟨t167,t168⟩,t169⟩ ∧ Aside0 (wT.heap[gb171]? = some (.cells #[.int .i64 e0,.int .i64 e1,.int .i64 e2,.int .i64 e3,.int .i64 e4] 38 (0,0))):=⟨_,_,_,_,_,rfl,BK171⟩
   clear BK171;have BK171:=BKE;clear BKE
   have Ny_:=am (Nyc.out.trans (congrArg (fun z : S38=>[z]) hE.symm));clear Nyc;have Nyc:=Ny_;clear Ny_ hE
  case' neg =>
   rw [if_neg c31] at H
   have c31b0 : (t172 == 1) = false:=beq_eq_false_iff_ne.mpr c31
   have c31b1 : (t172 != 1) = true:=bne_iff_ne.mpr c31
   by_cases c57 : t172 = 2
   case' pos =>
    rw [if_pos c57] at H
    have c57b0 : (t172 == 2) = true:=beq_iff_eq.mpr c57
    have c57b1 : (t172 != 2) = false:=bne_eq_false_iff_eq.mpr c57
    clear c57
    obtain ⟨ya,hya⟩ : ∃ y_ : List (S38),y_ = (([] : List (S38))):=⟨_,rfl⟩
    replace H : (if ya.length + l1.length < 3518437208883 then ((some (ya ++ l1 : List (S38))).bind fun yb=>((some (([(⟨t165,t166,(⟨(-1),0⟩ : S36),t169⟩ : S38)] : List (S38)) : List (S38))).bind fun yc=>(if yb.length + yc.length < 3518437208883 then (some ((yb ++ yc),t173)) else (none)))) else (none)) = some (r1,r2):=Q163
    have Nya:=Aside0.mk hya
    clear hya
    have c58 : ya.length + l1.length < 3518437208883:=Classical.byContradiction fun hn_=>by rw [if_neg hn_] at H;exact absurd H (by simp)
    rw [if_pos c58] at H
    have LMca:=Aside0.mk c58
    clear c58
    obtain ⟨yb,hyb⟩ : ∃ y_ : List (S38),y_ = (ya ++ l1):=⟨_,rfl⟩
    replace H : ((some (([(⟨t165,t166,(⟨(-1),0⟩ : S36),t169⟩ : S38)] : List (S38)) : List (S38))).bind fun yc=>(if yb.length + yc.length < 3518437208883 then (some ((yb ++ yc),t173)) else (none))) = some (r1,r2):=Q164
    have Nyb:=Aside0.mk hyb
    clear hyb
    obtain ⟨yc,hyc⟩ : ∃ y_ : List (S38),y_ = (([(⟨t165,t166,(⟨(-1),0⟩ : S36),t169⟩ : S38)] : List (S38))):=⟨_,rfl⟩
    replace H : (if yb.length + yc.length < 3518437208883 then (some ((yb ++ yc),t173)) else (none)) = some (r1,r2):=Q165
    have Nyc:=Aside0.mk hyc
    clear hyc
    have c59 : yb.length + yc.length < 3518437208883:=Classical.byContradiction fun hn_=>by rw [if_neg hn_] at H;exact absurd H (by simp)
    rw [if_pos c59] at H
    have LMcb:=Aside0.mk c59
    clear c59
    obtain ⟨yd,hyd⟩ : ∃ y_ : List (S38),y_ = (yb ++ yc):=⟨_,rfl⟩
    replace H : (some (yd,t173)) = some (r1,r2):=Q166
    have Nyd:=Aside0.mk hyd
    clear hyd
    simp only [Option.some.injEq,Prod.mk.injEq] at H
    obtain ⟨rfl,rfl⟩:=H
    go_enter Try.func81,Try.ntmps81
    try go_wp2_with (first|((with_reducible refine gate_callee (f:=70) rfl ?_);refine goesL_ (some 7) rfl rfl Try.func70 Q1 rfl #[.pointer (some ⟨g,0,none⟩)] rfl Q84 ?_;(with_reducible refine (spec_l71Row.calls k g s0_0 s0_1 t165 t166 t167 t168 t169 t170 w0 _ ?side1 ?side2 A3.out).mono ?_);(case side1=>exact Q88);(case side2=>exact Q114);rintro e w60 ⟨rfl,hi,hb,hk⟩;refine ⟨_,rfl,?_⟩;replace HK:=am (KeepBut.trans Q87 hk (.inl rfl));replace HB:=am (hb);replace HI0:=am (hi);(try clear hb hk hi))|((with_reducible refine gate_dst (N:=5) rfl ?_);refine bE_ 5 #[.int .i64 0,.int .i64 0,.int .i64 0,.int .i64 0,.int .i64 0] 38 ?_;intro gb171 hg w61 hbox hb;replace HB:=am (below_step Q114 hb);have BK171:=am (hbox);have GW171:=am ((Q174 : w.heap.size ≤ gb171));have GE171:=am ((Nat.le_trans HW0.out (Q174 : w.heap.size ≤ gb171) : w0.heap.size ≤ gb171));replace HK:=am (KeepBut.trans Q87 (KeepBut.of_below hb g none) (.inl rfl));have NB0_171:=am ((by rw [hg];exact Nat.ne_of_lt (IsS87.lt (show IsS87 w0 _ g s0_0 t170 from by repeat (first|(with_reducible first|exact HI0.out|apply IsS87.alloc|apply IsS87.drewN|apply IsS87.drew|apply IsS87.set_1)|exact HI0.out))) : g ≠ gb171));have NB171_0:=am ((by rw [hg];exact Nat.ne_of_gt (IsS87.lt (show IsS87 w0 _ g s0_0 t170 from by repeat (first|(with_reducible first|exact HI0.out|apply IsS87.alloc|apply IsS87.drewN|apply IsS87.drew|apply IsS87.set_1)|exact HI0.out))) : gb171 ≠ g));replace HI0:=am (IsS87.below Q88 hb);clear hb hbox hg;have hnb62:=NB171_0.out;have hnc62:=NB0_171.out;obtain ⟨hcz63_0,hcz63_1,hcz63_2,hcz63_3,hcz63_4,hfz63_0,hfz63_1,hfz63_2,hfz63_3,hfz63_4⟩:=bx5_ BK171)|((with_reducible refine gate_callee (f:=68) rfl ?_);refine goesL_ (some 9) rfl rfl Try.func68 Q1 rfl #[.pointer (some ⟨g,0,none⟩),.int .i64 5] rfl Q84 ?_;(with_reducible refine (spec_l6Rd_pick.calls k g s0_0 t170 5 t172 t173 w0 _ ?side1 ?side2 A4.out).mono ?_);(case side1=>exact Q131);(case side2=>exact Q147);rintro e w64 ⟨rfl,hi,hb,hk⟩;refine ⟨_,rfl,?_⟩;replace BK171:=am (KeepBut.blk hk (g':=gb171) (o:=.cells #[.int .i64 t165,.int .i64 t166,.int .i64 t167,.int .i64 t168,.int .i64 t169] 38 (0,0)) Q170 NB171_0.out (by simp));replace HK:=am (KeepBut.trans Q126 hk (.inl rfl));replace HB:=am (hb);replace HI0:=am (hi);(try clear hb hk hi);obtain ⟨hcz65_0,hcz65_1,hcz65_2,hcz65_3,hcz65_4,hfz65_0,hfz65_1,hfz65_2,hfz65_3,hfz65_4⟩:=bx5_ BK171))
    have n0_ : Aside0 (((w64.setCell ⟨gb171,2,none⟩ (.int .i64 (-1))).setCell ⟨gb171,3,none⟩ (.int .i64 0)).heap[gb171]? = some (.cells #[.int .i64 t165,.int .i64 t166,.int .i64 (-1),.int .i64 0,.int .i64 t169] 38 (0,0))):=⟨by (with_reducible repeat (first|refine blk_drewN ?_ _|refine blk_drew ?_|refine blk_alloc ?_ _));refine blk_put (cs:=#[.int .i64 t165,.int .i64 t166,.int .i64 (-1),.int .i64 t168,.int .i64 t169]) ?_ 3 _ rfl;(with_reducible repeat (first|refine blk_drewN ?_ _|refine blk_drew ?_|refine blk_alloc ?_ _));refine blk_put (cs:=#[.int .i64 t165,.int .i64 t166,.int .i64 t167,.int .i64 t168,.int .i64 t169]) ?_ 2 _ rfl;(with_reducible repeat (first|refine blk_drewN ?_ _|refine blk_drew ?_|refine blk_alloc ?_ _));exact BK171.out⟩
    have n1_ : Aside0 (IsS87 w0 ((w64.setCell ⟨gb171,2,none⟩ (.int .i64 (-1))).setCell ⟨gb171,3,none⟩ (.int .i64 0)) g s0_0 t173):=⟨Q131⟩
    have n2_ : Aside0 (KeepBut w ((w64.setCell ⟨gb171,2,none⟩ (.int .i64 (-1))).setCell ⟨gb171,3,none⟩ (.int .i64 0)) g none):=⟨Q126⟩
    have n3_ : Aside0 (Below w0.heap.size w0 ((w64.setCell ⟨gb171,2,none⟩ (.int .i64 (-1))).setCell ⟨gb171,3,none⟩ (.int .i64 0))):=⟨Q147⟩
    (try clear BK171)
    (try clear HI0)
    (try clear HK)
    (try clear HB)
    generalize ((w64.setCell ⟨gb171,2,none⟩ (.int .i64 (-1))).setCell ⟨gb171,3,none⟩ (.int .i64 0)) = wT at n0_ n1_ n2_ n3_ ⊢
    have BK171:=n0_
    have HI0:=n1_
    have HK:=n2_
    have HB:=n3_
    clear n0_ n1_ n2_ n3_
    obtain ⟨tp,hT_⟩ : ∃ tp,tp = t173:=⟨_,rfl⟩;subst hT_
    obtain ⟨e0,e1,e2,e3,e4,hE,BKE⟩ : ∃ e0 e1 e2 e3 e4 : Int,(⟨e0,e1,⟨e2,e3⟩,e4⟩ : S38) = ⟨t165,t166,⟨(-1),0⟩,t169⟩ ∧ Aside0 (wT.heap[gb171]? = some (.cells #[.int .i64 e0,.int .i64 e1,.int .i64 e2,.int .i64 e3,.int .i64 e4] 38 (0,0))):=⟨_,_,_,_,_,rfl,BK171⟩
    clear BK171;have BK171:=BKE;clear BKE
    have Ny_:=am (Nyc.out.trans (congrArg (fun z : S38=>[z]) hE.symm));clear Nyc;have Nyc:=Ny_;clear Ny_ hE
   case' neg =>
    rw [if_neg c57] at H
    have c57b0 : (t172 == 2) = false:=beq_eq_false_iff_ne.mpr c57
    have c57b1 : (t172 != 2) = true:=bne_iff_ne.mpr c57
    by_cases c76 : t172 = 3
    case' pos =>
     rw [if_pos c76] at H
     have c76b0 : (t172 == 3) = true:=beq_iff_eq.mpr c76
     have c76b1 : (t172 != 3) = false:=bne_eq_false_iff_eq.mpr c76
     clear c76
     obtain ⟨y222,hy_⟩ : ∃ y_ : List Int,y_ = (([(-100000),100000] : List Int)):=⟨_,rfl⟩
     replace H : ((spec_l6Rd_pick.f k s0_0 t173 2).bind fun bt225=>(if 0 ≤ bt225.1 then (if bt225.1 < (y222.length : Int) then ((some (([] : List (S38)) : List (S38))).bind fun ya=>(if ya.length + l1.length < 3518437208883 then ((some (ya ++ l1 : List (S38))).bind fun yb=>((some (([(⟨t165,t166,(⟨t167,t168⟩ : S36),rd y222 bt225.1⟩ : S38)] : List (S38)) : List (S38))).bind fun yc=>(if yb.length + yc.length < 3518437208883 then (some ((yb ++ yc),bt225.2)) else (none)))) else (none))) else (none)) else (none))) = some (r1,r2):=Q162
     have Ny222:=Aside0.mk hy_
     clear hy_
     replace H:=Option.bind_eq_some_iff.mp H
     obtain ⟨⟨t225,tp⟩,A770,H⟩:=H
     replace H : (if 0 ≤ t225 then (if t225 < (y222.length : Int) then ((some (([] : List (S38)) : List (S38))).bind fun ya=>(if ya.length + l1.length < 3518437208883 then ((some (ya ++ l1 : List (S38))).bind fun yb=>((some (([(⟨t165,t166,(⟨t167,t168⟩ : S36),rd y222 t225⟩ : S38)] : List (S38)) : List (S38))).bind fun yc=>(if yb.length + yc.length < 3518437208883 then (some ((yb ++ yc),tp)) else (none)))) else (none))) else (none)) else (none)) = some (r1,r2):=H
     have A77:=Aside0.mk A770
     clear A770
     have c78 : 0 ≤ t225:=Classical.byContradiction fun hn_=>by rw [if_neg hn_] at H;exact absurd H (by simp)
     rw [if_pos c78] at H
     have c78b0 : decide (0 ≤ t225) = true:=decide_eq_true c78
     clear c78
     have c79 : t225 < (y222.length : Int):=Classical.byContradiction fun hn_=>by rw [if_neg hn_] at H;exact absurd H (by simp)
     rw [if_pos c79] at H
     have c79b0 : decide (t225 < (y222.length : Int)) = true:=decide_eq_true c79
     clear c79
     obtain ⟨ya,hya⟩ : ∃ y_ : List (S38),y_ = (([] : List (S38))):=⟨_,rfl⟩
     replace H : (if ya.length + l1.length < 3518437208883 then ((some (ya ++ l1 : List (S38))).bind fun yb=>((some (([(⟨t165,t166,(⟨t167,t168⟩ : S36),rd y222 t225⟩ : S38)] : List (S38)) : List (S38))).bind fun yc=>(if yb.length + yc.length < 3518437208883 then (some ((yb ++ yc),tp)) else (none)))) else (none)) = some (r1,r2):=Q163
     have Nya:=Aside0.mk hya
     clear hya
     have c80 : ya.length + l1.length < 3518437208883:=Classical.byContradiction fun hn_=>by rw [if_neg hn_] at H;exact absurd H (by simp)
     rw [if_pos c80] at H
     have LMca:=Aside0.mk c80
     clear c80
     obtain ⟨yb,hyb⟩ : ∃ y_ : List (S38),y_ = (ya ++ l1):=⟨_,rfl⟩
     replace H : ((some (([(⟨t165,t166,(⟨t167,t168⟩ : S36),rd y222 t225⟩ : S38)] : List (S38)) : List (S38))).bind fun yc=>(if yb.length + yc.length < 3518437208883 then (some ((yb ++ yc),tp)) else (none))) = some (r1,r2):=Q164
     have Nyb:=Aside0.mk hyb
     clear hyb
     obtain ⟨yc,hyc⟩ : ∃ y_ : List (S38),y_ = (([(⟨t165,t166,(⟨t167,t168⟩ : S36),rd y222 t225⟩ : S38)] : List (S38))):=⟨_,rfl⟩
     replace H : (if yb.length + yc.length < 3518437208883 then (some ((yb ++ yc),tp)) else (none)) = some (r1,r2):=Q165
     have Nyc:=Aside0.mk hyc
     clear hyc
     have c81 : yb.length + yc.length < 3518437208883:=Classical.byContradiction fun hn_=>by rw [if_neg hn_] at H;exact absurd H (by simp)
     rw [if_pos c81] at H
     have LMcb:=Aside0.mk c81
     clear c81
     obtain ⟨yd,hyd⟩ : ∃ y_ : List (S38),y_ = (yb ++ yc):=⟨_,rfl⟩
     replace H : (some (yd,tp)) = some (r1,r2):=Q166
     have Nyd:=Aside0.mk hyd
     clear hyd
     simp only [Option.some.injEq,Prod.mk.injEq] at H
     obtain ⟨rfl,rfl⟩:=H
     go_enter Try.func81,Try.ntmps81
     try go_wp2_with (first|((with_reducible refine gate_callee (f:=70) rfl ?_);refine goesL_ (some 7) rfl rfl Try.func70 Q1 rfl #[.pointer (some ⟨g,0,none⟩)] rfl Q84 ?_;(with_reducible refine (spec_l71Row.calls k g s0_0 s0_1 t165 t166 t167 t168 t169 t170 w0 _ ?side1 ?side2 A3.out).mono ?_);(case side1=>exact Q88);(case side2=>exact Q114);rintro e w82 ⟨rfl,hi,hb,hk⟩;refine ⟨_,rfl,?_⟩;replace HK:=am (KeepBut.trans Q87 hk (.inl rfl));replace HB:=am (hb);replace HI0:=am (hi);(try clear hb hk hi))|((with_reducible refine gate_dst (N:=5) rfl ?_);refine bE_ 5 #[.int .i64 0,.int .i64 0,.int .i64 0,.int .i64 0,.int .i64 0] 38 ?_;intro gb171 hg w83 hbox hb;replace HB:=am (below_step Q114 hb);have BK171:=am (hbox);have GW171:=am ((Q174 : w.heap.size ≤ gb171));have GE171:=am ((Nat.le_trans HW0.out (Q174 : w.heap.size ≤ gb171) : w0.heap.size ≤ gb171));replace HK:=am (KeepBut.trans Q87 (KeepBut.of_below hb g none) (.inl rfl));have NB0_171:=am ((by rw [hg];exact Nat.ne_of_lt (IsS87.lt (show IsS87 w0 _ g s0_0 t170 from by repeat (first|(with_reducible first|exact HI0.out|apply IsS87.alloc|apply IsS87.drewN|apply IsS87.drew|apply IsS87.set_1)|exact HI0.out))) : g ≠ gb171));have NB171_0:=am ((by rw [hg];exact Nat.ne_of_gt (IsS87.lt (show IsS87 w0 _ g s0_0 t170 from by repeat (first|(with_reducible first|exact HI0.out|apply IsS87.alloc|apply IsS87.drewN|apply IsS87.drew|apply IsS87.set_1)|exact HI0.out))) : gb171 ≠ g));replace HI0:=am (IsS87.below Q88 hb);clear hb hbox hg;have hnb84:=NB171_0.out;have hnc84:=NB0_171.out;obtain ⟨hcz85_0,hcz85_1,hcz85_2,hcz85_3,hcz85_4,hfz85_0,hfz85_1,hfz85_2,hfz85_3,hfz85_4⟩:=bx5_ BK171)|((with_reducible refine gate_callee (f:=68) rfl ?_);refine goesL_ (some 9) rfl rfl Try.func68 Q1 rfl #[.pointer (some ⟨g,0,none⟩),.int .i64 5] rfl Q84 ?_;(with_reducible refine (spec_l6Rd_pick.calls k g s0_0 t170 5 t172 t173 w0 _ ?side1 ?side2 A4.out).mono ?_);(case side1=>exact Q131);(case side2=>exact Q147);rintro e w86 ⟨rfl,hi,hb,hk⟩;refine ⟨_,rfl,?_⟩;replace BK171:=am (KeepBut.blk hk (g':=gb171) (o:=.cells #[.int .i64 t165,.int .i64 t166,.int .i64 t167,.int .i64 t168,.int .i64 t169] 38 (0,0)) Q170 NB171_0.out (by simp));replace HK:=am (KeepBut.trans Q126 hk (.inl rfl));replace HB:=am (hb);replace HI0:=am (hi);(try clear hb hk hi))|((with_reducible refine gate_dst (N:=34) rfl ?_);refine Kd.R_lit (Kd.int .i64) _ 3 ?hg (N:=34) ?hd (xs:=([(-100000),100000] : List Int)) (inner:=[.int .i64 (-100000),.int .i64 100000]) (ok:=fun _=>True) (okp:=fun _=>True) ?hr ?hp (fun _ hk=>hk) trivial (Below.refl _ _) (Nat.le_refl _) (by simp) ?_;(case hd=>rfl);(case hg=>rfl);(case hr=>first|(go_simp;done)|(go_simp;rfl));(case hp=>exact (Reps.one (show Kd.M (Kd.int .i64) _ _ _ (-100000) [.int .i64 (-100000)] from rfl) (Reps.one (show Kd.M (Kd.int .i64) _ _ _ 100000 [.int .i64 100000] from rfl) (Reps.none _ _))));intro v223 w87 ho88 hb hg_ hnew_;clear hg_ hnew_;(first|rw [← Ny222.out] at ho88|(simp only [Int.reduceToNat] at ho88;rw [← Ny222.out] at ho88));have HO224:=am (Kd.R_lower ho88 (keep_size (w:=w) (g:=g) (row:=none) Q126));replace BK171:=am (blk_below (g:=gb171) (o:=.cells #[.int .i64 t165,.int .i64 t166,.int .i64 t167,.int .i64 t168,.int .i64 t169] 38 (0,0)) Q44 hb);replace HK:=am (KeepBut.trans Q126 (KeepBut.of_below hb g none) (.inl rfl));replace HB:=am (below_step Q147 hb);replace HI0:=am (IsS87.below Q131 hb);clear hb ho88)|((with_reducible refine gate_callee (f:=68) rfl ?_);refine goesL_ (some 36) rfl rfl Try.func68 Q1 rfl #[.pointer (some ⟨g,0,none⟩),.int .i64 2] rfl Q84 ?_;(with_reducible refine (spec_l6Rd_pick.calls k g s0_0 t173 2 t225 tp w0 _ ?side1 ?side2 A77.out).mono ?_);(case side1=>exact Q131);(case side2=>exact Q147);rintro e w89 ⟨rfl,hi,hb,hk⟩;refine ⟨_,rfl,?_⟩;replace BK171:=am (KeepBut.blk hk (g':=gb171) (o:=.cells #[.int .i64 t165,.int .i64 t166,.int .i64 t167,.int .i64 t168,.int .i64 t169] 38 (0,0)) Q44 NB171_0.out (by simp));replace HO224:=am (Kd.R_mono (Kd.R_keep (IsS87.apart (show IsS87 w0 _ g s0_0 t173 from by repeat (first|(with_reducible first|exact HI0.out|apply IsS87.alloc|apply IsS87.drewN|apply IsS87.drew|apply IsS87.set_1|refine IsS87.far ?_ NB0_171.out _)|exact HI0.out)) (by (with_reducible repeat (first|apply Kd.R_alloc|apply Kd.R_drewN|apply Kd.R_drew));exact HO224.out) Q0) hk (fun _ h=>h.2)) (fun _ h=>h.1));replace HK:=am (KeepBut.trans Q126 hk (.inl rfl));replace HB:=am (hb);replace HI0:=am (hi);(try clear hb hk hi);obtain ⟨Ao90,co90,eo90⟩:=Kd.R_slice HO224.out;subst eo90;have p227 : 0 ≤ (t225 : Int):=of_decide_eq_true Q8;have q227 : t225 < (y222.length : Int):=of_decide_eq_true Q8;obtain ⟨ad227,e227,hx227_0⟩:=Kd.at_int (Kd.R_reads' HO224.out).2.2 t225 p227 q227;cases e227;replace p227:=eq_true p227;replace q227:=eq_true q227;obtain ⟨hcz91_0,hcz91_1,hcz91_2,hcz91_3,hcz91_4,hfz91_0,hfz91_1,hfz91_2,hfz91_3,hfz91_4⟩:=bx5_ BK171))
     have n0_ : Aside0 (Kd.R (Kd.int .i64) 3 (w89.setCell ⟨gb171,4,none⟩ (.int .i64 (rd y222 t225))) w.heap.size (fun _=>True) (.slice (some ad227) y222.length co90) y222):=⟨by (with_reducible repeat (first|apply Kd.R_alloc|apply Kd.R_drewN|apply Kd.R_drew));exact Kd.R_mono (Kd.R_far (p:=⟨gb171,4,none⟩) (Kd.R_types HO224.out BK171.out Q0) (fun _ hk=>hk.2) (.int .i64 (rd y222 t225))) (fun _ hk=>trivial)⟩
     have n1_ : Aside0 ((w89.setCell ⟨gb171,4,none⟩ (.int .i64 (rd y222 t225))).heap[gb171]? = some (.cells #[.int .i64 t165,.int .i64 t166,.int .i64 t167,.int .i64 t168,.int .i64 (rd y222 t225)] 38 (0,0))):=⟨by (with_reducible repeat (first|refine blk_drewN ?_ _|refine blk_drew ?_|refine blk_alloc ?_ _));refine blk_put (cs:=#[.int .i64 t165,.int .i64 t166,.int .i64 t167,.int .i64 t168,.int .i64 t169]) ?_ 4 _ rfl;(with_reducible repeat (first|refine blk_drewN ?_ _|refine blk_drew ?_|refine blk_alloc ?_ _));exact BK171.out⟩
     have n2_ : Aside0 (IsS87 w0 (w89.setCell ⟨gb171,4,none⟩ (.int .i64 (rd y222 t225))) g s0_0 tp):=⟨Q131⟩
     have n3_ : Aside0 (KeepBut w (w89.setCell ⟨gb171,4,none⟩ (.int .i64 (rd y222 t225))) g none):=⟨Q126⟩
     have n4_ : Aside0 (Below w0.heap.size w0 (w89.setCell ⟨gb171,4,none⟩ (.int .i64 (rd y222 t225)))):=⟨Q147⟩
     (try clear HO224)
     (try clear BK171)
     (try clear HI0)
     (try clear HK)
     (try clear HB)
     generalize (w89.setCell ⟨gb171,4,none⟩ (.int .i64 (rd y222 t225))) = wT at n0_ n1_ n2_ n3_ n4_ ⊢
     have HO224:=n0_
     have BK171:=n1_
     have HI0:=n2_
     have HK:=n3_
     have HB:=n4_
     clear n0_ n1_ n2_ n3_ n4_
     clear HO224
     obtain ⟨e0,e1,e2,e3,e4,hE,BKE⟩ : ∃ e0 e1 e2 e3 e4 : Int,(⟨e0,e1,⟨e2,e3⟩,e4⟩ : S38) = ⟨t165,t166,⟨t167,t168⟩,(rd y222 t225)⟩ ∧ Aside0 (wT.heap[gb171]? = some (.cells #[.int .i64 e0,.int .i64 e1,.int .i64 e2,.int .i64 e3,.int .i64 e4] 38 (0,0))):=⟨_,_,_,_,_,rfl,BK171⟩
     clear BK171;have BK171:=BKE;clear BKE
     have Ny_:=am (Nyc.out.trans (congrArg (fun z : S38=>[z]) hE.symm));clear Nyc;have Nyc:=Ny_;clear Ny_ hE
    case' neg =>
     rw [if_neg c76] at H
     have c76b0 : (t172 == 3) = false:=beq_eq_false_iff_ne.mpr c76
     have c76b1 : (t172 != 3) = true:=bne_iff_ne.mpr c76
     obtain ⟨ya,hya⟩ : ∃ y_ : List (S38),y_ = (([] : List (S38))):=⟨_,rfl⟩
     replace H : (if ya.length + l1.length < 3518437208883 then ((some (ya ++ l1 : List (S38))).bind fun yb=>((some (([(⟨t165,t166,(⟨t167,8⟩ : S36),t169⟩ : S38)] : List (S38)) : List (S38))).bind fun yc=>(if yb.length + yc.length < 3518437208883 then (some ((yb ++ yc),t173)) else (none)))) else (none)) = some (r1,r2):=Q163
     have Nya:=Aside0.mk hya
     clear hya
     have c102 : ya.length + l1.length < 3518437208883:=Classical.byContradiction fun hn_=>by rw [if_neg hn_] at H;exact absurd H (by simp)
     rw [if_pos c102] at H
     have LMca:=Aside0.mk c102
     clear c102
     obtain ⟨yb,hyb⟩ : ∃ y_ : List (S38),y_ = (ya ++ l1):=⟨_,rfl⟩
     replace H : ((some (([(⟨t165,t166,(⟨t167,8⟩ : S36),t169⟩ : S38)] : List (S38)) : List (S38))).bind fun yc=>(if yb.length + yc.length < 3518437208883 then (some ((yb ++ yc),t173)) else (none))) = some (r1,r2):=Q164
     have Nyb:=Aside0.mk hyb
     clear hyb
     obtain ⟨yc,hyc⟩ : ∃ y_ : List (S38),y_ = (([(⟨t165,t166,(⟨t167,8⟩ : S36),t169⟩ : S38)] : List (S38))):=⟨_,rfl⟩
     replace H : (if yb.length + yc.length < 3518437208883 then (some ((yb ++ yc),t173)) else (none)) = some (r1,r2):=Q165
     have Nyc:=Aside0.mk hyc
     clear hyc
     have c103 : yb.length + yc.length < 3518437208883:=Classical.byContradiction fun hn_=>by rw [if_neg hn_] at H;exact absurd H (by simp)
     rw [if_pos c103] at H
     have LMcb:=Aside0.mk c103
     clear c103
     obtain ⟨yd,hyd⟩ : ∃ y_ : List (S38),y_ = (yb ++ yc):=⟨_,rfl⟩
     replace H : (some (yd,t173)) = some (r1,r2):=Q166
     have Nyd:=Aside0.mk hyd
     clear hyd
     simp only [Option.some.injEq,Prod.mk.injEq] at H
     obtain ⟨rfl,rfl⟩:=H
     go_enter Try.func81,Try.ntmps81
     try go_wp2_with (first|((with_reducible refine gate_callee (f:=70) rfl ?_);refine goesL_ (some 7) rfl rfl Try.func70 Q1 rfl #[.pointer (some ⟨g,0,none⟩)] rfl Q84 ?_;(with_reducible refine (spec_l71Row.calls k g s0_0 s0_1 t165 t166 t167 t168 t169 t170 w0 _ ?side1 ?side2 A3.out).mono ?_);(case side1=>exact Q88);(case side2=>exact Q114);rintro e w104 ⟨rfl,hi,hb,hk⟩;refine ⟨_,rfl,?_⟩;replace HK:=am (KeepBut.trans Q87 hk (.inl rfl));replace HB:=am (hb);replace HI0:=am (hi);(try clear hb hk hi))|((with_reducible refine gate_dst (N:=5) rfl ?_);refine bE_ 5 #[.int .i64 0,.int .i64 0,.int .i64 0,.int .i64 0,.int .i64 0] 38 ?_;intro gb171 hg w105 hbox hb;replace HB:=am (below_step Q114 hb);have BK171:=am (hbox);have GW171:=am ((Q174 : w.heap.size ≤ gb171));have GE171:=am ((Nat.le_trans HW0.out (Q174 : w.heap.size ≤ gb171) : w0.heap.size ≤ gb171));replace HK:=am (KeepBut.trans Q87 (KeepBut.of_below hb g none) (.inl rfl));have NB0_171:=am ((by rw [hg];exact Nat.ne_of_lt (IsS87.lt (show IsS87 w0 _ g s0_0 t170 from by repeat (first|(with_reducible first|exact HI0.out|apply IsS87.alloc|apply IsS87.drewN|apply IsS87.drew|apply IsS87.set_1)|exact HI0.out))) : g ≠ gb171));have NB171_0:=am ((by rw [hg];exact Nat.ne_of_gt (IsS87.lt (show IsS87 w0 _ g s0_0 t170 from by repeat (first|(with_reducible first|exact HI0.out|apply IsS87.alloc|apply IsS87.drewN|apply IsS87.drew|apply IsS87.set_1)|exact HI0.out))) : gb171 ≠ g));replace HI0:=am (IsS87.below Q88 hb);clear hb hbox hg;have hnb106:=NB171_0.out;have hnc106:=NB0_171.out;obtain ⟨hcz107_0,hcz107_1,hcz107_2,hcz107_3,hcz107_4,hfz107_0,hfz107_1,hfz107_2,hfz107_3,hfz107_4⟩:=bx5_ BK171)|((with_reducible refine gate_callee (f:=68) rfl ?_);refine goesL_ (some 9) rfl rfl Try.func68 Q1 rfl #[.pointer (some ⟨g,0,none⟩),.int .i64 5] rfl Q84 ?_;(with_reducible refine (spec_l6Rd_pick.calls k g s0_0 t170 5 t172 t173 w0 _ ?side1 ?side2 A4.out).mono ?_);(case side1=>exact Q131);(case side2=>exact Q147);rintro e w108 ⟨rfl,hi,hb,hk⟩;refine ⟨_,rfl,?_⟩;replace BK171:=am (KeepBut.blk hk (g':=gb171) (o:=.cells #[.int .i64 t165,.int .i64 t166,.int .i64 t167,.int .i64 t168,.int .i64 t169] 38 (0,0)) Q170 NB171_0.out (by simp));replace HK:=am (KeepBut.trans Q126 hk (.inl rfl));replace HB:=am (hb);replace HI0:=am (hi);(try clear hb hk hi);obtain ⟨hcz109_0,hcz109_1,hcz109_2,hcz109_3,hcz109_4,hfz109_0,hfz109_1,hfz109_2,hfz109_3,hfz109_4⟩:=bx5_ BK171))
     have n0_ : Aside0 ((w108.setCell ⟨gb171,3,none⟩ (.int .i64 8)).heap[gb171]? = some (.cells #[.int .i64 t165,.int .i64 t166,.int .i64 t167,.int .i64 8,.int .i64 t169] 38 (0,0))):=⟨by (with_reducible repeat (first|refine blk_drewN ?_ _|refine blk_drew ?_|refine blk_alloc ?_ _));refine blk_put (cs:=#[.int .i64 t165,.int .i64 t166,.int .i64 t167,.int .i64 t168,.int .i64 t169]) ?_ 3 _ rfl;(with_reducible repeat (first|refine blk_drewN ?_ _|refine blk_drew ?_|refine blk_alloc ?_ _));exact BK171.out⟩
     have n1_ : Aside0 (IsS87 w0 (w108.setCell ⟨gb171,3,none⟩ (.int .i64 8)) g s0_0 t173):=⟨Q131⟩
     have n2_ : Aside0 (KeepBut w (w108.setCell ⟨gb171,3,none⟩ (.int .i64 8)) g none):=⟨Q126⟩
     have n3_ : Aside0 (Below w0.heap.size w0 (w108.setCell ⟨gb171,3,none⟩ (.int .i64 8))):=⟨Q147⟩
     (try clear BK171)
     (try clear HI0)
     (try clear HK)
     (try clear HB)
     generalize (w108.setCell ⟨gb171,3,none⟩ (.int .i64 8)) = wT at n0_ n1_ n2_ n3_ ⊢
     have BK171:=n0_
     have HI0:=n1_
     have HK:=n2_
     have HB:=n3_
     clear n0_ n1_ n2_ n3_
     obtain ⟨tp,hT_⟩ : ∃ tp,tp = t173:=⟨_,rfl⟩;subst hT_
     obtain ⟨e0,e1,e2,e3,e4,hE,BKE⟩ : ∃ e0 e1 e2 e3 e4 : Int,(⟨e0,e1,⟨e2,e3⟩,e4⟩ : S38) = ⟨t165,t166,⟨t167,8⟩,t169⟩ ∧ Aside0 (wT.heap[gb171]? = some (.cells #[.int .i64 e0,.int .i64 e1,.int .i64 e2,.int .i64 e3,.int .i64 e4] 38 (0,0))):=⟨_,_,_,_,_,rfl,BK171⟩
     clear BK171;have BK171:=BKE;clear BKE
     have Ny_:=am (Nyc.out.trans (congrArg (fun z : S38=>[z]) hE.symm));clear Nyc;have Nyc:=Ny_;clear Ny_ hE
 all_goals
  replace BK171:=am (blk_drew BK171.out)
  replace HI0:=am (IsS87.drew HI0.out)
  replace HK:=am (keep_drew HK.out)
  replace HB:=am (below_drew1 HB.out)
  refine start_ (n:=7) (S:=fun w'=>w'.cell? ⟨gb171,0,none⟩ = some (.int .i64 e0) ∧ w'.cell? ⟨gb171,1,none⟩ = some (.int .i64 e1) ∧ w'.cell? ⟨gb171,2,none⟩ = some (.int .i64 e2) ∧ w'.cell? ⟨gb171,3,none⟩ = some (.int .i64 e3) ∧ w'.cell? ⟨gb171,4,none⟩ = some (.int .i64 e4)) (ds:=[]) b7_0 Q1 rfl rfl ⟨(blk_cell BK171.out 0).trans rfl,(blk_cell BK171.out 1).trans rfl,(blk_cell BK171.out 2).trans rfl,(blk_cell BK171.out 3).trans rfl,(blk_cell BK171.out 4).trans rfl⟩ (fun hHeld=>?_)
  generalize wT.drew = w111 at BK171 HI0 HK HB hHeld ⊢
  refine pU_ 1 41 c6 ?_
  refine tU_ 3 43 c7 hHeld ?_
  refine join_ (σ:=Value × Value × Value) 2 b7_5 (fun s_=>[(40,s_.1),(42,s_.2.1),(44,s_.2.2)]) (fun s_ w'=>(w'.cell? ⟨gb171,0,none⟩ = some (.int .i64 e0) ∧ w'.cell? ⟨gb171,1,none⟩ = some (.int .i64 e1) ∧ w'.cell? ⟨gb171,2,none⟩ = some (.int .i64 e2) ∧ w'.cell? ⟨gb171,3,none⟩ = some (.int .i64 e3) ∧ w'.cell? ⟨gb171,4,none⟩ = some (.int .i64 e4)) ∧ (Kd.R k38 38 w' w.heap.size (fun k_=>some k_ ≠ (s_.2.2 : Value).ownBlock ∧ k_ ≠ gb171) s_.2.1 yb) ∧ (Kd.R k38 38 w' w.heap.size (fun k_=>some k_ ≠ (s_.2.1 : Value).ownBlock ∧ k_ ≠ gb171) s_.2.2 yc) ∧ (w'.heap[gb171]? = some (.cells #[.int .i64 e0,.int .i64 e1,.int .i64 e2,.int .i64 e3,.int .i64 e4] 38 (0,0))) ∧ (IsS87 w0 w' g s0_0 tp) ∧ (KeepBut w w' g none) ∧ (Below w0.heap.size w0 w')) ?_ ?_
  rotate_left
  ·intro hCont
   refine two_ (i:=0) (j:=4) (Ni:=some 40) (Nj:=some 44) c9 c10 rfl rfl rfl rfl Q1 Q0 Q0 (fun K hK=>?_) (fun K hK=>?_)
   ·skip
    refine Kd.R_lit_step k38 _ 38 ?hg (N:=40) ?hd (xs:=([] : List (S38))) (inner:=[]) (ok:=fun _=>True) (okp:=fun _=>True) ?hr ?hp (fun _ hk=>hk) trivial (Below.refl _ _) (Nat.le_refl _) (by simp) ?_;(case hd=>rfl);(case hg=>rfl);(case hr=>first|(go_simp;done)|(go_simp;rfl));(case hp=>exact (Reps.none _ _))
    intro v241 w112 ho113 hb hg_ hnew_
    clear hg_ hnew_
    (first|rw [← Nya.out] at ho113|(simp only [Int.reduceToNat] at ho113;rw [← Nya.out] at ho113))
    have HO242:=am (Kd.R_lower (Kd.R_newB ho113 (g:=gb171) (o:=.cells #[.int .i64 e0,.int .i64 e1,.int .i64 e2,.int .i64 e3,.int .i64 e4] 38 (0,0)) Q44) (keep_size (w:=w) (g:=g) (row:=none) Q126))
    replace BK171:=am (blk_below (g:=gb171) (o:=.cells #[.int .i64 e0,.int .i64 e1,.int .i64 e2,.int .i64 e3,.int .i64 e4] 38 (0,0)) Q44 hb)
    replace HK:=am (KeepBut.trans Q126 (KeepBut.of_below hb g none) (.inl rfl))
    replace HB:=am (below_step Q147 hb)
    replace HI0:=am (IsS87.below Q131 hb)
    clear hb ho113
    refine hK.out _ _ ⟨(blk_cell BK171.out 0).trans rfl,(blk_cell BK171.out 1).trans rfl,(blk_cell BK171.out 2).trans rfl,(blk_cell BK171.out 3).trans rfl,(blk_cell BK171.out 4).trans rfl⟩ (fun hHeld=>?_)
    clear hK K
    refine norm_ (a':=?_) ?_ ?_
    rotate_left
    ·show Act.put _ (some 40) _ = _
     simp only [Act.put,sA_,sZ_,sS_,i64_w,i32_w]
     rfl
    refine two_ (i:=2) (j:=4) (Ni:=some 42) (Nj:=some 44) b7_4 c12 rfl rfl rfl rfl Q1 Q0 Q0 (fun K hK=>?_) (fun K hK=>?_)
    ·skip
     refine Kd.R_append_rows_step k38 w.heap.size (by rfl) (.tmp 40) (.tmp 41) 23 38 (.agg #[(.int .i64 0),(.int .i64 0),(.int .i64 0),(.int .i64 0),(.int .i64 0)]) 40 rfl Try.underlying23 info38 rfl Q0 (by omega) v241 ya l1 _ _ _ (fun k_=>k_ ≠ gb171) (fun _=>False) rfl rfl ?aO ?aR (fun _ _ h=>h) (fun _ h=>h.elim) ?aF (Below.refl _ _) ?aS ?aL ?_
     (case aR=>exact Kd.C_foot_now HR1.out Q126)
     (case aF=>exact (fun k_ hk=>Kd.freshB (g:=gb171) (o:=.cells #[.int .i64 e0,.int .i64 e1,.int .i64 e2,.int .i64 e3,.int .i64 e4] 38 (0,0)) Q44 k_ hk))
     (case aO=>exact (by (with_reducible repeat (first|apply Kd.R_alloc|apply Kd.R_drewN|apply Kd.R_drew));exact Kd.R_mono HO242.out (fun _ hk=>hk.2)))
     (case aS=>exact (keep_size (w:=w) (g:=g) (row:=none) Q126))
     (case aL=>have:=LMca.out;omega)
     intro v244 w114 ho hb hg hat
     rw [← Nyb.out] at ho
     replace BK171:=am (blk_grown (g:=gb171) (o:=.cells #[.int .i64 e0,.int .i64 e1,.int .i64 e2,.int .i64 e3,.int .i64 e4] 38 (0,0)) Q44 hg (Kd.R_away HO242.out (fun _ hk=>hk.2)))
     replace HB:=am (below_weaken Q147 HL.out hb)
     replace HI0:=am (IsS87.grown (show IsS87 w0 _ g s0_0 tp from by repeat (first|(with_reducible first|exact HI0.out|apply IsS87.alloc|apply IsS87.drewN|apply IsS87.drew|apply IsS87.set_1|refine IsS87.far ?_ NB0_171.out _)|exact HI0.out)) hg (IsS87.own_ne HI0.out HO242.out Q0))
     replace HK:=am (KeepBut.trans Q126 (KeepBut.of_grown hg g) (Kd.R_base2 HO242.out))
     have HO245:=am (ho)
     clear HO242
     clear ho hb hg hat
     refine hK.out _ _ ⟨(blk_cell BK171.out 0).trans rfl,(blk_cell BK171.out 1).trans rfl,(blk_cell BK171.out 2).trans rfl,(blk_cell BK171.out 3).trans rfl,(blk_cell BK171.out 4).trans rfl⟩ (fun hHeld=>?_)
     clear hK K
     refine norm_ (a':=?_) ?_ ?_
     rotate_left
     ·show Act.put _ (some 42) _ = _
      simp only [Act.put,sA_,sZ_,sS_,i64_w,i32_w]
      rfl
     refine one_ (i:=4) (N:=some 44) b7_5 rfl rfl Q1 Q0 (fun K hK=>?_)
     refine Kd.R_lit_step k38 _ 38 ?hg (N:=44) ?hd (xs:=([(⟨e0,e1,(⟨e2,e3⟩ : S36),e4⟩ : S38)] : List (S38))) (inner:=[.int .i64 e0,.int .i64 e1,.int .i64 e2,.int .i64 e3,.int .i64 e4]) (ok:=fun _=>True) (okp:=fun _=>True) ?hr ?hp (fun _ hk=>hk) trivial (Below.refl _ _) (Nat.le_refl _) (by simp) ?_;(case hd=>rfl);(case hg=>rfl);(case hr=>first|(go_simp;done)|(go_simp;rfl));(case hp=>exact (Reps.c5 (show Kd.M k38 _ _ _ (⟨e0,e1,(⟨e2,e3⟩ : S36),e4⟩ : S38) [.int .i64 e0,.int .i64 e1,.int .i64 e2,.int .i64 e3,.int .i64 e4] from (k38_mkM _ _ _ (⟨e0,e1,(⟨e2,e3⟩ : S36),e4⟩ : S38) )) (Reps.none _ _)))
     intro v247 w115 ho116 hb hg_ hnew_
     clear hg_ hnew_
     (first|rw [← Nyc.out] at ho116|(simp only [Int.reduceToNat] at ho116;rw [← Nyc.out] at ho116))
     have HO248:=am (Kd.R_lower (Kd.R_newB (Kd.R_new' ho116 (Kd.R_lt Q26)) (g:=gb171) (o:=.cells #[.int .i64 e0,.int .i64 e1,.int .i64 e2,.int .i64 e3,.int .i64 e4] 38 (0,0)) Q44) (keep_size (w:=w) (g:=g) (row:=none) Q126))
     replace HO245:=am (Kd.R_elder' Q26 (Kd.R_base ho116) hb)
     replace BK171:=am (blk_below (g:=gb171) (o:=.cells #[.int .i64 e0,.int .i64 e1,.int .i64 e2,.int .i64 e3,.int .i64 e4] 38 (0,0)) Q44 hb)
     replace HK:=am (KeepBut.trans Q126 (KeepBut.of_below hb g none) (.inl rfl))
     replace HB:=am (below_step Q147 hb)
     replace HI0:=am (IsS87.below Q131 hb)
     clear hb ho116
     refine hK.out _ _ ⟨(blk_cell BK171.out 0).trans rfl,(blk_cell BK171.out 1).trans rfl,(blk_cell BK171.out 2).trans rfl,(blk_cell BK171.out 3).trans rfl,(blk_cell BK171.out 4).trans rfl⟩ (fun hHeld=>?_)
     clear hK K
     refine norm_ (a':=?_) ?_ ?_
     rotate_left
     ·show Act.put _ (some 44) _ = _
      simp only [Act.put,sA_,sZ_,sS_,i64_w,i32_w]
      rfl
     exact norm_ Q19 (hCont (v241,v244,v247) _ ⟨hHeld,(by (with_reducible repeat (first|apply Kd.R_alloc|apply Kd.R_drewN|apply Kd.R_drew));exact Kd.R_mono HO245.out (fun _ hk=>⟨hk.2,hk.1⟩)),(by (with_reducible repeat (first|apply Kd.R_alloc|apply Kd.R_drewN|apply Kd.R_drew));exact Kd.R_mono HO248.out (fun _ hk=>⟨hk.1.2,hk.2⟩)),Q44,Q131,Q126,Q147⟩)
    ·skip
     refine Kd.R_lit_step k38 _ 38 ?hg (N:=44) ?hd (xs:=([(⟨e0,e1,(⟨e2,e3⟩ : S36),e4⟩ : S38)] : List (S38))) (inner:=[.int .i64 e0,.int .i64 e1,.int .i64 e2,.int .i64 e3,.int .i64 e4]) (ok:=fun _=>True) (okp:=fun _=>True) ?hr ?hp (fun _ hk=>hk) trivial (Below.refl _ _) (Nat.le_refl _) (by simp) ?_;(case hd=>rfl);(case hg=>rfl);(case hr=>first|(go_simp;done)|(go_simp;rfl));(case hp=>exact (Reps.c5 (show Kd.M k38 _ _ _ (⟨e0,e1,(⟨e2,e3⟩ : S36),e4⟩ : S38) [.int .i64 e0,.int .i64 e1,.int .i64 e2,.int .i64 e3,.int .i64 e4] from (k38_mkM _ _ _ (⟨e0,e1,(⟨e2,e3⟩ : S36),e4⟩ : S38) )) (Reps.none _ _)))
     intro v247 w114 ho115 hb hg_ hnew_
     clear hg_ hnew_
     (first|rw [← Nyc.out] at ho115|(simp only [Int.reduceToNat] at ho115;rw [← Nyc.out] at ho115))
     have HO248:=am (Kd.R_lower (Kd.R_newB (Kd.R_new' ho115 (Kd.R_lt (by (with_reducible repeat (first|apply Kd.R_alloc|apply Kd.R_drewN|apply Kd.R_drew));exact HO242.out))) (g:=gb171) (o:=.cells #[.int .i64 e0,.int .i64 e1,.int .i64 e2,.int .i64 e3,.int .i64 e4] 38 (0,0)) Q44) (keep_size (w:=w) (g:=g) (row:=none) Q126))
     replace HO242:=am (Kd.R_elder' (by (with_reducible repeat (first|apply Kd.R_alloc|apply Kd.R_drewN|apply Kd.R_drew));exact HO242.out) (Kd.R_base ho115) hb)
     replace BK171:=am (blk_below (g:=gb171) (o:=.cells #[.int .i64 e0,.int .i64 e1,.int .i64 e2,.int .i64 e3,.int .i64 e4] 38 (0,0)) Q44 hb)
     replace HK:=am (KeepBut.trans Q126 (KeepBut.of_below hb g none) (.inl rfl))
     replace HB:=am (below_step Q147 hb)
     replace HI0:=am (IsS87.below Q131 hb)
     clear hb ho115
     refine hK.out _ _ ⟨(blk_cell BK171.out 0).trans rfl,(blk_cell BK171.out 1).trans rfl,(blk_cell BK171.out 2).trans rfl,(blk_cell BK171.out 3).trans rfl,(blk_cell BK171.out 4).trans rfl⟩ (fun hHeld=>?_)
     clear hK K
     refine norm_ (a':=?_) ?_ ?_
     rotate_left
     ·show Act.put _ (some 44) _ = _
      simp only [Act.put,sA_,sZ_,sS_,i64_w,i32_w]
      rfl
     refine one_ (i:=2) (N:=some 42) b7_5 rfl rfl Q1 Q0 (fun K hK=>?_)
     refine Kd.R_append_rows_step k38 w.heap.size (by rfl) (.tmp 40) (.tmp 41) 23 38 (.agg #[(.int .i64 0),(.int .i64 0),(.int .i64 0),(.int .i64 0),(.int .i64 0)]) 40 rfl Try.underlying23 info38 rfl Q0 (by omega) v241 ya l1 _ _ _ (fun k_=>some k_ ≠ (v247 : Value).ownBlock ∧ k_ ≠ gb171) (fun _=>False) rfl rfl ?aO ?aR (fun _ _ h=>h) (fun _ h=>h.elim) ?aF (Below.refl _ _) ?aS ?aL ?_
     (case aR=>exact Kd.C_foot_now HR1.out Q126)
     (case aF=>exact (fun k_ hk=>⟨Kd.fresh' (Kd.R_lt Q27) k_ hk,Kd.freshB (g:=gb171) (o:=.cells #[.int .i64 e0,.int .i64 e1,.int .i64 e2,.int .i64 e3,.int .i64 e4] 38 (0,0)) Q44 k_ hk⟩))
     (case aO=>exact (by (with_reducible repeat (first|apply Kd.R_alloc|apply Kd.R_drewN|apply Kd.R_drew));exact Kd.R_mono HO242.out (fun _ hk=>⟨hk.2,hk.1.2⟩)))
     (case aS=>exact (keep_size (w:=w) (g:=g) (row:=none) Q126))
     (case aL=>have:=LMca.out;omega)
     intro v244 w116 ho hb hg hat
     rw [← Nyb.out] at ho
     replace BK171:=am (blk_grown (g:=gb171) (o:=.cells #[.int .i64 e0,.int .i64 e1,.int .i64 e2,.int .i64 e3,.int .i64 e4] 38 (0,0)) Q44 hg (Kd.R_away HO242.out (fun _ hk=>hk.1.2)))
     replace HO248:=am (Kd.R_after (ok:=(fun k_=>k_ ≠ gb171)) (by (with_reducible repeat (first|apply Kd.R_alloc|apply Kd.R_drewN|apply Kd.R_drew));exact Kd.R_mono HO248.out (fun _ hk=>⟨hk.2,hk.1.2⟩)) hg hat)
     replace HB:=am (below_weaken Q147 HL.out hb)
     replace HI0:=am (IsS87.grown (show IsS87 w0 _ g s0_0 tp from by repeat (first|(with_reducible first|exact HI0.out|apply IsS87.alloc|apply IsS87.drewN|apply IsS87.drew|apply IsS87.set_1|refine IsS87.far ?_ NB0_171.out _)|exact HI0.out)) hg (IsS87.own_ne HI0.out HO242.out Q0))
     replace HK:=am (KeepBut.trans Q126 (KeepBut.of_grown hg g) (Kd.R_base2 HO242.out))
     have HO245:=am (ho)
     clear HO242
     clear ho hb hg hat
     refine hK.out _ _ ⟨(blk_cell BK171.out 0).trans rfl,(blk_cell BK171.out 1).trans rfl,(blk_cell BK171.out 2).trans rfl,(blk_cell BK171.out 3).trans rfl,(blk_cell BK171.out 4).trans rfl⟩ (fun hHeld=>?_)
     clear hK K
     refine norm_ (a':=?_) ?_ ?_
     rotate_left
     ·show Act.put _ (some 42) _ = _
      simp only [Act.put,sA_,sZ_,sS_,i64_w,i32_w]
      rfl
     exact norm_ Q19 (hCont (v241,v244,v247) _ ⟨hHeld,Q26,Q86,Q44,Q131,Q126,Q147⟩)
   ·skip
    refine Kd.R_lit_step k38 _ 38 ?hg (N:=44) ?hd (xs:=([(⟨e0,e1,(⟨e2,e3⟩ : S36),e4⟩ : S38)] : List (S38))) (inner:=[.int .i64 e0,.int .i64 e1,.int .i64 e2,.int .i64 e3,.int .i64 e4]) (ok:=fun _=>True) (okp:=fun _=>True) ?hr ?hp (fun _ hk=>hk) trivial (Below.refl _ _) (Nat.le_refl _) (by simp) ?_;(case hd=>rfl);(case hg=>rfl);(case hr=>first|(go_simp;done)|(go_simp;rfl));(case hp=>exact (Reps.c5 (show Kd.M k38 _ _ _ (⟨e0,e1,(⟨e2,e3⟩ : S36),e4⟩ : S38) [.int .i64 e0,.int .i64 e1,.int .i64 e2,.int .i64 e3,.int .i64 e4] from (k38_mkM _ _ _ (⟨e0,e1,(⟨e2,e3⟩ : S36),e4⟩ : S38) )) (Reps.none _ _)))
    intro v247 w112 ho113 hb hg_ hnew_
    clear hg_ hnew_
    (first|rw [← Nyc.out] at ho113|(simp only [Int.reduceToNat] at ho113;rw [← Nyc.out] at ho113))
    have HO248:=am (Kd.R_lower (Kd.R_newB ho113 (g:=gb171) (o:=.cells #[.int .i64 e0,.int .i64 e1,.int .i64 e2,.int .i64 e3,.int .i64 e4] 38 (0,0)) Q44) (keep_size (w:=w) (g:=g) (row:=none) Q126))
    replace BK171:=am (blk_below (g:=gb171) (o:=.cells #[.int .i64 e0,.int .i64 e1,.int .i64 e2,.int .i64 e3,.int .i64 e4] 38 (0,0)) Q44 hb)
    replace HK:=am (KeepBut.trans Q126 (KeepBut.of_below hb g none) (.inl rfl))
    replace HB:=am (below_step Q147 hb)
    replace HI0:=am (IsS87.below Q131 hb)
    clear hb ho113
    refine hK.out _ _ ⟨(blk_cell BK171.out 0).trans rfl,(blk_cell BK171.out 1).trans rfl,(blk_cell BK171.out 2).trans rfl,(blk_cell BK171.out 3).trans rfl,(blk_cell BK171.out 4).trans rfl⟩ (fun hHeld=>?_)
    clear hK K
    refine norm_ (a':=?_) ?_ ?_
    rotate_left
    ·show Act.put _ (some 44) _ = _
     simp only [Act.put,sA_,sZ_,sS_,i64_w,i32_w]
     rfl
    refine one_ (i:=0) (N:=some 40) c12 rfl rfl Q1 Q0 (fun K hK=>?_)
    refine Kd.R_lit_step k38 _ 38 ?hg (N:=40) ?hd (xs:=([] : List (S38))) (inner:=[]) (ok:=fun _=>True) (okp:=fun _=>True) ?hr ?hp (fun _ hk=>hk) trivial (Below.refl _ _) (Nat.le_refl _) (by simp) ?_;(case hd=>rfl);(case hg=>rfl);(case hr=>first|(go_simp;done)|(go_simp;rfl));(case hp=>exact (Reps.none _ _))
    intro v241 w114 ho115 hb hg_ hnew_
    clear hg_ hnew_
    (first|rw [← Nya.out] at ho115|(simp only [Int.reduceToNat] at ho115;rw [← Nya.out] at ho115))
    have HO242:=am (Kd.R_lower (Kd.R_newB (Kd.R_new' ho115 (Kd.R_lt Q27)) (g:=gb171) (o:=.cells #[.int .i64 e0,.int .i64 e1,.int .i64 e2,.int .i64 e3,.int .i64 e4] 38 (0,0)) Q44) (keep_size (w:=w) (g:=g) (row:=none) Q126))
    replace HO248:=am (Kd.R_elder' Q27 (Kd.R_base ho115) hb)
    replace BK171:=am (blk_below (g:=gb171) (o:=.cells #[.int .i64 e0,.int .i64 e1,.int .i64 e2,.int .i64 e3,.int .i64 e4] 38 (0,0)) Q44 hb)
    replace HK:=am (KeepBut.trans Q126 (KeepBut.of_below hb g none) (.inl rfl))
    replace HB:=am (below_step Q147 hb)
    replace HI0:=am (IsS87.below Q131 hb)
    clear hb ho115
    refine hK.out _ _ ⟨(blk_cell BK171.out 0).trans rfl,(blk_cell BK171.out 1).trans rfl,(blk_cell BK171.out 2).trans rfl,(blk_cell BK171.out 3).trans rfl,(blk_cell BK171.out 4).trans rfl⟩ (fun hHeld=>?_)
    clear hK K
    refine norm_ (a':=?_) ?_ ?_
    rotate_left
    ·show Act.put _ (some 40) _ = _
     simp only [Act.put,sA_,sZ_,sS_,i64_w,i32_w]
     rfl
    refine one_ (i:=2) (N:=some 42) b7_5 rfl rfl Q1 Q0 (fun K hK=>?_)
    refine Kd.R_append_rows_step k38 w.heap.size (by rfl) (.tmp 40) (.tmp 41) 23 38 (.agg #[(.int .i64 0),(.int .i64 0),(.int .i64 0),(.int .i64 0),(.int .i64 0)]) 40 rfl Try.underlying23 info38 rfl Q0 (by omega) v241 ya l1 _ _ _ (fun k_=>some k_ ≠ (v247 : Value).ownBlock ∧ k_ ≠ gb171) (fun _=>False) rfl rfl ?aO ?aR (fun _ _ h=>h) (fun _ h=>h.elim) ?aF (Below.refl _ _) ?aS ?aL ?_
    (case aR=>exact Kd.C_foot_now HR1.out Q126)
    (case aF=>exact (fun k_ hk=>⟨Kd.fresh' (Kd.R_lt Q27) k_ hk,Kd.freshB (g:=gb171) (o:=.cells #[.int .i64 e0,.int .i64 e1,.int .i64 e2,.int .i64 e3,.int .i64 e4] 38 (0,0)) Q44 k_ hk⟩))
    (case aO=>exact (by (with_reducible repeat (first|apply Kd.R_alloc|apply Kd.R_drewN|apply Kd.R_drew));exact Kd.R_mono HO242.out (fun _ hk=>⟨hk.1.2,hk.2⟩)))
    (case aS=>exact (keep_size (w:=w) (g:=g) (row:=none) Q126))
    (case aL=>have:=LMca.out;omega)
    intro v244 w116 ho hb hg hat
    rw [← Nyb.out] at ho
    replace BK171:=am (blk_grown (g:=gb171) (o:=.cells #[.int .i64 e0,.int .i64 e1,.int .i64 e2,.int .i64 e3,.int .i64 e4] 38 (0,0)) Q44 hg (Kd.R_away HO242.out (fun _ hk=>hk.2)))
    replace HO248:=am (Kd.R_after (ok:=(fun k_=>k_ ≠ gb171)) (by (with_reducible repeat (first|apply Kd.R_alloc|apply Kd.R_drewN|apply Kd.R_drew));exact Kd.R_mono HO248.out (fun _ hk=>⟨hk.1.2,hk.2⟩)) hg hat)
    replace HB:=am (below_weaken Q147 HL.out hb)
    replace HI0:=am (IsS87.grown (show IsS87 w0 _ g s0_0 tp from by repeat (first|(with_reducible first|exact HI0.out|apply IsS87.alloc|apply IsS87.drewN|apply IsS87.drew|apply IsS87.set_1|refine IsS87.far ?_ NB0_171.out _)|exact HI0.out)) hg (IsS87.own_ne HI0.out HO242.out Q0))
    replace HK:=am (KeepBut.trans Q126 (KeepBut.of_grown hg g) (Kd.R_base2 HO242.out))
    have HO245:=am (ho)
    clear HO242
    clear ho hb hg hat
    refine hK.out _ _ ⟨(blk_cell BK171.out 0).trans rfl,(blk_cell BK171.out 1).trans rfl,(blk_cell BK171.out 2).trans rfl,(blk_cell BK171.out 3).trans rfl,(blk_cell BK171.out 4).trans rfl⟩ (fun hHeld=>?_)
    clear hK K
    refine norm_ (a':=?_) ?_ ?_
    rotate_left
    ·show Act.put _ (some 42) _ = _
     simp only [Act.put,sA_,sZ_,sS_,i64_w,i32_w]
     rfl
    exact norm_ Q19 (hCont (v241,v244,v247) _ ⟨hHeld,Q26,Q86,Q44,Q131,Q126,Q147⟩)
  rintro ⟨v241,v244,v247⟩ w117 ⟨hS_,h0_,h1_,h2_,h3_,h4_,h5_⟩
  have n0_ : Aside0 (Kd.R k38 38 w117 w.heap.size (fun k_=>some k_ ≠ (v247 : Value).ownBlock ∧ k_ ≠ gb171) v244 yb):=⟨h0_⟩
  have n1_ : Aside0 (Kd.R k38 38 w117 w.heap.size (fun k_=>some k_ ≠ (v244 : Value).ownBlock ∧ k_ ≠ gb171) v247 yc):=⟨h1_⟩
  have n2_ : Aside0 (w117.heap[gb171]? = some (.cells #[.int .i64 e0,.int .i64 e1,.int .i64 e2,.int .i64 e3,.int .i64 e4] 38 (0,0))):=⟨h2_⟩
  have n3_ : Aside0 (IsS87 w0 w117 g s0_0 tp):=⟨h3_⟩
  have n4_ : Aside0 (KeepBut w w117 g none):=⟨h4_⟩
  have n5_ : Aside0 (Below w0.heap.size w0 w117):=⟨h5_⟩
  clear BK171
  clear HI0
  clear HK
  clear HB
  clear h0_ h1_ h2_ h3_ h4_ h5_
  have HO245:=n0_
  have HO248:=n1_
  have BK171:=n2_
  have HI0:=n3_
  have HK:=n4_
  have HB:=n5_
  clear n0_ n1_ n2_ n3_ n4_ n5_
  have hHeld : w117.cell? ⟨gb171,0,none⟩ = some (.int .i64 e0) ∧ w117.cell? ⟨gb171,1,none⟩ = some (.int .i64 e1) ∧ w117.cell? ⟨gb171,2,none⟩ = some (.int .i64 e2) ∧ w117.cell? ⟨gb171,3,none⟩ = some (.int .i64 e3) ∧ w117.cell? ⟨gb171,4,none⟩ = some (.int .i64 e4):=hS_
  obtain ⟨Ao119,co119,eo119⟩:=Kd.R_slice HO248.out
  (first|subst eo119|(injection eo119 with f1_ f2_ f3_;have f4_:=f1_.symm;have f5_:=f3_.symm;clear f1_ f2_ f3_;subst f4_;subst f5_))
  refine norm_ (a':=?_) ?_ ?_
  rotate_left
  ·simp only [putAll,Act.put,sA_,sZ_,sS_]
   rfl
  refine one_ (i:=5) (N:=some 45) b7_6 rfl rfl Q1 Q0 (fun K hK=>?_)
  refine Kd.R_append_rows_step k38 w.heap.size (by rfl) (.tmp 42) (.tmp 44) 23 38 (.agg #[(.int .i64 0),(.int .i64 0),(.int .i64 0),(.int .i64 0),(.int .i64 0)]) 40 rfl Try.underlying23 info38 rfl Q0 (by omega) v244 yb yc _ _ _ (fun k_=>some k_ ≠ (.slice Ao119 yc.length co119 : Value).ownBlock ∧ k_ ≠ gb171) (fun _=>False) rfl rfl ?aO ?aR (fun _ _ h=>h) (fun _ h=>h.elim) ?aF (Below.refl _ _) ?aS ?aL ?_
  (case aR=>exact (by repeat (first|exact (Kd.R_reads' HO248.out).2.2|(with_reducible refine Kd.C_alloc ?_ _)|(with_reducible refine Kd.C_drewN ?_ _)|(with_reducible refine Kd.C_drew ?_))))
  (case aF=>exact (fun k_ hk=>⟨Kd.fresh' (Kd.R_lt Q27) k_ hk,Kd.freshB (g:=gb171) (o:=.cells #[.int .i64 e0,.int .i64 e1,.int .i64 e2,.int .i64 e3,.int .i64 e4] 38 (0,0)) Q44 k_ hk⟩))
  (case aO=>exact Q26)
  (case aS=>exact (keep_size (w:=w) (g:=g) (row:=none) Q126))
  (case aL=>have:=LMcb.out;omega)
  intro v250 w118 ho hb hg hat
  rw [← Nyd.out] at ho
  replace BK171:=am (blk_grown (g:=gb171) (o:=.cells #[.int .i64 e0,.int .i64 e1,.int .i64 e2,.int .i64 e3,.int .i64 e4] 38 (0,0)) Q44 hg (Kd.R_away HO245.out (fun _ hk=>hk.2)))
  replace HO248:=am (Kd.R_after (ok:=(fun k_=>k_ ≠ gb171)) Q86 hg hat)
  replace HB:=am (below_weaken Q147 HL.out hb)
  replace HI0:=am (IsS87.grown (show IsS87 w0 _ g s0_0 tp from by repeat (first|(with_reducible first|exact HI0.out|apply IsS87.alloc|apply IsS87.drewN|apply IsS87.drew|apply IsS87.set_1|refine IsS87.far ?_ NB0_171.out _)|exact HI0.out)) hg (IsS87.own_ne HI0.out HO245.out Q0))
  replace HK:=am (KeepBut.trans Q126 (KeepBut.of_grown hg g) (Kd.R_base2 HO245.out))
  have HO251:=am (ho)
  clear HO245
  clear ho hb hg hat
  refine hK.out _ _ ⟨(blk_cell BK171.out 0).trans rfl,(blk_cell BK171.out 1).trans rfl,(blk_cell BK171.out 2).trans rfl,(blk_cell BK171.out 3).trans rfl,(blk_cell BK171.out 4).trans rfl⟩ (fun hHeld=>?_)
  clear hK K
  refine norm_ (a':=?_) ?_ ?_
  rotate_left
  ·show Act.put _ (some 45) _ = _
   simp only [Act.put,sA_,sZ_,sS_,i64_w,i32_w]
   rfl
  refine pU_ 6 4 b7_7 ?_
  refine done_ Q1 ?_
  try go_wp2
  go_ret
  exact ⟨_,Q18,by (with_reducible repeat (first|apply Kd.R_alloc|apply Kd.R_drewN|apply Kd.R_drew));exact Kd.R_mono HO251.out (fun _ hk=>trivial),Q131,Q147,Q126⟩
def spec_l71Any.f (k : Nat) (s0_0 : List Int) (s0_1 : Int) : Option ((List (S38)) × Int) := (spec_l71Rows.f k s0_0 s0_1 10).bind fun bt252 => ((spec_l6Rd_pick.f k s0_0 bt252.2 14).bind fun bt256 => (if bt256.1 = 0 then ((spec_l71Spoil.f k s0_0 bt256.2 bt252.1).bind fun bt258 => (some (bt258.1, bt258.2))) else (some (bt252.1, bt256.2))))
set_option maxHeartbeats 8000000 in
set_option maxRecDepth 100000 in
theorem spec_l71Any.calls (k : Nat) (g : Nat) (s0_0 : List Int) (s0_1 : Int) (r1 : List (S38)) (r2 : Int) (w0 w : World) (hI : IsS87 w0 w g s0_0 s0_1) (hB : Below w0.heap.size w0 w) (h : spec_l71Any.f k s0_0 s0_1 = some (r1,r2)) :
  Calls Try.prog 51 #[.pointer (some ⟨g,0,none⟩)] w fun e w'=>∃ v0_ : Value,e = .returned (v0_) ∧ Kd.R k38 38 w' w.heap.size (fun _=>True) v0_ r1 ∧ IsS87 w0 w' g s0_0 r2 ∧ Below w0.heap.size w0 w' ∧ KeepBut w w' g none:=by
 have HI0:=Aside0.mk hI
 have HK:=am (KeepBut.refl w g none)
 have HL:=Aside0.mk hB.size
 clear hI
 have HW0:=Aside0.mk hB.size
 have HB:=Aside0.mk hB
 clear hB
 have H : ((spec_l71Rows.f k s0_0 s0_1 10).bind fun bt252=>((spec_l6Rd_pick.f k s0_0 bt252.2 14).bind fun bt256=>(if bt256.1 = 0 then ((spec_l71Spoil.f k s0_0 bt256.2 bt252.1).bind fun bt258=>(some (bt258.1,bt258.2))) else (some (bt252.1,bt256.2))))) = some (r1,r2):=h
 clear h
 replace H:=Option.bind_eq_some_iff.mp H
 obtain ⟨⟨t252,t255⟩,A20,H⟩:=H
 replace H : ((spec_l6Rd_pick.f k s0_0 t255 14).bind fun bt256=>(if bt256.1 = 0 then ((spec_l71Spoil.f k s0_0 bt256.2 t252).bind fun bt258=>(some (bt258.1,bt258.2))) else (some (t252,bt256.2)))) = some (r1,r2):=H
 have A2:=Aside0.mk A20
 clear A20
 replace H:=Option.bind_eq_some_iff.mp H
 obtain ⟨⟨t256,t257⟩,A30,H⟩:=H
 replace H : (if t256 = 0 then ((spec_l71Spoil.f k s0_0 t257 t252).bind fun bt258=>(some (bt258.1,bt258.2))) else (some (t252,t257))) = some (r1,r2):=H
 have A3:=Aside0.mk A30
 clear A30
 by_cases c4 : t256 = 0
 ·rw [if_pos c4] at H
  have c4b0 : (t256 == 0) = true:=beq_iff_eq.mpr c4
  have c4b1 : (t256 != 0) = false:=bne_eq_false_iff_eq.mpr c4
  clear c4
  replace H:=Option.bind_eq_some_iff.mp H
  obtain ⟨⟨t258,t261⟩,A50,H⟩:=H
  replace H : (some (t258,t261)) = some (r1,r2):=H
  have A5:=Aside0.mk A50
  clear A50
  simp only [Option.some.injEq,Prod.mk.injEq] at H
  obtain ⟨rfl,rfl⟩:=H
  go_enter Try.func51,Try.ntmps51
  go_wp2_with (first|((with_reducible refine gate_callee (f:=80) rfl ?_);refine goesL_ (some 5) rfl rfl Try.func80 Q1 rfl #[.pointer (some ⟨g,0,none⟩),.int .i64 10] rfl Q84 ?_;(with_reducible refine (spec_l71Rows.calls k g s0_0 s0_1 10 t252 t255 w0 _ ?side1 ?side2 A2.out).mono ?_);(case side1=>exact Q88);(case side2=>exact Q114);rintro e w6 ⟨v253,rfl,ho0,hi,hb,hk⟩;refine ⟨_,rfl,?_⟩;have HO254:=am (Kd.R_lower ho0 (keep_size (w:=w) (g:=g) (row:=none) Q87));replace HK:=am (KeepBut.trans Q87 hk (.inl rfl));replace HB:=am (hb);replace HI0:=am (hi);(try clear hb hk hi ho0))|((with_reducible refine gate_callee (f:=68) rfl ?_);refine goesL_ (some 7) rfl rfl Try.func68 Q1 rfl #[.pointer (some ⟨g,0,none⟩),.int .i64 14] rfl Q84 ?_;(with_reducible refine (spec_l6Rd_pick.calls k g s0_0 t255 14 t256 t257 w0 _ ?side1 ?side2 A3.out).mono ?_);(case side1=>exact Q88);(case side2=>exact Q114);rintro e w7 ⟨rfl,hi,hb,hk⟩;refine ⟨_,rfl,?_⟩;replace HO254:=am (Kd.R_mono (Kd.R_keep (IsS87.apart (show IsS87 w0 _ g s0_0 t255 from by repeat (first|(with_reducible first|exact HI0.out|apply IsS87.alloc|apply IsS87.drewN|apply IsS87.drew|apply IsS87.set_1)|exact HI0.out)) Q28 Q0) hk (fun _ h=>h.2)) (fun _ h=>h.1));replace HK:=am (KeepBut.trans Q87 hk (.inl rfl));replace HB:=am (hb);replace HI0:=am (hi);(try clear hb hk hi);obtain ⟨Ao8,co8,eo8⟩:=Kd.R_slice HO254.out;subst eo8)|((with_reducible refine gate_callee (f:=81) rfl ?_);refine goesL_ (some 11) rfl rfl Try.func81 Q1 rfl #[.pointer (some ⟨g,0,none⟩),.slice Ao8 t252.length co8] rfl Q84 ?_;(with_reducible refine (spec_l71Spoil.calls k g s0_0 t257 _ _ t252 t258 t261 w0 _ ?side1 ?side2 ?side3 ?side4 A5.out).mono ?_);(case side1=>exact Q88);(case side2=>exact Q114);(case side3=>exact Kd.C_foot_own (IsS87.apart (show IsS87 w0 _ g s0_0 t257 from by repeat (first|(with_reducible first|exact HI0.out|apply IsS87.alloc|apply IsS87.drewN|apply IsS87.drew|apply IsS87.set_1)|exact HI0.out)) Q28 Q0) (fun _ h_=>h_.2));(case side4=>exact (Kd.R_reads' HO254.out).2.1);rintro e w9 ⟨v259,rfl,ho0,hi,hb,hk⟩;refine ⟨_,rfl,?_⟩;have HO260:=am (Kd.R_lower (Kd.R_new' ho0 (Kd.R_lt Q28)) (keep_size (w:=w) (g:=g) (row:=none) Q87));replace HO254:=am (Kd.R_mono (Kd.R_told (Kd.R_oldK (IsS87.apart (show IsS87 w0 _ g s0_0 t257 from by repeat (first|(with_reducible first|exact HI0.out|apply IsS87.alloc|apply IsS87.drewN|apply IsS87.drew|apply IsS87.set_1)|exact HI0.out)) Q28 Q0) hk) (Kd.R_base ho0)) (fun _ h_=>h_.1));replace HK:=am (KeepBut.trans Q87 hk (.inl rfl));replace HB:=am (hb);replace HI0:=am (hi);(try clear hb hk hi ho0)))
  go_ret
  exact ⟨_,Q18,by (with_reducible repeat (first|apply Kd.R_alloc|apply Kd.R_drewN|apply Kd.R_drew));exact Kd.R_mono HO260.out (fun _ hk=>trivial),Q88,Q114,Q87⟩
 ·rw [if_neg c4] at H
  have c4b0 : (t256 == 0) = false:=beq_eq_false_iff_ne.mpr c4
  have c4b1 : (t256 != 0) = true:=bne_iff_ne.mpr c4
  simp only [Option.some.injEq,Prod.mk.injEq] at H
  obtain ⟨rfl,rfl⟩:=H
  go_enter Try.func51,Try.ntmps51
  go_wp2_with (first|((with_reducible refine gate_callee (f:=80) rfl ?_);refine goesL_ (some 5) rfl rfl Try.func80 Q1 rfl #[.pointer (some ⟨g,0,none⟩),.int .i64 10] rfl Q84 ?_;(with_reducible refine (spec_l71Rows.calls k g s0_0 s0_1 10 t252 t255 w0 _ ?side1 ?side2 A2.out).mono ?_);(case side1=>exact Q88);(case side2=>exact Q114);rintro e w10 ⟨v253,rfl,ho0,hi,hb,hk⟩;refine ⟨_,rfl,?_⟩;have HO254:=am (Kd.R_lower ho0 (keep_size (w:=w) (g:=g) (row:=none) Q87));replace HK:=am (KeepBut.trans Q87 hk (.inl rfl));replace HB:=am (hb);replace HI0:=am (hi);(try clear hb hk hi ho0))|((with_reducible refine gate_callee (f:=68) rfl ?_);refine goesL_ (some 7) rfl rfl Try.func68 Q1 rfl #[.pointer (some ⟨g,0,none⟩),.int .i64 14] rfl Q84 ?_;(with_reducible refine (spec_l6Rd_pick.calls k g s0_0 t255 14 t256 t257 w0 _ ?side1 ?side2 A3.out).mono ?_);(case side1=>exact Q88);(case side2=>exact Q114);rintro e w11 ⟨rfl,hi,hb,hk⟩;refine ⟨_,rfl,?_⟩;replace HO254:=am (Kd.R_mono (Kd.R_keep (IsS87.apart (show IsS87 w0 _ g s0_0 t255 from by repeat (first|(with_reducible first|exact HI0.out|apply IsS87.alloc|apply IsS87.drewN|apply IsS87.drew|apply IsS87.set_1)|exact HI0.out)) Q28 Q0) hk (fun _ h=>h.2)) (fun _ h=>h.1));replace HK:=am (KeepBut.trans Q87 hk (.inl rfl));replace HB:=am (hb);replace HI0:=am (hi);(try clear hb hk hi)))
  go_ret
  exact ⟨_,Q18,Q28,Q88,Q114,Q87⟩
def spec_l6In.f (a0 : Int) (a1 : Int) (a2 : Int) : Option (Bool) := if a0 ≥ a1 then (some (decide (a0 ≤ a2))) else (some false)
set_option maxHeartbeats 8000000 in
set_option maxRecDepth 100000 in
theorem spec_l6In.calls (a0 : Int) (a1 : Int) (a2 : Int) (r : Bool) (w : World) (h : spec_l6In.f a0 a1 a2 = some r) :
  Calls Try.prog 89 #[.int .i64 a0,.int .i64 a1,.int .i64 a2] w fun e w'=>e = .returned (.bool r) ∧ Drawn0 w w':=by
 have H : (if a0 ≥ a1 then (some (decide (a0 ≤ a2))) else (some false)) = some r:=h
 clear h
 by_cases c4 : a0 ≥ a1
 ·rw [if_pos c4] at H
  have c4b0 : decide (a1 ≤ a0) = true:=decide_eq_true c4
  clear c4
  obtain rfl:=Option.some.inj H
  go_enter Try.func89,Try.ntmps89
  go_wp2
  go_ret
  exact ⟨Q7,Q10⟩
 ·rw [if_neg c4] at H
  have c4b0 : decide (a1 ≤ a0) = false:=decide_eq_false c4
  clear c4
  obtain rfl:=Option.some.inj H
  go_enter Try.func89,Try.ntmps89
  go_wp2
  go_ret
  exact ⟨Q7,Q10⟩
def spec_TimeOk.f (a0_0 : Int) (a0_1 : Int) : Option (Bool) := (spec_l6In.f a0_0 0 7).bind fun t263 => (if t263 = true then ((spec_l6In.f a0_1 0 7).bind fun t264 => (some t264)) else (some false))
set_option maxHeartbeats 8000000 in
set_option maxRecDepth 100000 in
theorem spec_TimeOk.calls (a0_0 : Int) (a0_1 : Int) (r : Bool) (w : World) (h : spec_TimeOk.f a0_0 a0_1 = some r) :
  Calls Try.prog 60 #[.agg #[.int .i64 a0_0,.int .i64 a0_1]] w fun e w'=>e = .returned (.bool r) ∧ Below w.heap.size w w':=by
 have hu36:=Try.underlying36
 have HB:=am (Below.refl w.heap.size w)
 have H : ((spec_l6In.f a0_0 0 7).bind fun t263=>(if t263 = true then ((spec_l6In.f a0_1 0 7).bind fun t264=>(some t264)) else (some false))) = some r:=h
 clear h
 replace H:=Option.bind_eq_some_iff.mp H
 obtain ⟨t263,A20,H⟩:=H
 replace H : (if t263 = true then ((spec_l6In.f a0_1 0 7).bind fun t264=>(some t264)) else (some false)) = some r:=H
 have A2:=Aside0.mk A20
 clear A20
 by_cases c3 : t263 = true
 ·subst c3
  have H1 : ((spec_l6In.f a0_1 0 7).bind fun t264=>(some t264)) = some r:=by rw [if_pos rfl] at H;exact H
  clear H
  have H:=H1
  clear H1
  replace H:=Option.bind_eq_some_iff.mp H
  obtain ⟨t264,A40,H⟩:=H
  replace H : (some t264) = some r:=H
  have A4:=Aside0.mk A40
  clear A40
  obtain rfl:=Option.some.inj H
  go_enter Try.func60,Try.ntmps60
  go_wp2_with (first|((with_reducible refine gate_dst (N:=1) rfl ?_);refine bE_ 1 #[.int .i64 a0_0,.int .i64 a0_1] 36 ?_;intro gb262 hg w5 hbox hb;have BK262:=am (hbox);have GW262:=am ((Q173 : w.heap.size ≤ gb262));replace HB:=am (below_step Q80 hb);have GE262:=GW262;clear hb hbox hg;obtain ⟨hcz6_0,hcz6_1,hfz6_0,hfz6_1⟩:=bx2_ BK262)|((with_reducible refine gate_callee (f:=89) rfl ?_);refine goesL_ (some 5) rfl rfl Try.func89 Q1 rfl #[.int .i64 a0_0,.int .i64 0,.int .i64 7] rfl Q84 ?_;(with_reducible refine (spec_l6In.calls a0_0 0 7 true _ A2.out).mono ?_);rintro e w' ⟨rfl,⟨nd,rfl⟩⟩;refine ⟨_,rfl,?_⟩)|(go_at_call 89;(with_reducible refine (spec_l6In.calls a0_1 0 7 t264 _ A4.out).mono ?_);rintro e w' ⟨rfl,⟨nd,rfl⟩⟩))
  go_ret
  exact ⟨Q18,by repeat (first|(with_reducible first|exact HB.out|apply below_alloc|apply pw_below_drewN|apply below_drew1|refine below_set ?_ GE262.out)|exact HB.out)⟩
 ·replace c3:=Bool.eq_false_iff.mpr c3
  subst c3
  have H1 : (some false) = some r:=by rw [if_neg (show ¬ (false = true) by decide)] at H;exact H
  clear H
  have H:=H1
  clear H1
  obtain rfl:=Option.some.inj H
  go_enter Try.func60,Try.ntmps60
  go_wp2_with (first|((with_reducible refine gate_dst (N:=1) rfl ?_);refine bE_ 1 #[.int .i64 a0_0,.int .i64 a0_1] 36 ?_;intro gb262 hg w7 hbox hb;have BK262:=am (hbox);have GW262:=am ((Q173 : w.heap.size ≤ gb262));replace HB:=am (below_step Q80 hb);have GE262:=GW262;clear hb hbox hg;obtain ⟨hcz8_0,hcz8_1,hfz8_0,hfz8_1⟩:=bx2_ BK262)|((with_reducible refine gate_callee (f:=89) rfl ?_);refine goesL_ (some 5) rfl rfl Try.func89 Q1 rfl #[.int .i64 a0_0,.int .i64 0,.int .i64 7] rfl Q84 ?_;(with_reducible refine (spec_l6In.calls a0_0 0 7 false _ A2.out).mono ?_);rintro e w' ⟨rfl,⟨nd,rfl⟩⟩;refine ⟨_,rfl,?_⟩))
  go_ret
  exact ⟨Q18,by repeat (first|(with_reducible first|exact HB.out|apply below_alloc|apply pw_below_drewN|apply below_drew1|refine below_set ?_ GE262.out)|exact HB.out)⟩
def spec_TimeLess.f (a0_0 : Int) (a0_1 : Int) (a1_0 : Int) (a1_1 : Int) : Option (Bool) := (spec_TimeOk.f a0_0 a0_1).bind fun t267 => (if t267 = true then ((spec_TimeOk.f a1_0 a1_1).bind fun t268 => (if t268 = true then (if a0_0 ≤ a1_0 then (some (decide (a0_1 ≤ a1_1))) else (some false)) else (some false))) else (some false))
set_option maxHeartbeats 8000000 in
set_option maxRecDepth 100000 in
theorem spec_TimeLess.calls (a0_0 : Int) (a0_1 : Int) (a1_0 : Int) (a1_1 : Int) (r : Bool) (w : World) (h : spec_TimeLess.f a0_0 a0_1 a1_0 a1_1 = some r) :
  Calls Try.prog 76 #[.agg #[.int .i64 a0_0,.int .i64 a0_1],.agg #[.int .i64 a1_0,.int .i64 a1_1]] w fun e w'=>e = .returned (.bool r) ∧ Below w.heap.size w w':=by
 have hu36:=Try.underlying36
 have HB:=am (Below.refl w.heap.size w)
 have H : ((spec_TimeOk.f a0_0 a0_1).bind fun t267=>(if t267 = true then ((spec_TimeOk.f a1_0 a1_1).bind fun t268=>(if t268 = true then (if a0_0 ≤ a1_0 then (some (decide (a0_1 ≤ a1_1))) else (some false)) else (some false))) else (some false))) = some r:=h
 clear h
 replace H:=Option.bind_eq_some_iff.mp H
 obtain ⟨t267,A30,H⟩:=H
 replace H : (if t267 = true then ((spec_TimeOk.f a1_0 a1_1).bind fun t268=>(if t268 = true then (if a0_0 ≤ a1_0 then (some (decide (a0_1 ≤ a1_1))) else (some false)) else (some false))) else (some false)) = some r:=H
 have A3:=Aside0.mk A30
 clear A30
 by_cases c4 : t267 = true
 ·subst c4
  have H1 : ((spec_TimeOk.f a1_0 a1_1).bind fun t268=>(if t268 = true then (if a0_0 ≤ a1_0 then (some (decide (a0_1 ≤ a1_1))) else (some false)) else (some false))) = some r:=by rw [if_pos rfl] at H;exact H
  clear H
  have H:=H1
  clear H1
  replace H:=Option.bind_eq_some_iff.mp H
  obtain ⟨t268,A50,H⟩:=H
  replace H : (if t268 = true then (if a0_0 ≤ a1_0 then (some (decide (a0_1 ≤ a1_1))) else (some false)) else (some false)) = some r:=H
  have A5:=Aside0.mk A50
  clear A50
  by_cases c6 : t268 = true
  ·subst c6
   have H1 : (if a0_0 ≤ a1_0 then (some (decide (a0_1 ≤ a1_1))) else (some false)) = some r:=by rw [if_pos rfl] at H;exact H
   clear H
   have H:=H1
   clear H1
   by_cases c7 : a0_0 ≤ a1_0
   ·rw [if_pos c7] at H
    have c7b0 : decide (a0_0 ≤ a1_0) = true:=decide_eq_true c7
    clear c7
    obtain rfl:=Option.some.inj H
    go_enter Try.func76,Try.ntmps76
    go_wp2_with (first|((with_reducible refine gate_dst (N:=2) rfl ?_);refine bE_ 2 #[.int .i64 a0_0,.int .i64 a0_1] 36 ?_;intro gb265 hg w8 hbox hb;have BK265:=am (hbox);have GW265:=am ((Q173 : w.heap.size ≤ gb265));replace HB:=am (below_step Q80 hb);have GE265:=GW265;clear hb hbox hg)|((with_reducible refine gate_dst (N:=3) rfl ?_);refine bE_ 3 #[.int .i64 a1_0,.int .i64 a1_1] 36 ?_;intro gb266 hg w9 hbox hb;have BK266:=am (hbox);have GW266:=am ((by rw [hg];exact (below_size Q91) : w.heap.size ≤ gb266));replace HB:=am (below_step Q91 hb);have NB265_266:=am ((Q181 : gb265 ≠ gb266));have NB266_265:=am ((Q182 : gb266 ≠ gb265));replace BK265:=am (blk_below (g:=gb265) (o:=.cells #[.int .i64 a0_0,.int .i64 a0_1] 36 (0,0)) Q45 hb);have GE266:=GW266;clear hb hbox hg;have hnb10:=NB265_266.out;have hnc10:=NB266_265.out;obtain ⟨hcz11_0,hcz11_1,hfz11_0,hfz11_1⟩:=bx2_ BK265)|((with_reducible refine gate_callee (f:=60) rfl ?_);refine goesL_ (some 6) rfl rfl Try.func60 Q1 rfl #[.agg #[.int .i64 a0_0,.int .i64 a0_1]] rfl Q84 ?_;(with_reducible refine (spec_TimeOk.calls a0_0 a0_1 true _ A3.out).mono ?_);rintro e w12 ⟨rfl,hb⟩;refine ⟨_,rfl,?_⟩;replace BK265:=am (blk_below (g:=gb265) (o:=.cells #[.int .i64 a0_0,.int .i64 a0_1] 36 (0,0)) Q45 hb);replace BK266:=am (blk_below (g:=gb266) (o:=.cells #[.int .i64 a1_0,.int .i64 a1_1] 36 (0,0)) Q46 hb);replace HB:=am (below_step Q133 hb);(try clear hb);obtain ⟨hcz13_0,hcz13_1,hfz13_0,hfz13_1⟩:=bx2_ BK266)|(go_at_call 60;(with_reducible refine (spec_TimeOk.calls a1_0 a1_1 true _ A5.out).mono ?_);rintro e w14 ⟨rfl,hb⟩;replace BK265:=am (blk_below (g:=gb265) (o:=.cells #[.int .i64 a0_0,.int .i64 a0_1] 36 (0,0)) Q45 hb);replace BK266:=am (blk_below (g:=gb266) (o:=.cells #[.int .i64 a1_0,.int .i64 a1_1] 36 (0,0)) Q46 hb);replace HB:=am (below_step Q133 hb);(try clear hb);obtain ⟨hcz15_0,hcz15_1,hfz15_0,hfz15_1⟩:=bx2_ BK265;obtain ⟨hcz16_0,hcz16_1,hfz16_0,hfz16_1⟩:=bx2_ BK266))
    go_ret
    exact ⟨Q18,Q133⟩
   ·rw [if_neg c7] at H
    have c7b0 : decide (a0_0 ≤ a1_0) = false:=decide_eq_false c7
    clear c7
    obtain rfl:=Option.some.inj H
    go_enter Try.func76,Try.ntmps76
    go_wp2_with (first|((with_reducible refine gate_dst (N:=2) rfl ?_);refine bE_ 2 #[.int .i64 a0_0,.int .i64 a0_1] 36 ?_;intro gb265 hg w17 hbox hb;have BK265:=am (hbox);have GW265:=am ((Q173 : w.heap.size ≤ gb265));replace HB:=am (below_step Q80 hb);have GE265:=GW265;clear hb hbox hg)|((with_reducible refine gate_dst (N:=3) rfl ?_);refine bE_ 3 #[.int .i64 a1_0,.int .i64 a1_1] 36 ?_;intro gb266 hg w18 hbox hb;have BK266:=am (hbox);have GW266:=am ((by rw [hg];exact (below_size Q91) : w.heap.size ≤ gb266));replace HB:=am (below_step Q91 hb);have NB265_266:=am ((Q181 : gb265 ≠ gb266));have NB266_265:=am ((Q182 : gb266 ≠ gb265));replace BK265:=am (blk_below (g:=gb265) (o:=.cells #[.int .i64 a0_0,.int .i64 a0_1] 36 (0,0)) Q45 hb);have GE266:=GW266;clear hb hbox hg;have hnb19:=NB265_266.out;have hnc19:=NB266_265.out;obtain ⟨hcz20_0,hcz20_1,hfz20_0,hfz20_1⟩:=bx2_ BK265)|((with_reducible refine gate_callee (f:=60) rfl ?_);refine goesL_ (some 6) rfl rfl Try.func60 Q1 rfl #[.agg #[.int .i64 a0_0,.int .i64 a0_1]] rfl Q84 ?_;(with_reducible refine (spec_TimeOk.calls a0_0 a0_1 true _ A3.out).mono ?_);rintro e w21 ⟨rfl,hb⟩;refine ⟨_,rfl,?_⟩;replace BK265:=am (blk_below (g:=gb265) (o:=.cells #[.int .i64 a0_0,.int .i64 a0_1] 36 (0,0)) Q45 hb);replace BK266:=am (blk_below (g:=gb266) (o:=.cells #[.int .i64 a1_0,.int .i64 a1_1] 36 (0,0)) Q46 hb);replace HB:=am (below_step Q133 hb);(try clear hb);obtain ⟨hcz22_0,hcz22_1,hfz22_0,hfz22_1⟩:=bx2_ BK266)|(go_at_call 60;(with_reducible refine (spec_TimeOk.calls a1_0 a1_1 true _ A5.out).mono ?_);rintro e w23 ⟨rfl,hb⟩;replace BK265:=am (blk_below (g:=gb265) (o:=.cells #[.int .i64 a0_0,.int .i64 a0_1] 36 (0,0)) Q45 hb);replace BK266:=am (blk_below (g:=gb266) (o:=.cells #[.int .i64 a1_0,.int .i64 a1_1] 36 (0,0)) Q46 hb);replace HB:=am (below_step Q133 hb);(try clear hb);obtain ⟨hcz24_0,hcz24_1,hfz24_0,hfz24_1⟩:=bx2_ BK265;obtain ⟨hcz25_0,hcz25_1,hfz25_0,hfz25_1⟩:=bx2_ BK266))
    go_ret
    exact ⟨Q18,Q133⟩
  ·replace c6:=Bool.eq_false_iff.mpr c6
   subst c6
   have H1 : (some false) = some r:=by rw [if_neg (show ¬ (false = true) by decide)] at H;exact H
   clear H
   have H:=H1
   clear H1
   obtain rfl:=Option.some.inj H
   go_enter Try.func76,Try.ntmps76
   go_wp2_with (first|((with_reducible refine gate_dst (N:=2) rfl ?_);refine bE_ 2 #[.int .i64 a0_0,.int .i64 a0_1] 36 ?_;intro gb265 hg w26 hbox hb;have BK265:=am (hbox);have GW265:=am ((Q173 : w.heap.size ≤ gb265));replace HB:=am (below_step Q80 hb);have GE265:=GW265;clear hb hbox hg)|((with_reducible refine gate_dst (N:=3) rfl ?_);refine bE_ 3 #[.int .i64 a1_0,.int .i64 a1_1] 36 ?_;intro gb266 hg w27 hbox hb;have BK266:=am (hbox);have GW266:=am ((by rw [hg];exact (below_size Q91) : w.heap.size ≤ gb266));replace HB:=am (below_step Q91 hb);have NB265_266:=am ((Q181 : gb265 ≠ gb266));have NB266_265:=am ((Q182 : gb266 ≠ gb265));replace BK265:=am (blk_below (g:=gb265) (o:=.cells #[.int .i64 a0_0,.int .i64 a0_1] 36 (0,0)) Q45 hb);have GE266:=GW266;clear hb hbox hg;have hnb28:=NB265_266.out;have hnc28:=NB266_265.out;obtain ⟨hcz29_0,hcz29_1,hfz29_0,hfz29_1⟩:=bx2_ BK265)|((with_reducible refine gate_callee (f:=60) rfl ?_);refine goesL_ (some 6) rfl rfl Try.func60 Q1 rfl #[.agg #[.int .i64 a0_0,.int .i64 a0_1]] rfl Q84 ?_;(with_reducible refine (spec_TimeOk.calls a0_0 a0_1 true _ A3.out).mono ?_);rintro e w30 ⟨rfl,hb⟩;refine ⟨_,rfl,?_⟩;replace BK265:=am (blk_below (g:=gb265) (o:=.cells #[.int .i64 a0_0,.int .i64 a0_1] 36 (0,0)) Q45 hb);replace BK266:=am (blk_below (g:=gb266) (o:=.cells #[.int .i64 a1_0,.int .i64 a1_1] 36 (0,0)) Q46 hb);replace HB:=am (below_step Q133 hb);(try clear hb);obtain ⟨hcz31_0,hcz31_1,hfz31_0,hfz31_1⟩:=bx2_ BK266)|(go_at_call 60;(with_reducible refine (spec_TimeOk.calls a1_0 a1_1 false _ A5.out).mono ?_);rintro e w32 ⟨rfl,hb⟩;replace BK265:=am (blk_below (g:=gb265) (o:=.cells #[.int .i64 a0_0,.int .i64 a0_1] 36 (0,0)) Q45 hb);replace BK266:=am (blk_below (g:=gb266) (o:=.cells #[.int .i64 a1_0,.int .i64 a1_1] 36 (0,0)) Q46 hb);replace HB:=am (below_step Q133 hb);(try clear hb)))
   go_ret
   exact ⟨Q18,Q133⟩
 ·replace c4:=Bool.eq_false_iff.mpr c4
  subst c4
  have H1 : (some false) = some r:=by rw [if_neg (show ¬ (false = true) by decide)] at H;exact H
  clear H
  have H:=H1
  clear H1
  obtain rfl:=Option.some.inj H
  go_enter Try.func76,Try.ntmps76
  go_wp2_with (first|((with_reducible refine gate_dst (N:=2) rfl ?_);refine bE_ 2 #[.int .i64 a0_0,.int .i64 a0_1] 36 ?_;intro gb265 hg w33 hbox hb;have BK265:=am (hbox);have GW265:=am ((Q173 : w.heap.size ≤ gb265));replace HB:=am (below_step Q80 hb);have GE265:=GW265;clear hb hbox hg)|((with_reducible refine gate_dst (N:=3) rfl ?_);refine bE_ 3 #[.int .i64 a1_0,.int .i64 a1_1] 36 ?_;intro gb266 hg w34 hbox hb;have BK266:=am (hbox);have GW266:=am ((by rw [hg];exact (below_size Q91) : w.heap.size ≤ gb266));replace HB:=am (below_step Q91 hb);have NB265_266:=am ((Q181 : gb265 ≠ gb266));have NB266_265:=am ((Q182 : gb266 ≠ gb265));replace BK265:=am (blk_below (g:=gb265) (o:=.cells #[.int .i64 a0_0,.int .i64 a0_1] 36 (0,0)) Q45 hb);have GE266:=GW266;clear hb hbox hg;have hnb35:=NB265_266.out;have hnc35:=NB266_265.out;obtain ⟨hcz36_0,hcz36_1,hfz36_0,hfz36_1⟩:=bx2_ BK265)|((with_reducible refine gate_callee (f:=60) rfl ?_);refine goesL_ (some 6) rfl rfl Try.func60 Q1 rfl #[.agg #[.int .i64 a0_0,.int .i64 a0_1]] rfl Q84 ?_;(with_reducible refine (spec_TimeOk.calls a0_0 a0_1 false _ A3.out).mono ?_);rintro e w37 ⟨rfl,hb⟩;refine ⟨_,rfl,?_⟩;replace BK265:=am (blk_below (g:=gb265) (o:=.cells #[.int .i64 a0_0,.int .i64 a0_1] 36 (0,0)) Q45 hb);replace BK266:=am (blk_below (g:=gb266) (o:=.cells #[.int .i64 a1_0,.int .i64 a1_1] 36 (0,0)) Q46 hb);replace HB:=am (below_step Q133 hb);(try clear hb)))
  go_ret
  exact ⟨Q18,Q133⟩
def spec_l1Ok.l0 : Nat → List (S36) → Int → Option (Bool)
 | 0, _, _ => none
 | k + 1, x0, x3 => if x3 < (x0.length : Int) then (if 0 ≤ x3 then ((spec_TimeOk.f ((rd_T36 x0 x3).f0) ((rd_T36 x0 x3).f1)).bind fun t270 => (if t270 = true then (spec_l1Ok.l0 k x0 (wrap64 (x3 + 1))) else (some false))) else (none)) else (some true)
def spec_l1Ok.f (k : Nat) (l0 : List (S36)) : Option (Bool) := spec_l1Ok.l0 k l0 0
set_option maxHeartbeats 8000000 in
set_option maxRecDepth 100000 in
theorem spec_l1Ok.calls (k : Nat) (A0 : Option Addr) (c0 : Nat) (l0 : List (S36)) (r : Bool) (w : World) (hr0 : Kd.C k36 w A0 l0.length l0) (hc0 : l0.length ≤ c0) (h : spec_l1Ok.f k l0 = some r) :
  Calls Try.prog 101 #[.slice A0 l0.length c0] w fun e w'=>e = .returned (.bool r) ∧ Below w.heap.size w w':=by
 have hu36:=Try.underlying36
 have HR0:=Aside0.mk hr0
 have HC0:=Aside0.mk hc0
 clear hr0 hc0
 have HB:=am (Below.refl w.heap.size w)
 have H : (spec_l1Ok.l0 k l0 0) = some r:=h
 clear h
 have H':=Aside0.mk H
 clear H
 go_enter Try.func101,Try.ntmps101
 go_wp2
 go_loopg [3] k (fun kq v3 w'=>∃ (x3_1 : Int),v3 = .int .i64 x3_1 ∧ Aside0 (spec_l1Ok.l0 kq l0 x3_1 = some r) ∧ Aside0 (kq ≤ k) ∧ Aside0 (Below w.heap.size w w'))
 case atStart=>exact ⟨(0),Q7,H',⟨Nat.le_refl _⟩,⟨Q80⟩⟩
 case round =>
  clear H'
  try clear c1
  obtain ⟨x3_1,rfl,HA,HK1,HB⟩:=hrel
  cases gk with
  | zero=>exact absurd HA.out (by simp [spec_l1Ok.l0])
  | succ k1 =>
   have H:=HA.out
   clear HA
   simp only [spec_l1Ok.l0] at H
   by_cases c2 : x3_1 < (l0.length : Int)
   ·rw [if_pos c2] at H
    have c2b0 : decide (x3_1 < (l0.length : Int)) = true:=decide_eq_true c2
    clear c2
    have c3 : 0 ≤ x3_1:=nn_ H
    rw [if_pos c3] at H
    have c3b0 : decide (0 ≤ x3_1) = true:=decide_eq_true c3
    clear c3
    replace H:=Option.bind_eq_some_iff.mp H
    obtain ⟨t270,A40,H⟩:=H
    replace H : (if t270 = true then (spec_l1Ok.l0 k1 l0 (wrap64 (x3_1 + 1))) else (some false)) = some r:=H
    have A4:=Aside0.mk A40
    clear A40
    by_cases c5 : t270 = true
    ·subst c5
     have H1 : (spec_l1Ok.l0 k1 l0 (wrap64 (x3_1 + 1))) = some r:=by rw [if_pos rfl] at H;exact H
     clear H
     have H:=H1
     clear H1
     have H':=Aside0.mk H
     clear H
     have p269 : 0 ≤ (x3_1 : Int):=of_decide_eq_true Q8
     have q269 : x3_1 < (l0.length : Int):=of_decide_eq_true Q8
     obtain ⟨ad269,e269,hx269_0,hx269_1⟩:=at_T36 HR0.out x3_1 p269 q269
     cases e269
     replace hx269_0:=cb_ HB hx269_0
     replace hx269_1:=cb_ HB hx269_1
     replace p269:=eq_true p269
     replace q269:=eq_true q269
     go_wp2_with (first|((with_reducible refine gate_callee (f:=60) rfl ?_);refine goesL_ (some 14) rfl rfl Try.func60 Q1 rfl #[.agg #[.int .i64 ((rd_T36 l0 x3_1).f0),.int .i64 ((rd_T36 l0 x3_1).f1)]] rfl Q84 ?_;(with_reducible refine (spec_TimeOk.calls ((rd_T36 l0 x3_1).f0) ((rd_T36 l0 x3_1).f1) true _ A4.out).mono ?_);rintro e w6 ⟨rfl,hb⟩;refine ⟨_,rfl,?_⟩;replace HB:=am (below_step Q80 hb);(try clear hb)))
     go_roundg k1
     case measure=>have:=HK1.out;omega
     case rel=>exact ⟨(wrap64 (x3_1 + 1)),Q7,H',⟨Q3⟩,⟨Q80⟩⟩
    ·replace c5:=Bool.eq_false_iff.mpr c5
     subst c5
     have H1 : (some false) = some r:=by rw [if_neg (show ¬ (false = true) by decide)] at H;exact H
     clear H
     have H:=H1
     clear H1
     obtain rfl:=Option.some.inj H
     have p269 : 0 ≤ (x3_1 : Int):=of_decide_eq_true Q8
     have q269 : x3_1 < (l0.length : Int):=of_decide_eq_true Q8
     obtain ⟨ad269,e269,hx269_0,hx269_1⟩:=at_T36 HR0.out x3_1 p269 q269
     cases e269
     replace hx269_0:=cb_ HB hx269_0
     replace hx269_1:=cb_ HB hx269_1
     replace p269:=eq_true p269
     replace q269:=eq_true q269
     go_wp2_with (first|((with_reducible refine gate_callee (f:=60) rfl ?_);refine goesL_ (some 14) rfl rfl Try.func60 Q1 rfl #[.agg #[.int .i64 ((rd_T36 l0 x3_1).f0),.int .i64 ((rd_T36 l0 x3_1).f1)]] rfl Q84 ?_;(with_reducible refine (spec_TimeOk.calls ((rd_T36 l0 x3_1).f0) ((rd_T36 l0 x3_1).f1) false _ A4.out).mono ?_);rintro e w7 ⟨rfl,hb⟩;refine ⟨_,rfl,?_⟩;replace HB:=am (below_step Q80 hb);(try clear hb)))
     go_ret
     exact ⟨Q18,Q80⟩
   ·rw [if_neg c2] at H
    have c2b0 : decide (x3_1 < (l0.length : Int)) = false:=decide_eq_false c2
    clear c2
    obtain rfl:=Option.some.inj H
    go_wp2
    go_ret
    exact ⟨Q18,Q80⟩
mutual
def spec_FrontOf.l0 : Nat → List (S36) → List (S36) → Int → Option ((List (S36)))
 | 0, _, _, _ => none
 | k + 1, x0, x3, x4 => if x4 ≤ 7 then (spec_FrontOf.l1 k x0 x3 x4 7) else (some x3)
def spec_FrontOf.l1 : Nat → List (S36) → List (S36) → Int → Int → Option ((List (S36)))
 | 0, _, _, _, _ => none
 | k + 1, x0, x3, x4, x5 => if x5 ≥ 0 then (spec_FrontOf.l2 k x0 x3 x4 x5 false 0 x4 x5) else (spec_FrontOf.l0 k x0 x3 (wrap64 (x4 + 1)))
def spec_FrontOf.l2 : Nat → List (S36) → List (S36) → Int → Int → Bool → Int → Int → Int → Option ((List (S36)))
 | 0, _, _, _, _, _, _, _, _ => none
 | k + 1, x0, x3, x4, x5, x7, x8, x276000, x276001 => if x8 < (x0.length : Int) then (if 0 ≤ x8 then (if (((rd_T36 x0 x8).f0) == x276000 && (((rd_T36 x0 x8).f1) == x276001)) = true then (spec_FrontOf.l2 k x0 x3 x4 x5 true (wrap64 (x8 + 1)) x276000 x276001) else (spec_FrontOf.l2 k x0 x3 x4 x5 x7 (wrap64 (x8 + 1)) x276000 x276001)) else (none)) else (spec_FrontOf.l3 k x0 x3 x4 x5 x7 0 x276000 x276001)
def spec_FrontOf.l3 : Nat → List (S36) → List (S36) → Int → Int → Bool → Int → Int → Int → Option ((List (S36)))
 | 0, _, _, _, _, _, _, _, _ => none
 | k + 1, x0, x3, x4, x5, x7, x9, x276000, x276001 => if x9 < (x0.length : Int) then (if 0 ≤ x9 then (if (!(((rd_T36 x0 x9).f0) == x276000) || (!(((rd_T36 x0 x9).f1) == x276001))) = true then ((spec_TimeLess.f ((rd_T36 x0 x9).f0) ((rd_T36 x0 x9).f1) x276000 x276001).bind fun t279 => (if t279 = true then (spec_FrontOf.l3 k x0 x3 x4 x5 false (wrap64 (x9 + 1)) x276000 x276001) else (spec_FrontOf.l3 k x0 x3 x4 x5 x7 (wrap64 (x9 + 1)) x276000 x276001))) else (spec_FrontOf.l3 k x0 x3 x4 x5 x7 (wrap64 (x9 + 1)) x276000 x276001)) else (none)) else (if x7 = true then (if x3.length < 8796093022208 then (spec_FrontOf.l1 k x0 (x3 ++ [(⟨x276000, x276001⟩ : S36)]) x4 (wrap64 (x5 - 1))) else (none)) else (spec_FrontOf.l1 k x0 x3 x4 (wrap64 (x5 - 1))))
end
def spec_FrontOf.f (k : Nat) (l0 : List (S36)) : Option ((List (S36))) := (some (([] : List (S36)) : List (S36))).bind fun y271 => ((spec_l1Ok.f k l0).bind fun t274 => (if t274 = true then (spec_FrontOf.l0 k l0 y271 0) else (some y271)))
def spec_FrontOf.T20 : Bool × List (List Nat × List Nat) := (true, [([], []), ([], []), ([0, 1], [0, 1]), ([2], [2]), ([], []), ([3, 4], [3, 4]), ([5], [5]), ([6], [6]), ([6], [6]), ([7, 8, 6], [6, 7, 8]), ([9, 6], [6, 9]), ([6], [6]), ([10, 11, 6, 6], [6, 10, 11]), ([6, 12], [6, 12])])
def spec_FrontOf.B20 : List Nat := [0, 0, 3, 7, 0, 31, 63, 127, 127, 511, 1023, 127, 4095, 8191]
theorem spec_FrontOf.tab20 : rtab .any (opsOf Try.f94 20) = spec_FrontOf.T20:=by kernel_rfl
theorem spec_FrontOf.bits20 : waitsOk spec_FrontOf.T20.2 spec_FrontOf.B20 = true:=by kernel_rfl
set_option maxHeartbeats 8000000 in
set_option maxRecDepth 100000 in
theorem spec_FrontOf.calls (k : Nat) (A0 : Option Addr) (c0 : Nat) (l0 : List (S36)) (r : List (S36)) (w : World) (hr0 : Kd.C k36 w A0 l0.length l0) (hc0 : l0.length ≤ c0) (h : spec_FrontOf.f k l0 = some r) :
  Calls Try.prog 94 #[.slice A0 l0.length c0] w fun e w'=>∃ v0_ : Value,e = .returned (v0_) ∧ Kd.R k36 36 w' w.heap.size (fun _=>True) v0_ r ∧ Below w.heap.size w w':=by
 have hu36:=Try.underlying36
 have HR0:=Aside0.mk hr0
 have HC0:=Aside0.mk hc0
 clear hr0 hc0
 have HB:=am (Below.refl w.heap.size w)
 have H : ((some (([] : List (S36)) : List (S36))).bind fun y271=>((spec_l1Ok.f k l0).bind fun t274=>(if t274 = true then (spec_FrontOf.l0 k l0 y271 0) else (some y271)))) = some r:=h
 clear h
 obtain ⟨y271,hy_⟩ : ∃ y_ : List (S36),y_ = (([] : List (S36))):=⟨_,rfl⟩
 replace H : ((spec_l1Ok.f k l0).bind fun t274=>(if t274 = true then (spec_FrontOf.l0 k l0 y271 0) else (some y271))) = some r:=Q162
 have Ny271:=Aside0.mk hy_
 clear hy_
 replace H:=Option.bind_eq_some_iff.mp H
 obtain ⟨t274,A20,H⟩:=H
 replace H : (if t274 = true then (spec_FrontOf.l0 k l0 y271 0) else (some y271)) = some r:=H
 have A2:=Aside0.mk A20
 clear A20
 by_cases c3 : t274 = true
 ·subst c3
  have H1 : (spec_FrontOf.l0 k l0 y271 0) = some r:=by rw [if_pos rfl] at H;exact H
  clear H
  have H:=H1
  clear H1
  have H':=Aside0.mk H
  clear H
  go_enter Try.func94,Try.ntmps94
  go_wp2_with (first|((with_reducible refine gate_dst (N:=10) rfl ?_);refine Kd.R_lit k36 _ 36 ?hg (N:=10) ?hd (xs:=([] : List (S36))) (inner:=[]) (ok:=fun _=>True) (okp:=fun _=>True) ?hr ?hp (fun _ hk=>hk) trivial (Below.refl _ _) (Nat.le_refl _) (by simp) ?_;(case hd=>rfl);(case hg=>rfl);(case hr=>first|(go_simp;done)|(go_simp;rfl));(case hp=>exact (Reps.none _ _));intro v272 w4 ho5 hb hg_ hnew_;clear hg_ hnew_;(first|rw [← Ny271.out] at ho5|(simp only [Int.reduceToNat] at ho5;rw [← Ny271.out] at ho5));have HO273:=am (Kd.R_lower ho5 (below_size Q80));replace HB:=am (below_step Q80 hb);clear hb ho5)|((with_reducible refine gate_callee (f:=101) rfl ?_);refine goesL_ (some 12) rfl rfl Try.func101 Q1 rfl #[.slice A0 l0.length c0] rfl Q84 ?_;(with_reducible refine (spec_l1Ok.calls k _ _ l0 true _ ?side1 ?side2 A2.out).mono ?_);(case side1=>exact Q115);(case side2=>exact HC0.out);rintro e w6 ⟨rfl,hb⟩;refine ⟨_,rfl,?_⟩;replace HO273:=am (Kd.R_below Q29 hb);replace HB:=am (below_step Q80 hb);(try clear hb)))
  go_loopg [3,4] k (fun kq v3 v4 w'=>∃ (x3_1 : List (S36)) (x4_1 : Int),v4 = .int .i64 x4_1 ∧ Aside0 (spec_FrontOf.l0 kq l0 x3_1 x4_1 = some r) ∧ Aside0 (kq ≤ k) ∧ Aside0 (Kd.R k36 36 w' w.heap.size (fun _=>True) v3 x3_1) ∧ Aside0 (Below w.heap.size w w'))
  case atStart=>exact ⟨(y271),(0),Q7,H',⟨Nat.le_refl _⟩,⟨Q29⟩,⟨Q80⟩⟩
  case round =>
   clear H'
   try clear c1
   try clear p2
   try clear c3
   obtain ⟨x3_1,x4_1,rfl,HA,HK1,HO_3,HB⟩:=hrel
   cases gk with
   | zero=>exact absurd HA.out (by simp [spec_FrontOf.l0])
   | succ k1 =>
    have H:=HA.out
    clear HA
    simp only [spec_FrontOf.l0] at H
    by_cases c7 : x4_1 ≤ 7
    ·rw [if_pos c7] at H
     have c7b0 : decide (x4_1 ≤ 7) = true:=decide_eq_true c7
     clear c7
     have H':=Aside0.mk H
     clear H
     go_wp2
     go_loopg [3,5] k1 (fun kq v3 v5 w'=>∃ (x3_2 : List (S36)) (x5_2 : Int),v5 = .int .i64 x5_2 ∧ Aside0 (spec_FrontOf.l1 kq l0 x3_2 x4_1 x5_2 = some r) ∧ Aside0 (kq ≤ k1) ∧ Aside0 (Kd.R k36 36 w' w.heap.size (fun _=>True) v3 x3_2) ∧ Aside0 (Below w.heap.size w w'))
     case atStart=>exact ⟨(x3_1),(7),Q7,H',⟨Nat.le_refl _⟩,⟨Q22⟩,⟨Q80⟩⟩
     case round =>
      clear H'
      try clear c1
      try clear p2
      try clear c3
      try clear c7
      try clear c7b0
      try clear p2
      obtain ⟨x3_2,x5_2,rfl,HA,HK2,HO_3,HB⟩:=hrel
      cases gk with
      | zero=>exact absurd HA.out (by simp [spec_FrontOf.l1])
      | succ k2 =>
       have H:=HA.out
       clear HA
       simp only [spec_FrontOf.l1] at H
       by_cases c8 : x5_2 ≥ 0
       ·rw [if_pos c8] at H
        have c8b0 : decide (0 ≤ x5_2) = true:=decide_eq_true c8
        clear c8
        have H':=Aside0.mk H
        clear H
        go_wp2_with (first|((with_reducible refine gate_dst (N:=6) rfl ?_);refine bE_ 6 #[.int .i64 0,.int .i64 0] 36 ?_;intro gb275 hg w9 hbox hb;replace HO_3:=am (Kd.R_below (Kd.R_elderB Q22 gb275 (Nat.le_of_eq hg.symm)) hb);have BK275:=am (hbox);have GW275:=am ((Q173 : w.heap.size ≤ gb275));replace HB:=am (below_step Q80 hb);have GE275:=GW275;clear hb hbox hg;obtain ⟨hcz10_0,hcz10_1,hfz10_0,hfz10_1⟩:=bx2_ BK275))
        go_loopg [7,8] k2 (fun kq v7 v8 w'=>∃ (x7_3 : Bool) (x8_3 : Int),v7 = .bool x7_3 ∧ v8 = .int .i64 x8_3 ∧ Aside0 (spec_FrontOf.l2 kq l0 x3_2 x4_1 x5_2 x7_3 x8_3 x4_1 x5_2 = some r) ∧ Aside0 (kq ≤ k2) ∧ Aside0 (Kd.R k36 36 w' w.heap.size (fun k_=>k_ ≠ gb275) u3 x3_2) ∧ Aside0 (w'.heap[gb275]? = some (.cells #[.int .i64 x4_1,.int .i64 x5_2] 36 (0,0))) ∧ Aside0 (Below w.heap.size w w'))
        case atStart=>exact ⟨(false),(0),Q7,Q7,H',⟨Nat.le_refl _⟩,⟨by (with_reducible repeat (first|apply Kd.R_alloc|apply Kd.R_drewN|apply Kd.R_drew));exact Kd.R_mono (Kd.R_far (p:=⟨gb275,1,none⟩) (Kd.R_far (p:=⟨gb275,0,none⟩) (Kd.R_mono HO_3.out (fun k_ hk=>(⟨hk,hk.2⟩ : _ ∧ k_ ≠ gb275))) (fun _ hk=>hk.2) (.int .i64 x4_1)) (fun _ hk=>hk.2) (.int .i64 x5_2)) (fun _ hk=>hk.1.2)⟩,⟨by (with_reducible repeat (first|refine blk_drewN ?_ _|refine blk_drew ?_|refine blk_alloc ?_ _));refine blk_put (cs:=#[.int .i64 x4_1,.int .i64 0]) ?_ 1 _ rfl;(with_reducible repeat (first|refine blk_drewN ?_ _|refine blk_drew ?_|refine blk_alloc ?_ _));refine blk_put (cs:=#[.int .i64 0,.int .i64 0]) ?_ 0 _ rfl;(with_reducible repeat (first|refine blk_drewN ?_ _|refine blk_drew ?_|refine blk_alloc ?_ _));exact BK275.out⟩,⟨Q92⟩⟩
        case round =>
         clear H'
         try clear c1
         try clear p2
         try clear c3
         try clear c7
         try clear c7b0
         try clear c8
         try clear c8b0
         try clear c9
         try clear c10
         try clear hcz10_0
         try clear hcz10_1
         try clear hfz10_0
         try clear hfz10_1
         try clear p2
         obtain ⟨x7_3,x8_3,rfl,rfl,HA,HK3,HO_3,BK275,HB⟩:=hrel
         cases gk with
         | zero=>exact absurd HA.out (by simp [spec_FrontOf.l2])
         | succ k3 =>
          have H:=HA.out
          clear HA
          simp only [spec_FrontOf.l2] at H
          by_cases c11 : x8_3 < (l0.length : Int)
          ·rw [if_pos c11] at H
           have c11b0 : decide (x8_3 < (l0.length : Int)) = true:=decide_eq_true c11
           clear c11
           have c12 : 0 ≤ x8_3:=nn_ H
           rw [if_pos c12] at H
           have c12b0 : decide (0 ≤ x8_3) = true:=decide_eq_true c12
           clear c12
           by_cases c13 : (((rd_T36 l0 x8_3).f0) == x4_1 && (((rd_T36 l0 x8_3).f1) == x5_2)) = true
           ·rw [if_pos c13] at H
            have c13b0 : (((rd_T36 l0 x8_3).f0) == x4_1 && (((rd_T36 l0 x8_3).f1) == x5_2)) = true:=c13
            (try (have c13b1 : decide (((rd_T36 l0 x8_3).f0) = x4_1 && (((rd_T36 l0 x8_3).f1) == x5_2)) = true:=by simpa using c13))
            (try (have c13b2 : (((rd_T36 l0 x8_3).f0) == x4_1 && (((rd_T36 l0 x8_3).f1) == x5_2)) = true:=by simpa using c13))
            clear c13
            have H':=Aside0.mk H
            clear H
            try go_wp2
            replace HO_3:=am (Kd.R_drew HO_3.out)
            replace BK275:=am (blk_drew BK275.out)
            replace HB:=am (below_drew1 HB.out)
            have p276 : 0 ≤ (x8_3 : Int):=of_decide_eq_true Q8
            have q276 : x8_3 < (l0.length : Int):=of_decide_eq_true Q8
            obtain ⟨ad276,e276,hx276_0,hx276_1⟩:=at_T36 HR0.out x8_3 p276 q276
            have hw276_1:=hx276_1
            have hw276_0:=hx276_0
            cases e276
            replace hx276_0:=cb_ HB hx276_0
            replace hx276_1:=cb_ HB hx276_1
            replace p276:=eq_true p276
            replace q276:=eq_true q276
            refine start_ (n:=6) (S:=fun w'=>w'.cell? ⟨gb275,0,none⟩ = some (.int .i64 x4_1) ∧ w'.cell? ⟨gb275,1,none⟩ = some (.int .i64 x5_2) ∧ w'.cell? (ad276.add ((x8_3).toNat * 2)) = some (.int .i64 ((rd_T36 l0 x8_3).f0)) ∧ w'.cell? ⟨(ad276.add ((x8_3).toNat * 2)).block,(ad276.add ((x8_3).toNat * 2)).off + 1,none⟩ = some (.int .i64 ((rd_T36 l0 x8_3).f1))) (ds:=[]) b6_0 Q1 rfl rfl ⟨(blk_cell BK275.out 0).trans rfl,(blk_cell BK275.out 1).trans rfl,(cb_ HB hw276_0:),(cb_ HB hw276_1:)⟩ (fun hHeld=>?_)
            generalize wr.drew = w14 at HO_3 BK275 HB hx276_0 hx276_1 hHeld ⊢
            refine pU_ 0 32 b6_1 ?_
            refine pU_ 1 33 b6_2 ?_
            refine pU_ 2 34 b6_3 ?_
            refine tU_ 3 35 b6_4 hHeld ?_
            refine tU_ 4 36 b6_5 hHeld ?_
            refine pU_ 5 37 b6_6 ?_
            refine done_ Q1 ?_
            try go_wp2
            go_roundg k3
            case measure=>have:=HK1.out;have:=HK2.out;have:=HK3.out;omega
            case rel=>exact ⟨(true),(wrap64 (x8_3 + 1)),Q7,Q7,H',⟨by have:=HK1.out;have:=HK2.out;have:=HK3.out;omega⟩,⟨Q22⟩,⟨Q47⟩,⟨Q92⟩⟩
           ·rw [if_neg c13] at H
            have c13b0 : (((rd_T36 l0 x8_3).f0) == x4_1 && (((rd_T36 l0 x8_3).f1) == x5_2)) = false:=by simpa using c13
            (try (have c13b1 : decide (((rd_T36 l0 x8_3).f0) = x4_1 && (((rd_T36 l0 x8_3).f1) == x5_2)) = false:=by simpa using c13))
            (try (have c13b2 : (((rd_T36 l0 x8_3).f0) == x4_1 && (((rd_T36 l0 x8_3).f1) == x5_2)) = false:=by simpa using c13))
            (try (have c13b3 : ¬ (((rd_T36 l0 x8_3).f0) = x4_1 && (((rd_T36 l0 x8_3).f1) == x5_2)):=by simpa using c13))
            clear c13
            have H':=Aside0.mk H
            clear H
            try go_wp2
            replace HO_3:=am (Kd.R_drew HO_3.out)
            replace BK275:=am (blk_drew BK275.out)
            replace HB:=am (below_drew1 HB.out)
            have p276 : 0 ≤ (x8_3 : Int):=of_decide_eq_true Q8
            have q276 : x8_3 < (l0.length : Int):=of_decide_eq_true Q8
            obtain ⟨ad276,e276,hx276_0,hx276_1⟩:=at_T36 HR0.out x8_3 p276 q276
            have hw276_1:=hx276_1
            have hw276_0:=hx276_0
            cases e276
            replace hx276_0:=cb_ HB hx276_0
            replace hx276_1:=cb_ HB hx276_1
            replace p276:=eq_true p276
            replace q276:=eq_true q276
            refine start_ (n:=6) (S:=fun w'=>w'.cell? ⟨gb275,0,none⟩ = some (.int .i64 x4_1) ∧ w'.cell? ⟨gb275,1,none⟩ = some (.int .i64 x5_2) ∧ w'.cell? (ad276.add ((x8_3).toNat * 2)) = some (.int .i64 ((rd_T36 l0 x8_3).f0)) ∧ w'.cell? ⟨(ad276.add ((x8_3).toNat * 2)).block,(ad276.add ((x8_3).toNat * 2)).off + 1,none⟩ = some (.int .i64 ((rd_T36 l0 x8_3).f1))) (ds:=[]) b6_0 Q1 rfl rfl ⟨(blk_cell BK275.out 0).trans rfl,(blk_cell BK275.out 1).trans rfl,(cb_ HB hw276_0:),(cb_ HB hw276_1:)⟩ (fun hHeld=>?_)
            generalize wr.drew = w15 at HO_3 BK275 HB hx276_0 hx276_1 hHeld ⊢
            refine pU_ 0 32 b6_1 ?_
            refine pU_ 1 33 b6_2 ?_
            refine pU_ 2 34 b6_3 ?_
            refine tU_ 3 35 b6_4 hHeld ?_
            refine tU_ 4 36 b6_5 hHeld ?_
            refine pU_ 5 37 b6_6 ?_
            refine done_ Q1 ?_
            try go_wp2
            go_roundg k3
            case measure=>have:=HK1.out;have:=HK2.out;have:=HK3.out;omega
            case rel=>exact ⟨(x7_3),(wrap64 (x8_3 + 1)),Q7,Q7,H',⟨by have:=HK1.out;have:=HK2.out;have:=HK3.out;omega⟩,⟨Q22⟩,⟨Q47⟩,⟨Q92⟩⟩
          ·rw [if_neg c11] at H
           have c11b0 : decide (x8_3 < (l0.length : Int)) = false:=decide_eq_false c11
           clear c11
           have H':=Aside0.mk H
           clear H
           go_wp2
           go_loopg [7,9] k3 (fun kq v7 v9 w'=>∃ (x7_4 : Bool) (x9_4 : Int),v7 = .bool x7_4 ∧ v9 = .int .i64 x9_4 ∧ Aside0 (spec_FrontOf.l3 kq l0 x3_2 x4_1 x5_2 x7_4 x9_4 x4_1 x5_2 = some r) ∧ Aside0 (kq ≤ k3) ∧ Aside0 (Kd.R k36 36 w' w.heap.size (fun k_=>k_ ≠ gb275) u3 x3_2) ∧ Aside0 (w'.heap[gb275]? = some (.cells #[.int .i64 x4_1,.int .i64 x5_2] 36 (0,0))) ∧ Aside0 (Below w.heap.size w w'))
           case atStart=>exact ⟨(x7_3),(0),Q7,Q7,H',⟨Nat.le_refl _⟩,⟨Q22⟩,⟨Q47⟩,⟨Q92⟩⟩
           case round =>
            clear H'
            try clear c1
            try clear p2
            try clear q2
            try clear hx2
            try clear c3
            try clear p6
            try clear c7
            try clear c7b0
            try clear c8
            try clear c8b0
            try clear c9
            try clear c10
            try clear c11
            try clear c11b0
            try clear c12
            try clear c12b0
            try clear c13
            try clear c13b0
            try clear c13b1
            try clear c13b2
            try clear hcz10_0
            try clear hcz10_1
            try clear hfz10_0
            try clear hfz10_1
            try clear hx276_0
            try clear hx276_1
            try clear p2
            try clear p276
            try clear q276
            obtain ⟨x7_4,x9_4,rfl,rfl,HA,HK4,HO_3,BK275,HB⟩:=hrel
            cases gk with
            | zero=>exact absurd HA.out (by simp [spec_FrontOf.l3])
            | succ k4 =>
             have H:=HA.out
             clear HA
             simp only [spec_FrontOf.l3] at H
             by_cases c16 : x9_4 < (l0.length : Int)
             ·rw [if_pos c16] at H
              have c16b0 : decide (x9_4 < (l0.length : Int)) = true:=decide_eq_true c16
              clear c16
              have c17 : 0 ≤ x9_4:=nn_ H
              rw [if_pos c17] at H
              have c17b0 : decide (0 ≤ x9_4) = true:=decide_eq_true c17
              clear c17
              by_cases c18 : (!(((rd_T36 l0 x9_4).f0) == x4_1) || (!(((rd_T36 l0 x9_4).f1) == x5_2))) = true
              ·rw [if_pos c18] at H
               have c18b0 : (!(((rd_T36 l0 x9_4).f0) == x4_1) || (!(((rd_T36 l0 x9_4).f1) == x5_2))) = true:=c18
               clear c18
               replace H:=Option.bind_eq_some_iff.mp H
               obtain ⟨t279,A190,H⟩:=H
               replace H : (if t279 = true then (spec_FrontOf.l3 k4 l0 x3_2 x4_1 x5_2 false (wrap64 (x9_4 + 1)) x4_1 x5_2) else (spec_FrontOf.l3 k4 l0 x3_2 x4_1 x5_2 x7_4 (wrap64 (x9_4 + 1)) x4_1 x5_2)) = some r:=H
               have A19:=Aside0.mk A190
               clear A190
               by_cases c20 : t279 = true
               ·subst c20
                have H1 : (spec_FrontOf.l3 k4 l0 x3_2 x4_1 x5_2 false (wrap64 (x9_4 + 1)) x4_1 x5_2) = some r:=by rw [if_pos rfl] at H;exact H
                clear H
                have H:=H1
                clear H1
                have H':=Aside0.mk H
                clear H
                try go_wp2
                replace HO_3:=am (Kd.R_drew HO_3.out)
                replace BK275:=am (blk_drew BK275.out)
                replace HB:=am (below_drew1 HB.out)
                have p277 : 0 ≤ (x9_4 : Int):=of_decide_eq_true Q8
                have q277 : x9_4 < (l0.length : Int):=of_decide_eq_true Q8
                obtain ⟨ad277,e277,hx277_0,hx277_1⟩:=at_T36 HR0.out x9_4 p277 q277
                have hw277_1:=hx277_1
                have hw277_0:=hx277_0
                cases e277
                replace hx277_0:=cb_ HB hx277_0
                replace hx277_1:=cb_ HB hx277_1
                replace p277:=eq_true p277
                replace q277:=eq_true q277
                have p278 : 0 ≤ (x9_4 : Int):=of_decide_eq_true Q8
                have q278 : x9_4 < (l0.length : Int):=of_decide_eq_true Q8
                obtain ⟨ad278,e278,hx278_0,hx278_1⟩:=at_T36 HR0.out x9_4 p278 q278
                have hw278_1:=hx278_1
                have hw278_0:=hx278_0
                obtain rfl : ad277 = ad278:=(by injection e278)
                replace hx278_0:=cb_ HB hx278_0
                replace hx278_1:=cb_ HB hx278_1
                replace p278:=eq_true p278
                replace q278:=eq_true q278
                refine start_ (n:=14) (S:=fun w'=>w'.cell? ⟨gb275,0,none⟩ = some (.int .i64 x4_1) ∧ w'.cell? ⟨gb275,1,none⟩ = some (.int .i64 x5_2) ∧ w'.cell? (ad277.add ((x9_4).toNat * 2)) = some (.int .i64 ((rd_T36 l0 x9_4).f0)) ∧ w'.cell? ⟨(ad277.add ((x9_4).toNat * 2)).block,(ad277.add ((x9_4).toNat * 2)).off + 1,none⟩ = some (.int .i64 ((rd_T36 l0 x9_4).f1)) ∧ w'.cell? (ad277.add ((x9_4).toNat * 2)) = some (.int .i64 ((rd_T36 l0 x9_4).f0)) ∧ w'.cell? ⟨(ad277.add ((x9_4).toNat * 2)).block,(ad277.add ((x9_4).toNat * 2)).off + 1,none⟩ = some (.int .i64 ((rd_T36 l0 x9_4).f1))) (ds:=[]) b14_0 Q1 rfl rfl ⟨(blk_cell BK275.out 0).trans rfl,(blk_cell BK275.out 1).trans rfl,(cb_ HB hw277_0:),(cb_ HB hw277_1:),(cb_ HB hw278_0:),(cb_ HB hw278_1:)⟩ (fun hHeld=>?_);refine with_tabW spec_FrontOf.tab20 spec_FrontOf.bits20 (fun HT_ HW_=>?_)
                generalize wr.drew = w21 at HO_3 BK275 HB hx277_0 hx277_1 hx278_0 hx278_1 hHeld ⊢
                refine pU_ 0 44 b14_1 ?_
                refine pU_ 1 45 b14_2 ?_
                refine pU_ 2 46 b14_3 ?_
                refine tU_ 3 47 b14_4 hHeld ?_
                refine tU_ 4 48 b14_5 hHeld ?_
                refine pU_ 5 49 b14_6 ?_
                refine pU_ 6 50 b14_7 ?_
                refine pU_ 7 51 b14_8 ?_
                refine pU_ 8 52 b14_9 ?_
                refine pU_ 9 53 b14_10 ?_
                refine tU_ 10 54 b14_11 hHeld ?_
                refine tU_ 11 55 b14_12 hHeld ?_
                refine one_ (i:=12) (N:=some 56) b14_13 rfl rfl (one_of HT_.out Q1) Q0 (fun K hK=>?_)
                refine goes_ Try.func76 Q1 rfl #[.agg #[.int .i64 ((rd_T36 l0 x9_4).f0),.int .i64 ((rd_T36 l0 x9_4).f1)],.agg #[.int .i64 x4_1,.int .i64 x5_2]] (by rfl) rfl rfl Q84 ?_
                with_reducible refine (spec_TimeLess.calls ((rd_T36 l0 x9_4).f0) ((rd_T36 l0 x9_4).f1) x4_1 x5_2 true _ A19.out).mono ?_
                rintro e w22 ⟨rfl,hb⟩
                refine ⟨_,rfl,?_⟩
                replace HO_3:=am (Kd.R_below Q22 hb)
                replace BK275:=am (blk_below (g:=gb275) (o:=.cells #[.int .i64 x4_1,.int .i64 x5_2] 36 (0,0)) Q47 hb)
                replace HB:=am (below_step Q92 hb)
                (try clear hb)
                (try clear hb2)
                (try clear hk)
                (try clear hi)
                refine hK.out _ _ ⟨(blk_cell BK275.out 0).trans rfl,(blk_cell BK275.out 1).trans rfl,(cb_ HB hw277_0:),(cb_ HB hw277_1:),(cb_ HB hw278_0:),(cb_ HB hw278_1:)⟩ (fun hHeld=>?_)
                clear hK K
                refine norm_ (a':=?_) ?_ ?_
                rotate_left
                ·show Act.put _ (some 56) _ = _
                 simp only [Act.put,sA_,sZ_,sS_,i64_w,i32_w]
                 rfl
                refine pU_ 13 57 b14_14 ?_
                refine done_ (done_of HT_.out Q1) ?_
                try go_wp2
                go_roundg k4
                case measure=>have:=HK1.out;have:=HK2.out;have:=HK3.out;have:=HK4.out;omega
                case rel=>exact ⟨(false),(wrap64 (x9_4 + 1)),Q7,Q7,H',⟨Q13⟩,⟨Q22⟩,⟨Q47⟩,⟨Q92⟩⟩
               ·replace c20:=Bool.eq_false_iff.mpr c20
                subst c20
                have H1 : (spec_FrontOf.l3 k4 l0 x3_2 x4_1 x5_2 x7_4 (wrap64 (x9_4 + 1)) x4_1 x5_2) = some r:=by rw [if_neg (show ¬ (false = true) by decide)] at H;exact H
                clear H
                have H:=H1
                clear H1
                have H':=Aside0.mk H
                clear H
                try go_wp2
                replace HO_3:=am (Kd.R_drew HO_3.out)
                replace BK275:=am (blk_drew BK275.out)
                replace HB:=am (below_drew1 HB.out)
                have p277 : 0 ≤ (x9_4 : Int):=of_decide_eq_true Q8
                have q277 : x9_4 < (l0.length : Int):=of_decide_eq_true Q8
                obtain ⟨ad277,e277,hx277_0,hx277_1⟩:=at_T36 HR0.out x9_4 p277 q277
                have hw277_1:=hx277_1
                have hw277_0:=hx277_0
                cases e277
                replace hx277_0:=cb_ HB hx277_0
                replace hx277_1:=cb_ HB hx277_1
                replace p277:=eq_true p277
                replace q277:=eq_true q277
                have p278 : 0 ≤ (x9_4 : Int):=of_decide_eq_true Q8
                have q278 : x9_4 < (l0.length : Int):=of_decide_eq_true Q8
                obtain ⟨ad278,e278,hx278_0,hx278_1⟩:=at_T36 HR0.out x9_4 p278 q278
                have hw278_1:=hx278_1
                have hw278_0:=hx278_0
                obtain rfl : ad277 = ad278:=(by injection e278)
                replace hx278_0:=cb_ HB hx278_0
                replace hx278_1:=cb_ HB hx278_1
                replace p278:=eq_true p278
                replace q278:=eq_true q278
                refine start_ (n:=14) (S:=fun w'=>w'.cell? ⟨gb275,0,none⟩ = some (.int .i64 x4_1) ∧ w'.cell? ⟨gb275,1,none⟩ = some (.int .i64 x5_2) ∧ w'.cell? (ad277.add ((x9_4).toNat * 2)) = some (.int .i64 ((rd_T36 l0 x9_4).f0)) ∧ w'.cell? ⟨(ad277.add ((x9_4).toNat * 2)).block,(ad277.add ((x9_4).toNat * 2)).off + 1,none⟩ = some (.int .i64 ((rd_T36 l0 x9_4).f1)) ∧ w'.cell? (ad277.add ((x9_4).toNat * 2)) = some (.int .i64 ((rd_T36 l0 x9_4).f0)) ∧ w'.cell? ⟨(ad277.add ((x9_4).toNat * 2)).block,(ad277.add ((x9_4).toNat * 2)).off + 1,none⟩ = some (.int .i64 ((rd_T36 l0 x9_4).f1))) (ds:=[]) b14_0 Q1 rfl rfl ⟨(blk_cell BK275.out 0).trans rfl,(blk_cell BK275.out 1).trans rfl,(cb_ HB hw277_0:),(cb_ HB hw277_1:),(cb_ HB hw278_0:),(cb_ HB hw278_1:)⟩ (fun hHeld=>?_);refine with_tabW spec_FrontOf.tab20 spec_FrontOf.bits20 (fun HT_ HW_=>?_)
                generalize wr.drew = w23 at HO_3 BK275 HB hx277_0 hx277_1 hx278_0 hx278_1 hHeld ⊢
                refine pU_ 0 44 b14_1 ?_
                refine pU_ 1 45 b14_2 ?_
                refine pU_ 2 46 b14_3 ?_
                refine tU_ 3 47 b14_4 hHeld ?_
                refine tU_ 4 48 b14_5 hHeld ?_
                refine pU_ 5 49 b14_6 ?_
                refine pU_ 6 50 b14_7 ?_
                refine pU_ 7 51 b14_8 ?_
                refine pU_ 8 52 b14_9 ?_
                refine pU_ 9 53 b14_10 ?_
                refine tU_ 10 54 b14_11 hHeld ?_
                refine tU_ 11 55 b14_12 hHeld ?_
                refine one_ (i:=12) (N:=some 56) b14_13 rfl rfl (one_of HT_.out Q1) Q0 (fun K hK=>?_)
                refine goes_ Try.func76 Q1 rfl #[.agg #[.int .i64 ((rd_T36 l0 x9_4).f0),.int .i64 ((rd_T36 l0 x9_4).f1)],.agg #[.int .i64 x4_1,.int .i64 x5_2]] (by rfl) rfl rfl Q84 ?_
                with_reducible refine (spec_TimeLess.calls ((rd_T36 l0 x9_4).f0) ((rd_T36 l0 x9_4).f1) x4_1 x5_2 false _ A19.out).mono ?_
                rintro e w24 ⟨rfl,hb⟩
                refine ⟨_,rfl,?_⟩
                replace HO_3:=am (Kd.R_below Q22 hb)
                replace BK275:=am (blk_below (g:=gb275) (o:=.cells #[.int .i64 x4_1,.int .i64 x5_2] 36 (0,0)) Q47 hb)
                replace HB:=am (below_step Q92 hb)
                (try clear hb)
                (try clear hb2)
                (try clear hk)
                (try clear hi)
                refine hK.out _ _ ⟨(blk_cell BK275.out 0).trans rfl,(blk_cell BK275.out 1).trans rfl,(cb_ HB hw277_0:),(cb_ HB hw277_1:),(cb_ HB hw278_0:),(cb_ HB hw278_1:)⟩ (fun hHeld=>?_)
                clear hK K
                refine norm_ (a':=?_) ?_ ?_
                rotate_left
                ·show Act.put _ (some 56) _ = _
                 simp only [Act.put,sA_,sZ_,sS_,i64_w,i32_w]
                 rfl
                refine pU_ 13 57 b14_14 ?_
                refine done_ (done_of HT_.out Q1) ?_
                try go_wp2
                go_roundg k4
                case measure=>have:=HK1.out;have:=HK2.out;have:=HK3.out;have:=HK4.out;omega
                case rel=>exact ⟨(x7_4),(wrap64 (x9_4 + 1)),Q7,Q7,H',⟨Q13⟩,⟨Q22⟩,⟨Q47⟩,⟨Q92⟩⟩
              ·rw [if_neg c18] at H
               have c18b0 : (!(((rd_T36 l0 x9_4).f0) == x4_1) || (!(((rd_T36 l0 x9_4).f1) == x5_2))) = false:=by simpa using c18
               clear c18
               have H':=Aside0.mk H
               clear H
               try go_wp2
               replace HO_3:=am (Kd.R_drew HO_3.out)
               replace BK275:=am (blk_drew BK275.out)
               replace HB:=am (below_drew1 HB.out)
               have p277 : 0 ≤ (x9_4 : Int):=of_decide_eq_true Q8
               have q277 : x9_4 < (l0.length : Int):=of_decide_eq_true Q8
               obtain ⟨ad277,e277,hx277_0,hx277_1⟩:=at_T36 HR0.out x9_4 p277 q277
               have hw277_1:=hx277_1
               have hw277_0:=hx277_0
               cases e277
               replace hx277_0:=cb_ HB hx277_0
               replace hx277_1:=cb_ HB hx277_1
               replace p277:=eq_true p277
               replace q277:=eq_true q277
               refine start_ (n:=14) (S:=fun w'=>w'.cell? ⟨gb275,0,none⟩ = some (.int .i64 x4_1) ∧ w'.cell? ⟨gb275,1,none⟩ = some (.int .i64 x5_2) ∧ w'.cell? (ad277.add ((x9_4).toNat * 2)) = some (.int .i64 ((rd_T36 l0 x9_4).f0)) ∧ w'.cell? ⟨(ad277.add ((x9_4).toNat * 2)).block,(ad277.add ((x9_4).toNat * 2)).off + 1,none⟩ = some (.int .i64 ((rd_T36 l0 x9_4).f1))) (ds:=[]) b14_0 Q1 rfl rfl ⟨(blk_cell BK275.out 0).trans rfl,(blk_cell BK275.out 1).trans rfl,(cb_ HB hw277_0:),(cb_ HB hw277_1:)⟩ (fun hHeld=>?_);refine with_tabW spec_FrontOf.tab20 spec_FrontOf.bits20 (fun HT_ HW_=>?_)
               generalize wr.drew = w25 at HO_3 BK275 HB hx277_0 hx277_1 hHeld ⊢
               refine pU_ 0 44 b14_1 ?_
               refine pU_ 1 45 b14_2 ?_
               refine pU_ 2 46 b14_3 ?_
               refine tU_ 3 47 b14_4 hHeld ?_
               refine tU_ 4 48 b14_5 hHeld ?_
               refine pU_ 5 49 b14_6 ?_
               refine pU_ 6 50 b14_7 ?_
               refine pV_ 7 51 b14_8 ?_
               refine pV_ 8 52 b14_9 ?_
               refine pV_ 9 53 b14_10 ?_
               refine pV_ 10 54 b14_11 ?_
               refine pV_ 11 55 b14_12 ?_
               refine pV_ 12 56 b14_13 ?_
               refine pU_ 13 57 b14_14 ?_
               refine done_ (done_of HT_.out Q1) ?_
               try go_wp2
               go_roundg k4
               case measure=>have:=HK1.out;have:=HK2.out;have:=HK3.out;have:=HK4.out;omega
               case rel=>exact ⟨(x7_4),(wrap64 (x9_4 + 1)),Q7,Q7,H',⟨Q13⟩,⟨Q22⟩,⟨Q47⟩,⟨Q92⟩⟩
             ·rw [if_neg c16] at H
              have c16b0 : decide (x9_4 < (l0.length : Int)) = false:=decide_eq_false c16
              clear c16
              by_cases c26 : x7_4 = true
              ·subst c26
               have H1 : (if x3_2.length < 8796093022208 then (spec_FrontOf.l1 k4 l0 (x3_2 ++ [(⟨x4_1,x5_2⟩ : S36)]) x4_1 (wrap64 (x5_2 - 1))) else (none)) = some r:=by rw [if_pos rfl] at H;exact H
               clear H
               have H:=H1
               clear H1
               have c27 : x3_2.length < 8796093022208:=nn_ H
               rw [if_pos c27] at H
               have LMc27:=Aside0.mk c27
               clear c27
               obtain ⟨y280,hy_⟩ : ∃ y_ : List (S36),y_ = (x3_2 ++ [(⟨x4_1,x5_2⟩ : S36)]):=⟨_,rfl⟩
               replace H : (spec_FrontOf.l1 k4 l0 y280 x4_1 (wrap64 (x5_2 - 1))) = some r:=Q162
               have Ny280:=Aside0.mk hy_
               clear hy_
               have H':=Aside0.mk H
               clear H
               have hcz28_0 : wr.cell? ⟨gb275,0,none⟩ = some (.int .i64 x4_1):=(blk_cell BK275.out 0).trans rfl
               have hcz28_1 : wr.cell? ⟨gb275,1,none⟩ = some (.int .i64 x5_2):=(blk_cell BK275.out 1).trans rfl
               have hfz28_0:=blk_frozen BK275.out 0
               have hfz28_1:=blk_frozen BK275.out 1
               go_wp2_with (first|((with_reducible refine gate_builtin (b:=.append) (xs:=#[.tmp 59,.tmp 61]) rfl ?_);at_builtin;refine Kd.R_append k36 (w0:=w) w.heap.size rfl (.tmp 59) (.tmp 61) 24 36 (.agg #[(.int .i64 0),(.int .i64 0)]) 16 rfl Try.underlying24 info36 rfl Q0 (by omega) u3 x3_2 (⟨x4_1,x5_2⟩ : S36) [.int .i64 x4_1,.int .i64 x5_2] (fun k_=>k_ ≠ gb275) (fun _=>False) rfl rfl ?aP (fun _ hk=>hk.elim) ?aF ?aO ?aB ?aS ?aL ?_;(case aP=>exact k36_mkM _ _ _ (⟨x4_1,x5_2⟩ : S36));(case aB=>exact Q92);(case aF=>exact (fun k_ hk=>Kd.freshB (g:=gb275) (o:=.cells #[.int .i64 x4_1,.int .i64 x5_2] 36 (0,0)) Q47 k_ hk));(case aO=>exact Q22);(case aS=>exact (below_size Q92));(case aL=>have:=LMc27.out;omega);intro v281 w29 ho hb hg hat;rw [← Ny280.out] at ho;replace BK275:=am (blk_grown (g:=gb275) (o:=.cells #[.int .i64 x4_1,.int .i64 x5_2] 36 (0,0)) Q47 hg (Kd.R_away HO_3.out (fun _ hk=>hk)));replace HB:=am (hb);have HO282:=am (ho);clear HO_3;clear ho hb hg hat))
               go_roundg k4
               case measure=>have:=HK1.out;have:=HK2.out;have:=HK3.out;have:=HK4.out;omega
               case rel=>exact ⟨(y280),(wrap64 (x5_2 - 1)),Q7,H',⟨Q13⟩,⟨by (with_reducible repeat (first|apply Kd.R_alloc|apply Kd.R_drewN|apply Kd.R_drew));exact Kd.R_mono HO282.out (fun _ hk=>trivial)⟩,⟨Q92⟩⟩
              ·replace c26:=Bool.eq_false_iff.mpr c26
               subst c26
               have H1 : (spec_FrontOf.l1 k4 l0 x3_2 x4_1 (wrap64 (x5_2 - 1))) = some r:=by rw [if_neg (show ¬ (false = true) by decide)] at H;exact H
               clear H
               have H:=H1
               clear H1
               have H':=Aside0.mk H
               clear H
               go_wp2
               go_roundg k4
               case measure=>have:=HK1.out;have:=HK2.out;have:=HK3.out;have:=HK4.out;omega
               case rel=>exact ⟨(x3_2),(wrap64 (x5_2 - 1)),Q7,H',⟨Q13⟩,⟨by (with_reducible repeat (first|apply Kd.R_alloc|apply Kd.R_drewN|apply Kd.R_drew));exact Kd.R_mono HO_3.out (fun _ hk=>trivial)⟩,⟨Q92⟩⟩
       ·rw [if_neg c8] at H
        have c8b0 : decide (0 ≤ x5_2) = false:=decide_eq_false c8
        clear c8
        have H':=Aside0.mk H
        clear H
        go_wp2
        go_roundg k2
        case measure=>have:=HK1.out;have:=HK2.out;omega
        case rel=>exact ⟨(x3_2),(wrap64 (x4_1 + 1)),Q7,H',⟨Q6⟩,⟨Q22⟩,⟨Q80⟩⟩
    ·rw [if_neg c7] at H
     have c7b0 : decide (x4_1 ≤ 7) = false:=decide_eq_false c7
     clear c7
     obtain rfl:=Option.some.inj H
     go_wp2
     go_ret
     exact ⟨_,Q18,Q22,Q80⟩
 ·replace c3:=Bool.eq_false_iff.mpr c3
  subst c3
  have H1 : (some y271) = some r:=by rw [if_neg (show ¬ (false = true) by decide)] at H;exact H
  clear H
  have H:=H1
  clear H1
  obtain rfl:=Option.some.inj H
  go_enter Try.func94,Try.ntmps94
  go_wp2_with (first|((with_reducible refine gate_dst (N:=10) rfl ?_);refine Kd.R_lit k36 _ 36 ?hg (N:=10) ?hd (xs:=([] : List (S36))) (inner:=[]) (ok:=fun _=>True) (okp:=fun _=>True) ?hr ?hp (fun _ hk=>hk) trivial (Below.refl _ _) (Nat.le_refl _) (by simp) ?_;(case hd=>rfl);(case hg=>rfl);(case hr=>first|(go_simp;done)|(go_simp;rfl));(case hp=>exact (Reps.none _ _));intro v272 w30 ho31 hb hg_ hnew_;clear hg_ hnew_;(first|rw [← Ny271.out] at ho31|(simp only [Int.reduceToNat] at ho31;rw [← Ny271.out] at ho31));have HO273:=am (Kd.R_lower ho31 (below_size Q80));replace HB:=am (below_step Q80 hb);clear hb ho31)|((with_reducible refine gate_callee (f:=101) rfl ?_);refine goesL_ (some 12) rfl rfl Try.func101 Q1 rfl #[.slice A0 l0.length c0] rfl Q84 ?_;(with_reducible refine (spec_l1Ok.calls k _ _ l0 false _ ?side1 ?side2 A2.out).mono ?_);(case side1=>exact Q115);(case side2=>exact HC0.out);rintro e w32 ⟨rfl,hb⟩;refine ⟨_,rfl,?_⟩;replace HO273:=am (Kd.R_below Q29 hb);replace HB:=am (below_step Q80 hb);(try clear hb)))
  go_ret
  exact ⟨_,Q18,Q29,Q80⟩
def spec_l71Times.l0 : Nat → List (S36) → Int → List Int → Int → Option ((List (S36)) × Int)
 | 0, _, _, _, _ => none
 | k + 1, x5, x6, x1000, x1001 => if x6 > 0 then ((spec_l71Time.f k x1000 x1001).bind fun bt288 => (if x5.length < 8796093022208 then (spec_l71Times.l0 k (x5 ++ [(⟨bt288.1, bt288.2.1⟩ : S36)]) (wrap64 (x6 - 1)) x1000 bt288.2.2) else (none))) else (some (x5, x1001))
def spec_l71Times.f (k : Nat) (s0_0 : List Int) (s0_1 : Int) (a1 : Int) : Option ((List (S36)) × Int) := (spec_l6Rd_pick.f k s0_0 s0_1 (wrap64 (a1 + 1))).bind fun bt286 => (spec_l71Times.l0 k (([] : List (S36))) bt286.1 s0_0 bt286.2)
set_option maxHeartbeats 8000000 in
set_option maxRecDepth 100000 in
theorem spec_l71Times.calls (k : Nat) (g : Nat) (s0_0 : List Int) (s0_1 : Int) (a1 : Int) (r1 : List (S36)) (r2 : Int) (w0 w : World) (hI : IsS87 w0 w g s0_0 s0_1) (hB : Below w0.heap.size w0 w) (h : spec_l71Times.f k s0_0 s0_1 a1 = some (r1,r2)) :
  Calls Try.prog 95 #[.pointer (some ⟨g,0,none⟩),.int .i64 a1] w fun e w'=>∃ v0_ : Value,e = .returned (v0_) ∧ Kd.R k36 36 w' w.heap.size (fun _=>True) v0_ r1 ∧ IsS87 w0 w' g s0_0 r2 ∧ Below w0.heap.size w0 w' ∧ KeepBut w w' g none:=by
 have HI0:=Aside0.mk hI
 have HK:=am (KeepBut.refl w g none)
 have HL:=Aside0.mk hB.size
 clear hI
 have HW0:=Aside0.mk hB.size
 have HB:=Aside0.mk hB
 clear hB
 have H : ((spec_l6Rd_pick.f k s0_0 s0_1 (wrap64 (a1 + 1))).bind fun bt286=>(spec_l71Times.l0 k (([] : List (S36))) bt286.1 s0_0 bt286.2)) = some (r1,r2):=h
 clear h
 obtain ⟨y283,hy_⟩ : ∃ y_ : List (S36),y_ = (([] : List (S36))):=⟨_,rfl⟩
 replace H : ((spec_l6Rd_pick.f k s0_0 s0_1 (wrap64 (a1 + 1))).bind fun bt286=>(spec_l71Times.l0 k y283 bt286.1 s0_0 bt286.2)) = some (r1,r2):=Q162
 have Ny283:=Aside0.mk hy_
 clear hy_
 replace H:=Option.bind_eq_some_iff.mp H
 obtain ⟨⟨t286,t287⟩,A30,H⟩:=H
 replace H : (spec_l71Times.l0 k y283 t286 s0_0 t287) = some (r1,r2):=H
 have A3:=Aside0.mk A30
 clear A30
 have H':=Aside0.mk H
 clear H
 go_enter Try.func95,Try.ntmps95
 go_wp2_with (first|((with_reducible refine gate_dst (N:=7) rfl ?_);refine Kd.R_lit k36 _ 36 ?hg (N:=7) ?hd (xs:=([] : List (S36))) (inner:=[]) (ok:=fun _=>True) (okp:=fun _=>True) ?hr ?hp (fun _ hk=>hk) trivial (Below.refl _ _) (Nat.le_refl _) (by simp) ?_;(case hd=>rfl);(case hg=>rfl);(case hr=>first|(go_simp;done)|(go_simp;rfl));(case hp=>exact (Reps.none _ _));intro v284 w4 ho5 hb hg_ hnew_;clear hg_ hnew_;(first|rw [← Ny283.out] at ho5|(simp only [Int.reduceToNat] at ho5;rw [← Ny283.out] at ho5));have HO285:=am (Kd.R_lower ho5 (keep_size (w:=w) (g:=g) (row:=none) Q87));replace HK:=am (KeepBut.trans Q87 (KeepBut.of_below hb g none) (.inl rfl));replace HB:=am (below_step Q114 hb);replace HI0:=am (IsS87.below Q88 hb);clear hb ho5)|((with_reducible refine gate_callee (f:=68) rfl ?_);refine goesL_ (some 11) rfl rfl Try.func68 Q1 rfl #[.pointer (some ⟨g,0,none⟩),.int .i64 (wrap64 (a1 + 1))] rfl Q84 ?_;(with_reducible refine (spec_l6Rd_pick.calls k g s0_0 s0_1 (wrap64 (a1 + 1)) t286 t287 w0 _ ?side1 ?side2 A3.out).mono ?_);(case side1=>exact Q88);(case side2=>exact Q114);rintro e w6 ⟨rfl,hi,hb,hk⟩;refine ⟨_,rfl,?_⟩;replace HO285:=am (Kd.R_mono (Kd.R_keep (IsS87.apart (show IsS87 w0 _ g s0_0 s0_1 from by repeat (first|(with_reducible first|exact HI0.out|apply IsS87.alloc|apply IsS87.drewN|apply IsS87.drew|apply IsS87.set_1)|exact HI0.out)) (by (with_reducible repeat (first|apply Kd.R_alloc|apply Kd.R_drewN|apply Kd.R_drew));exact HO285.out) Q0) hk (fun _ h=>h.2)) (fun _ h=>h.1));replace HK:=am (KeepBut.trans Q87 hk (.inl rfl));replace HB:=am (hb);replace HI0:=am (hi);(try clear hb hk hi)))
 go_loopg [5,6] k (fun kq v5 v6 w'=>∃ (x5_1 : List (S36)) (x6_1 : Int) (x1001_1 : Int),v6 = .int .i64 x6_1 ∧ Aside0 (spec_l71Times.l0 kq x5_1 x6_1 s0_0 x1001_1 = some (r1,r2)) ∧ Aside0 (kq ≤ k) ∧ Aside0 (Kd.R k36 36 w' w.heap.size (fun _=>True) v5 x5_1) ∧ Aside0 (IsS87 w0 w' g s0_0 x1001_1) ∧ Aside0 (KeepBut w w' g none) ∧ Aside0 (Below w0.heap.size w0 w'))
 case atStart=>exact ⟨(y283),(t286),(t287),Q7,H',⟨Nat.le_refl _⟩,⟨by (with_reducible repeat (first|apply Kd.R_alloc|apply Kd.R_drewN|apply Kd.R_drew));exact HO285.out⟩,⟨Q88⟩,⟨Q87⟩,⟨Q114⟩⟩
 case round =>
  clear H'
  try clear p2
  try clear c6
  try clear p6
  obtain ⟨x5_1,x6_1,x1001_1,rfl,HA,HK1,HO_5,HI0,HK,HB⟩:=hrel
  cases gk with
  | zero=>exact absurd HA.out (by simp [spec_l71Times.l0])
  | succ k1 =>
   have H:=HA.out
   clear HA
   simp only [spec_l71Times.l0] at H
   by_cases c7 : x6_1 > 0
   ·rw [if_pos c7] at H
    have c7b0 : decide (0 < x6_1) = true:=decide_eq_true c7
    clear c7
    replace H:=Option.bind_eq_some_iff.mp H
    obtain ⟨⟨t288,t289,t290⟩,A80,H⟩:=H
    replace H : (if x5_1.length < 8796093022208 then (spec_l71Times.l0 k1 (x5_1 ++ [(⟨t288,t289⟩ : S36)]) (wrap64 (x6_1 - 1)) s0_0 t290) else (none)) = some (r1,r2):=H
    have A8:=Aside0.mk A80
    clear A80
    have c9 : x5_1.length < 8796093022208:=nn_ H
    rw [if_pos c9] at H
    have LMc9:=Aside0.mk c9
    clear c9
    obtain ⟨y291,hy_⟩ : ∃ y_ : List (S36),y_ = (x5_1 ++ [(⟨t288,t289⟩ : S36)]):=⟨_,rfl⟩
    replace H : (spec_l71Times.l0 k1 y291 (wrap64 (x6_1 - 1)) s0_0 t290) = some (r1,r2):=Q162
    have Ny291:=Aside0.mk hy_
    clear hy_
    have H':=Aside0.mk H
    clear H
    go_wp2_with (first|((with_reducible refine gate_callee (f:=92) rfl ?_);refine goesL_ (some 18) rfl rfl Try.func92 Q1 rfl #[.pointer (some ⟨g,0,none⟩)] rfl Q84 ?_;(with_reducible refine (spec_l71Time.calls k1 g s0_0 x1001_1 t288 t289 t290 w0 _ ?side1 ?side2 A8.out).mono ?_);(case side1=>exact Q88);(case side2=>exact Q114);rintro e w10 ⟨rfl,hi,hb,hk⟩;refine ⟨_,rfl,?_⟩;replace HO_5:=am (Kd.R_mono (Kd.R_keep (IsS87.apart (show IsS87 w0 _ g s0_0 x1001_1 from by repeat (first|(with_reducible first|exact HI0.out|apply IsS87.alloc|apply IsS87.drewN|apply IsS87.drew|apply IsS87.set_1)|exact HI0.out)) Q21 Q0) hk (fun _ h=>h.2)) (fun _ h=>h.1));replace HK:=am (KeepBut.trans Q87 hk (.inl rfl));replace HB:=am (hb);replace HI0:=am (hi);(try clear hb hk hi))|((with_reducible refine gate_builtin (b:=.append) (xs:=#[.tmp 16,.tmp 19]) rfl ?_);at_builtin;refine Kd.R_append k36 w.heap.size rfl (.tmp 16) (.tmp 19) 24 36 (.agg #[(.int .i64 0),(.int .i64 0)]) 16 rfl Try.underlying24 info36 rfl Q0 (by omega) u5 x5_1 (⟨t288,t289⟩ : S36) [.int .i64 t288,.int .i64 t289] (fun _=>True) (fun _=>False) rfl rfl ?aP (fun _ hk=>hk.elim) ?aF ?aO (Below.refl _ _) ?aS ?aL ?_;(case aP=>exact k36_mkM _ _ _ (⟨t288,t289⟩ : S36));(case aF=>exact (fun _ _=>trivial));(case aO=>exact Q21);(case aS=>exact (keep_size (w:=w) (g:=g) (row:=none) Q87));(case aL=>have:=LMc9.out;omega);intro v292 w11 ho hb hg hat;rw [← Ny291.out] at ho;replace HB:=am (below_weaken Q114 HL.out hb);replace HI0:=am (IsS87.grown (show IsS87 w0 _ g s0_0 t290 from by repeat (first|(with_reducible first|exact HI0.out|apply IsS87.alloc|apply IsS87.drewN|apply IsS87.drew|apply IsS87.set_1)|exact HI0.out)) hg (IsS87.own_ne HI0.out HO_5.out Q0));replace HK:=am (KeepBut.trans Q87 (KeepBut.of_grown hg g) (Kd.R_base2 HO_5.out));have HO293:=am (ho);clear HO_5;clear ho hb hg hat))
    go_roundg k1
    case measure=>have:=HK1.out;omega
    case rel=>exact ⟨(y291),(wrap64 (x6_1 - 1)),(t290),Q7,H',⟨Q3⟩,⟨by (with_reducible repeat (first|apply Kd.R_alloc|apply Kd.R_drewN|apply Kd.R_drew));exact HO293.out⟩,⟨Q88⟩,⟨Q87⟩,⟨Q114⟩⟩
   ·rw [if_neg c7] at H
    have c7b0 : decide (0 < x6_1) = false:=decide_eq_false c7
    clear c7
    simp only [Option.some.injEq,Prod.mk.injEq] at H
    obtain ⟨rfl,rfl⟩:=H
    go_wp2
    go_ret
    exact ⟨_,Q18,Q21,Q88,Q114,Q87⟩
def spec_l71Front.f (k : Nat) (s0_0 : List Int) (s0_1 : Int) : Option ((List (S36)) × Int) := (spec_l71Times.f k s0_0 s0_1 4).bind fun bt294 => ((spec_FrontOf.f k bt294.1).bind fun t298 => (some (t298, bt294.2)))
set_option maxHeartbeats 8000000 in
set_option maxRecDepth 100000 in
theorem spec_l71Front.calls (k : Nat) (g : Nat) (s0_0 : List Int) (s0_1 : Int) (r1 : List (S36)) (r2 : Int) (w0 w : World) (hI : IsS87 w0 w g s0_0 s0_1) (hB : Below w0.heap.size w0 w) (h : spec_l71Front.f k s0_0 s0_1 = some (r1,r2)) :
  Calls Try.prog 82 #[.pointer (some ⟨g,0,none⟩)] w fun e w'=>∃ v0_ : Value,e = .returned (v0_) ∧ Kd.R k36 36 w' w.heap.size (fun _=>True) v0_ r1 ∧ IsS87 w0 w' g s0_0 r2 ∧ Below w0.heap.size w0 w' ∧ KeepBut w w' g none:=by
 have HI0:=Aside0.mk hI
 have HK:=am (KeepBut.refl w g none)
 have HL:=Aside0.mk hB.size
 clear hI
 have HW0:=Aside0.mk hB.size
 have HB:=Aside0.mk hB
 clear hB
 have H : ((spec_l71Times.f k s0_0 s0_1 4).bind fun bt294=>((spec_FrontOf.f k bt294.1).bind fun t298=>(some (t298,bt294.2)))) = some (r1,r2):=h
 clear h
 replace H:=Option.bind_eq_some_iff.mp H
 obtain ⟨⟨t294,t297⟩,A20,H⟩:=H
 replace H : ((spec_FrontOf.f k t294).bind fun t298=>(some (t298,t297))) = some (r1,r2):=H
 have A2:=Aside0.mk A20
 clear A20
 replace H:=Option.bind_eq_some_iff.mp H
 obtain ⟨t298,A30,H⟩:=H
 replace H : (some (t298,t297)) = some (r1,r2):=H
 have A3:=Aside0.mk A30
 clear A30
 simp only [Option.some.injEq,Prod.mk.injEq] at H
 obtain ⟨rfl,rfl⟩:=H
 go_enter Try.func82,Try.ntmps82
 go_wp2_with (first|((with_reducible refine gate_callee (f:=95) rfl ?_);refine goesL_ (some 4) rfl rfl Try.func95 Q1 rfl #[.pointer (some ⟨g,0,none⟩),.int .i64 4] rfl Q84 ?_;(with_reducible refine (spec_l71Times.calls k g s0_0 s0_1 4 t294 t297 w0 _ ?side1 ?side2 A2.out).mono ?_);(case side1=>exact Q88);(case side2=>exact Q114);rintro e w4 ⟨v295,rfl,ho0,hi,hb,hk⟩;refine ⟨_,rfl,?_⟩;have HO296:=am (Kd.R_lower ho0 (keep_size (w:=w) (g:=g) (row:=none) Q87));replace HK:=am (KeepBut.trans Q87 hk (.inl rfl));replace HB:=am (hb);replace HI0:=am (hi);(try clear hb hk hi ho0);obtain ⟨Ao5,co5,eo5⟩:=Kd.R_slice HO296.out;subst eo5)|((with_reducible refine gate_callee (f:=94) rfl ?_);refine goesL_ (some 5) rfl rfl Try.func94 Q1 rfl #[.slice Ao5 t294.length co5] rfl Q84 ?_;(with_reducible refine (spec_FrontOf.calls k _ _ t294 t298 _ ?side1 ?side2 A3.out).mono ?_);(case side1=>exact (by repeat (first|exact (Kd.R_reads' HO296.out).2.2|(with_reducible refine Kd.C_alloc ?_ _)|(with_reducible refine Kd.C_drewN ?_ _)|(with_reducible refine Kd.C_drew ?_))));(case side2=>exact (Kd.R_reads' HO296.out).2.1);rintro e w6 ⟨v299,rfl,ho0,hb⟩;refine ⟨_,rfl,?_⟩;have HO300:=am (Kd.R_lower (Kd.R_new' ho0 (Kd.R_lt (by (with_reducible repeat (first|apply Kd.R_alloc|apply Kd.R_drewN|apply Kd.R_drew));exact HO296.out))) (keep_size (w:=w) (g:=g) (row:=none) Q87));replace HO296:=am (Kd.R_elder' (by (with_reducible repeat (first|apply Kd.R_alloc|apply Kd.R_drewN|apply Kd.R_drew));exact HO296.out) (Kd.R_base ho0) hb);replace HK:=am (KeepBut.trans Q87 (KeepBut.of_below hb g none) (.inl rfl));replace HB:=am (below_step Q114 hb);replace HI0:=am (IsS87.below Q88 hb);(try clear hb ho0)))
 go_ret
 exact ⟨_,Q18,by (with_reducible repeat (first|apply Kd.R_alloc|apply Kd.R_drewN|apply Kd.R_drew));exact Kd.R_mono HO300.out (fun _ hk=>trivial),Q88,Q114,Q87⟩
def spec_l71Odd.f (k : Nat) (s0_0 : List Int) (s0_1 : Int) : Option (Int × Int × Int) := (spec_l71Time.f k s0_0 s0_1).bind fun bt302 => ((spec_l6Rd_pick.f k s0_0 bt302.2.2 16).bind fun bt306 => (if bt306.1 = 0 then ((some (([(-1), 8] : List Int) : List Int)).bind fun y308 => ((spec_l6Rd_pick.f k s0_0 bt306.2 2).bind fun bt311 => (if 0 ≤ bt311.1 then (if bt311.1 < (y308.length : Int) then (some (rd y308 bt311.1, bt302.2.1, bt311.2)) else (none)) else (none)))) else (if bt306.1 = 1 then ((some (([(-1), 8] : List Int) : List Int)).bind fun y314 => ((spec_l6Rd_pick.f k s0_0 bt306.2 2).bind fun bt317 => (if 0 ≤ bt317.1 then (if bt317.1 < (y314.length : Int) then (some (bt302.1, rd y314 bt317.1, bt317.2)) else (none)) else (none)))) else (some (bt302.1, bt302.2.1, bt306.2)))))
set_option maxHeartbeats 8000000 in
set_option maxRecDepth 100000 in
theorem spec_l71Odd.calls (k : Nat) (g : Nat) (s0_0 : List Int) (s0_1 : Int) (r1 : Int) (r2 : Int) (r3 : Int) (w0 w : World) (hI : IsS87 w0 w g s0_0 s0_1) (hB : Below w0.heap.size w0 w) (h : spec_l71Odd.f k s0_0 s0_1 = some (r1,r2,r3)) :
  Calls Try.prog 83 #[.pointer (some ⟨g,0,none⟩)] w fun e w'=>e = .returned (.agg #[.int .i64 r1,.int .i64 r2]) ∧ IsS87 w0 w' g s0_0 r3 ∧ Below w0.heap.size w0 w' ∧ KeepBut w w' g none:=by
 have hu36:=Try.underlying36
 have HI0:=Aside0.mk hI
 have HK:=am (KeepBut.refl w g none)
 have HL:=Aside0.mk hB.size
 clear hI
 have HW0:=Aside0.mk hB.size
 have HB:=Aside0.mk hB
 clear hB
 have H : ((spec_l71Time.f k s0_0 s0_1).bind fun bt302=>((spec_l6Rd_pick.f k s0_0 bt302.2.2 16).bind fun bt306=>(if bt306.1 = 0 then ((some (([(-1),8] : List Int) : List Int)).bind fun y308=>((spec_l6Rd_pick.f k s0_0 bt306.2 2).bind fun bt311=>(if 0 ≤ bt311.1 then (if bt311.1 < (y308.length : Int) then (some (rd y308 bt311.1,bt302.2.1,bt311.2)) else (none)) else (none)))) else (if bt306.1 = 1 then ((some (([(-1),8] : List Int) : List Int)).bind fun y314=>((spec_l6Rd_pick.f k s0_0 bt306.2 2).bind fun bt317=>(if 0 ≤ bt317.1 then (if bt317.1 < (y314.length : Int) then (some (bt302.1,rd y314 bt317.1,bt317.2)) else (none)) else (none)))) else (some (bt302.1,bt302.2.1,bt306.2)))))) = some (r1,r2,r3):=h
 clear h
 replace H:=Option.bind_eq_some_iff.mp H
 obtain ⟨⟨t302,t303,t304⟩,A20,H⟩:=H
 replace H : ((spec_l6Rd_pick.f k s0_0 t304 16).bind fun bt306=>(if bt306.1 = 0 then ((some (([(-1),8] : List Int) : List Int)).bind fun y308=>((spec_l6Rd_pick.f k s0_0 bt306.2 2).bind fun bt311=>(if 0 ≤ bt311.1 then (if bt311.1 < (y308.length : Int) then (some (rd y308 bt311.1,t303,bt311.2)) else (none)) else (none)))) else (if bt306.1 = 1 then ((some (([(-1),8] : List Int) : List Int)).bind fun y314=>((spec_l6Rd_pick.f k s0_0 bt306.2 2).bind fun bt317=>(if 0 ≤ bt317.1 then (if bt317.1 < (y314.length : Int) then (some (t302,rd y314 bt317.1,bt317.2)) else (none)) else (none)))) else (some (t302,t303,bt306.2))))) = some (r1,r2,r3):=H
 have A2:=Aside0.mk A20
 clear A20
 replace H:=Option.bind_eq_some_iff.mp H
 obtain ⟨⟨t306,t307⟩,A30,H⟩:=H
 replace H : (if t306 = 0 then ((some (([(-1),8] : List Int) : List Int)).bind fun y308=>((spec_l6Rd_pick.f k s0_0 t307 2).bind fun bt311=>(if 0 ≤ bt311.1 then (if bt311.1 < (y308.length : Int) then (some (rd y308 bt311.1,t303,bt311.2)) else (none)) else (none)))) else (if t306 = 1 then ((some (([(-1),8] : List Int) : List Int)).bind fun y314=>((spec_l6Rd_pick.f k s0_0 t307 2).bind fun bt317=>(if 0 ≤ bt317.1 then (if bt317.1 < (y314.length : Int) then (some (t302,rd y314 bt317.1,bt317.2)) else (none)) else (none)))) else (some (t302,t303,t307)))) = some (r1,r2,r3):=H
 have A3:=Aside0.mk A30
 clear A30
 by_cases c4 : t306 = 0
 ·rw [if_pos c4] at H
  have c4b0 : (t306 == 0) = true:=beq_iff_eq.mpr c4
  have c4b1 : (t306 != 0) = false:=bne_eq_false_iff_eq.mpr c4
  clear c4
  obtain ⟨y308,hy_⟩ : ∃ y_ : List Int,y_ = (([(-1),8] : List Int)):=⟨_,rfl⟩
  replace H : ((spec_l6Rd_pick.f k s0_0 t307 2).bind fun bt311=>(if 0 ≤ bt311.1 then (if bt311.1 < (y308.length : Int) then (some (rd y308 bt311.1,t303,bt311.2)) else (none)) else (none))) = some (r1,r2,r3):=Q162
  have Ny308:=Aside0.mk hy_
  clear hy_
  replace H:=Option.bind_eq_some_iff.mp H
  obtain ⟨⟨t311,t312⟩,A50,H⟩:=H
  replace H : (if 0 ≤ t311 then (if t311 < (y308.length : Int) then (some (rd y308 t311,t303,t312)) else (none)) else (none)) = some (r1,r2,r3):=H
  have A5:=Aside0.mk A50
  clear A50
  have c6 : 0 ≤ t311:=nn_ H
  rw [if_pos c6] at H
  have c6b0 : decide (0 ≤ t311) = true:=decide_eq_true c6
  clear c6
  have c7 : t311 < (y308.length : Int):=nn_ H
  rw [if_pos c7] at H
  have c7b0 : decide (t311 < (y308.length : Int)) = true:=decide_eq_true c7
  clear c7
  simp only [Option.some.injEq,Prod.mk.injEq] at H
  obtain ⟨rfl,rfl,rfl⟩:=H
  go_enter Try.func83,Try.ntmps83
  go_wp2_with (first|((with_reducible refine gate_dst (N:=2) rfl ?_);refine bE_ 2 #[.int .i64 0,.int .i64 0] 36 ?_;intro gb301 hg w8 hbox hb;replace HB:=am (below_step Q114 hb);have BK301:=am (hbox);have GW301:=am ((Q174 : w.heap.size ≤ gb301));have GE301:=am ((Nat.le_trans HW0.out (Q174 : w.heap.size ≤ gb301) : w0.heap.size ≤ gb301));replace HK:=am (KeepBut.trans Q87 (KeepBut.of_below hb g none) (.inl rfl));have NB0_301:=am ((by rw [hg];exact Nat.ne_of_lt (IsS87.lt (show IsS87 w0 _ g s0_0 s0_1 from by repeat (first|(with_reducible first|exact HI0.out|apply IsS87.alloc|apply IsS87.drewN|apply IsS87.drew|apply IsS87.set_1)|exact HI0.out))) : g ≠ gb301));have NB301_0:=am ((by rw [hg];exact Nat.ne_of_gt (IsS87.lt (show IsS87 w0 _ g s0_0 s0_1 from by repeat (first|(with_reducible first|exact HI0.out|apply IsS87.alloc|apply IsS87.drewN|apply IsS87.drew|apply IsS87.set_1)|exact HI0.out))) : gb301 ≠ g));replace HI0:=am (IsS87.below Q88 hb);clear hb hbox hg)|((with_reducible refine gate_callee (f:=92) rfl ?_);refine goesL_ (some 5) rfl rfl Try.func92 Q1 rfl #[.pointer (some ⟨g,0,none⟩)] rfl Q84 ?_;(with_reducible refine (spec_l71Time.calls k g s0_0 s0_1 t302 t303 t304 w0 _ ?side1 ?side2 A2.out).mono ?_);(case side1=>exact Q132);(case side2=>exact Q148);rintro e w9 ⟨rfl,hi,hb,hk⟩;refine ⟨_,rfl,?_⟩;replace BK301:=am (KeepBut.blk hk (g':=gb301) (o:=.cells #[.int .i64 0,.int .i64 0] 36 (0,0)) Q48 NB301_0.out (by simp));replace HK:=am (KeepBut.trans Q127 hk (.inl rfl));replace HB:=am (hb);replace HI0:=am (hi);(try clear hb hk hi))|((with_reducible refine gate_dst (N:=3) rfl ?_);refine bE_ 3 #[.int .i64 0,.int .i64 0] 36 ?_;intro gb305 hg w10 hbox hb;replace HB:=am (below_step Q148 hb);have BK305:=am (hbox);have GW305:=am ((Q176 : w.heap.size ≤ gb305));have GE305:=am ((Nat.le_trans HW0.out (Q176 : w.heap.size ≤ gb305) : w0.heap.size ≤ gb305));replace HK:=am (KeepBut.trans Q127 (KeepBut.of_below hb g none) (.inl rfl));have NB301_305:=am ((Q177 : gb301 ≠ gb305));have NB305_301:=am ((Q178 : gb305 ≠ gb301));replace BK301:=am (blk_below (g:=gb301) (o:=.cells #[.int .i64 0,.int .i64 0] 36 (0,0)) Q48 hb);have NB0_305:=am ((by rw [hg];exact Nat.ne_of_lt (IsS87.lt (show IsS87 w0 _ g s0_0 t304 from by repeat (first|(with_reducible first|exact HI0.out|apply IsS87.alloc|apply IsS87.drewN|apply IsS87.drew|apply IsS87.set_1|refine IsS87.far ?_ NB0_301.out _)|exact HI0.out))) : g ≠ gb305));have NB305_0:=am ((by rw [hg];exact Nat.ne_of_gt (IsS87.lt (show IsS87 w0 _ g s0_0 t304 from by repeat (first|(with_reducible first|exact HI0.out|apply IsS87.alloc|apply IsS87.drewN|apply IsS87.drew|apply IsS87.set_1|refine IsS87.far ?_ NB0_301.out _)|exact HI0.out))) : gb305 ≠ g));replace HI0:=am (IsS87.below Q132 hb);clear hb hbox hg;have hnb11:=NB305_301.out;have hnc11:=NB301_305.out;have hnb12:=NB305_0.out;have hnc12:=NB0_305.out;obtain ⟨hcz13_0,hcz13_1,hfz13_0,hfz13_1⟩:=bx2_ BK305)|((with_reducible refine gate_callee (f:=68) rfl ?_);refine goesL_ (some 7) rfl rfl Try.func68 Q1 rfl #[.pointer (some ⟨g,0,none⟩),.int .i64 16] rfl Q84 ?_;(with_reducible refine (spec_l6Rd_pick.calls k g s0_0 t304 16 t306 t307 w0 _ ?side1 ?side2 A3.out).mono ?_);(case side1=>exact Q152);(case side2=>exact Q160);rintro e w14 ⟨rfl,hi,hb,hk⟩;refine ⟨_,rfl,?_⟩;replace BK301:=am (KeepBut.blk hk (g':=gb301) (o:=.cells #[.int .i64 0,.int .i64 0] 36 (0,0)) Q167 NB301_0.out (by simp));replace BK305:=am (KeepBut.blk hk (g':=gb305) (o:=.cells #[.int .i64 t302,.int .i64 t303] 36 (0,0)) Q168 NB305_0.out (by simp));replace HK:=am (KeepBut.trans Q150 hk (.inl rfl));replace HB:=am (hb);replace HI0:=am (hi);(try clear hb hk hi))|((with_reducible refine gate_dst (N:=10) rfl ?_);refine Kd.R_lit (Kd.int .i64) _ 3 ?hg (N:=10) ?hd (xs:=([(-1),8] : List Int)) (inner:=[.int .i64 (-1),.int .i64 8]) (ok:=fun _=>True) (okp:=fun _=>True) ?hr ?hp (fun _ hk=>hk) trivial (Below.refl _ _) (Nat.le_refl _) (by simp) ?_;(case hd=>rfl);(case hg=>rfl);(case hr=>first|(go_simp;done)|(go_simp;rfl));(case hp=>exact (Reps.one (show Kd.M (Kd.int .i64) _ _ _ (-1) [.int .i64 (-1)] from rfl) (Reps.one (show Kd.M (Kd.int .i64) _ _ _ 8 [.int .i64 8] from rfl) (Reps.none _ _))));intro v309 w15 ho16 hb hg_ hnew_;clear hg_ hnew_;(first|rw [← Ny308.out] at ho16|(simp only [Int.reduceToNat] at ho16;rw [← Ny308.out] at ho16));have HO310:=am (Kd.R_lower ho16 (keep_size (w:=w) (g:=g) (row:=none) Q150));replace BK301:=am (blk_below (g:=gb301) (o:=.cells #[.int .i64 0,.int .i64 0] 36 (0,0)) Q48 hb);replace BK305:=am (blk_below (g:=gb305) (o:=.cells #[.int .i64 t302,.int .i64 t303] 36 (0,0)) Q49 hb);replace HK:=am (KeepBut.trans Q150 (KeepBut.of_below hb g none) (.inl rfl));replace HB:=am (below_step Q160 hb);replace HI0:=am (IsS87.below Q152 hb);clear hb ho16)|((with_reducible refine gate_callee (f:=68) rfl ?_);refine goesL_ (some 12) rfl rfl Try.func68 Q1 rfl #[.pointer (some ⟨g,0,none⟩),.int .i64 2] rfl Q84 ?_;(with_reducible refine (spec_l6Rd_pick.calls k g s0_0 t307 2 t311 t312 w0 _ ?side1 ?side2 A5.out).mono ?_);(case side1=>exact Q152);(case side2=>exact Q160);rintro e w17 ⟨rfl,hi,hb,hk⟩;refine ⟨_,rfl,?_⟩;replace BK301:=am (KeepBut.blk hk (g':=gb301) (o:=.cells #[.int .i64 0,.int .i64 0] 36 (0,0)) Q48 NB301_0.out (by simp));replace BK305:=am (KeepBut.blk hk (g':=gb305) (o:=.cells #[.int .i64 t302,.int .i64 t303] 36 (0,0)) Q49 NB305_0.out (by simp));replace HO310:=am (Kd.R_mono (Kd.R_keep (IsS87.apart (show IsS87 w0 _ g s0_0 t307 from by repeat (first|(with_reducible first|exact HI0.out|apply IsS87.alloc|apply IsS87.drewN|apply IsS87.drew|apply IsS87.set_1|refine IsS87.far ?_ NB0_301.out _|refine IsS87.far ?_ NB0_305.out _)|exact HI0.out)) (by (with_reducible repeat (first|apply Kd.R_alloc|apply Kd.R_drewN|apply Kd.R_drew));exact HO310.out) Q0) hk (fun _ h=>h.2)) (fun _ h=>h.1));replace HK:=am (KeepBut.trans Q150 hk (.inl rfl));replace HB:=am (hb);replace HI0:=am (hi);(try clear hb hk hi);obtain ⟨Ao18,co18,eo18⟩:=Kd.R_slice HO310.out;subst eo18;have p313 : 0 ≤ (t311 : Int):=of_decide_eq_true Q8;have q313 : t311 < (y308.length : Int):=of_decide_eq_true Q8;obtain ⟨ad313,e313,hx313_0⟩:=Kd.at_int (Kd.R_reads' HO310.out).2.2 t311 p313 q313;cases e313;replace p313:=eq_true p313;replace q313:=eq_true q313;obtain ⟨hcz19_0,hcz19_1,hfz19_0,hfz19_1⟩:=bx2_ BK305;have hnb20:=NB301_0.out;have hnc20:=NB0_301.out;obtain ⟨hcz21_0,hcz21_1,hfz21_0,hfz21_1⟩:=bx2_ BK301))
  refine bodyPost_ret (results_cell_row rfl _ _ gb301 36 #[.int .i64 (rd y308 t311),.int .i64 t303] (0,0) _ rfl (by (with_reducible repeat (first|refine blk_drewN ?_ _|refine blk_drew ?_|refine blk_alloc ?_ _));refine blk_put (cs:=#[.int .i64 (rd y308 t311),.int .i64 0]) ?_ 1 _ rfl;(with_reducible repeat (first|refine blk_drewN ?_ _|refine blk_drew ?_|refine blk_alloc ?_ _));refine blk_put (cs:=#[.int .i64 0,.int .i64 0]) ?_ 0 _ rfl;(with_reducible repeat (first|refine blk_drewN ?_ _|refine blk_drew ?_|refine blk_alloc ?_ _));refine blk_far ?_ NB301_305.out _;(with_reducible repeat (first|refine blk_drewN ?_ _|refine blk_drew ?_|refine blk_alloc ?_ _));exact BK301.out) Try.underlying36 rfl Q1) rfl ?_
  exact ⟨Q18,Q152,Q160,Q150⟩
 ·rw [if_neg c4] at H
  have c4b0 : (t306 == 0) = false:=beq_eq_false_iff_ne.mpr c4
  have c4b1 : (t306 != 0) = true:=bne_iff_ne.mpr c4
  by_cases c22 : t306 = 1
  ·rw [if_pos c22] at H
   have c22b0 : (t306 == 1) = true:=beq_iff_eq.mpr c22
   have c22b1 : (t306 != 1) = false:=bne_eq_false_iff_eq.mpr c22
   clear c22
   obtain ⟨y314,hy_⟩ : ∃ y_ : List Int,y_ = (([(-1),8] : List Int)):=⟨_,rfl⟩
   replace H : ((spec_l6Rd_pick.f k s0_0 t307 2).bind fun bt317=>(if 0 ≤ bt317.1 then (if bt317.1 < (y314.length : Int) then (some (t302,rd y314 bt317.1,bt317.2)) else (none)) else (none))) = some (r1,r2,r3):=Q162
   have Ny314:=Aside0.mk hy_
   clear hy_
   replace H:=Option.bind_eq_some_iff.mp H
   obtain ⟨⟨t317,t318⟩,A230,H⟩:=H
   replace H : (if 0 ≤ t317 then (if t317 < (y314.length : Int) then (some (t302,rd y314 t317,t318)) else (none)) else (none)) = some (r1,r2,r3):=H
   have A23:=Aside0.mk A230
   clear A230
   have c24 : 0 ≤ t317:=nn_ H
   rw [if_pos c24] at H
   have c24b0 : decide (0 ≤ t317) = true:=decide_eq_true c24
   clear c24
   have c25 : t317 < (y314.length : Int):=nn_ H
   rw [if_pos c25] at H
   have c25b0 : decide (t317 < (y314.length : Int)) = true:=decide_eq_true c25
   clear c25
   simp only [Option.some.injEq,Prod.mk.injEq] at H
   obtain ⟨rfl,rfl,rfl⟩:=H
   go_enter Try.func83,Try.ntmps83
   go_wp2_with (first|((with_reducible refine gate_dst (N:=2) rfl ?_);refine bE_ 2 #[.int .i64 0,.int .i64 0] 36 ?_;intro gb301 hg w26 hbox hb;replace HB:=am (below_step Q114 hb);have BK301:=am (hbox);have GW301:=am ((Q174 : w.heap.size ≤ gb301));have GE301:=am ((Nat.le_trans HW0.out (Q174 : w.heap.size ≤ gb301) : w0.heap.size ≤ gb301));replace HK:=am (KeepBut.trans Q87 (KeepBut.of_below hb g none) (.inl rfl));have NB0_301:=am ((by rw [hg];exact Nat.ne_of_lt (IsS87.lt (show IsS87 w0 _ g s0_0 s0_1 from by repeat (first|(with_reducible first|exact HI0.out|apply IsS87.alloc|apply IsS87.drewN|apply IsS87.drew|apply IsS87.set_1)|exact HI0.out))) : g ≠ gb301));have NB301_0:=am ((by rw [hg];exact Nat.ne_of_gt (IsS87.lt (show IsS87 w0 _ g s0_0 s0_1 from by repeat (first|(with_reducible first|exact HI0.out|apply IsS87.alloc|apply IsS87.drewN|apply IsS87.drew|apply IsS87.set_1)|exact HI0.out))) : gb301 ≠ g));replace HI0:=am (IsS87.below Q88 hb);clear hb hbox hg)|((with_reducible refine gate_callee (f:=92) rfl ?_);refine goesL_ (some 5) rfl rfl Try.func92 Q1 rfl #[.pointer (some ⟨g,0,none⟩)] rfl Q84 ?_;(with_reducible refine (spec_l71Time.calls k g s0_0 s0_1 t302 t303 t304 w0 _ ?side1 ?side2 A2.out).mono ?_);(case side1=>exact Q132);(case side2=>exact Q148);rintro e w27 ⟨rfl,hi,hb,hk⟩;refine ⟨_,rfl,?_⟩;replace BK301:=am (KeepBut.blk hk (g':=gb301) (o:=.cells #[.int .i64 0,.int .i64 0] 36 (0,0)) Q48 NB301_0.out (by simp));replace HK:=am (KeepBut.trans Q127 hk (.inl rfl));replace HB:=am (hb);replace HI0:=am (hi);(try clear hb hk hi))|((with_reducible refine gate_dst (N:=3) rfl ?_);refine bE_ 3 #[.int .i64 0,.int .i64 0] 36 ?_;intro gb305 hg w28 hbox hb;replace HB:=am (below_step Q148 hb);have BK305:=am (hbox);have GW305:=am ((Q176 : w.heap.size ≤ gb305));have GE305:=am ((Nat.le_trans HW0.out (Q176 : w.heap.size ≤ gb305) : w0.heap.size ≤ gb305));replace HK:=am (KeepBut.trans Q127 (KeepBut.of_below hb g none) (.inl rfl));have NB301_305:=am ((Q177 : gb301 ≠ gb305));have NB305_301:=am ((Q178 : gb305 ≠ gb301));replace BK301:=am (blk_below (g:=gb301) (o:=.cells #[.int .i64 0,.int .i64 0] 36 (0,0)) Q48 hb);have NB0_305:=am ((by rw [hg];exact Nat.ne_of_lt (IsS87.lt (show IsS87 w0 _ g s0_0 t304 from by repeat (first|(with_reducible first|exact HI0.out|apply IsS87.alloc|apply IsS87.drewN|apply IsS87.drew|apply IsS87.set_1|refine IsS87.far ?_ NB0_301.out _)|exact HI0.out))) : g ≠ gb305));have NB305_0:=am ((by rw [hg];exact Nat.ne_of_gt (IsS87.lt (show IsS87 w0 _ g s0_0 t304 from by repeat (first|(with_reducible first|exact HI0.out|apply IsS87.alloc|apply IsS87.drewN|apply IsS87.drew|apply IsS87.set_1|refine IsS87.far ?_ NB0_301.out _)|exact HI0.out))) : gb305 ≠ g));replace HI0:=am (IsS87.below Q132 hb);clear hb hbox hg;have hnb29:=NB305_301.out;have hnc29:=NB301_305.out;have hnb30:=NB305_0.out;have hnc30:=NB0_305.out;obtain ⟨hcz31_0,hcz31_1,hfz31_0,hfz31_1⟩:=bx2_ BK305)|((with_reducible refine gate_callee (f:=68) rfl ?_);refine goesL_ (some 7) rfl rfl Try.func68 Q1 rfl #[.pointer (some ⟨g,0,none⟩),.int .i64 16] rfl Q84 ?_;(with_reducible refine (spec_l6Rd_pick.calls k g s0_0 t304 16 t306 t307 w0 _ ?side1 ?side2 A3.out).mono ?_);(case side1=>exact Q152);(case side2=>exact Q160);rintro e w32 ⟨rfl,hi,hb,hk⟩;refine ⟨_,rfl,?_⟩;replace BK301:=am (KeepBut.blk hk (g':=gb301) (o:=.cells #[.int .i64 0,.int .i64 0] 36 (0,0)) Q167 NB301_0.out (by simp));replace BK305:=am (KeepBut.blk hk (g':=gb305) (o:=.cells #[.int .i64 t302,.int .i64 t303] 36 (0,0)) Q168 NB305_0.out (by simp));replace HK:=am (KeepBut.trans Q150 hk (.inl rfl));replace HB:=am (hb);replace HI0:=am (hi);(try clear hb hk hi))|((with_reducible refine gate_dst (N:=18) rfl ?_);refine Kd.R_lit (Kd.int .i64) _ 3 ?hg (N:=18) ?hd (xs:=([(-1),8] : List Int)) (inner:=[.int .i64 (-1),.int .i64 8]) (ok:=fun _=>True) (okp:=fun _=>True) ?hr ?hp (fun _ hk=>hk) trivial (Below.refl _ _) (Nat.le_refl _) (by simp) ?_;(case hd=>rfl);(case hg=>rfl);(case hr=>first|(go_simp;done)|(go_simp;rfl));(case hp=>exact (Reps.one (show Kd.M (Kd.int .i64) _ _ _ (-1) [.int .i64 (-1)] from rfl) (Reps.one (show Kd.M (Kd.int .i64) _ _ _ 8 [.int .i64 8] from rfl) (Reps.none _ _))));intro v315 w33 ho34 hb hg_ hnew_;clear hg_ hnew_;(first|rw [← Ny314.out] at ho34|(simp only [Int.reduceToNat] at ho34;rw [← Ny314.out] at ho34));have HO316:=am (Kd.R_lower ho34 (keep_size (w:=w) (g:=g) (row:=none) Q150));replace BK301:=am (blk_below (g:=gb301) (o:=.cells #[.int .i64 0,.int .i64 0] 36 (0,0)) Q48 hb);replace BK305:=am (blk_below (g:=gb305) (o:=.cells #[.int .i64 t302,.int .i64 t303] 36 (0,0)) Q49 hb);replace HK:=am (KeepBut.trans Q150 (KeepBut.of_below hb g none) (.inl rfl));replace HB:=am (below_step Q160 hb);replace HI0:=am (IsS87.below Q152 hb);clear hb ho34)|((with_reducible refine gate_callee (f:=68) rfl ?_);refine goesL_ (some 20) rfl rfl Try.func68 Q1 rfl #[.pointer (some ⟨g,0,none⟩),.int .i64 2] rfl Q84 ?_;(with_reducible refine (spec_l6Rd_pick.calls k g s0_0 t307 2 t317 t318 w0 _ ?side1 ?side2 A23.out).mono ?_);(case side1=>exact Q152);(case side2=>exact Q160);rintro e w35 ⟨rfl,hi,hb,hk⟩;refine ⟨_,rfl,?_⟩;replace BK301:=am (KeepBut.blk hk (g':=gb301) (o:=.cells #[.int .i64 0,.int .i64 0] 36 (0,0)) Q48 NB301_0.out (by simp));replace BK305:=am (KeepBut.blk hk (g':=gb305) (o:=.cells #[.int .i64 t302,.int .i64 t303] 36 (0,0)) Q49 NB305_0.out (by simp));replace HO316:=am (Kd.R_mono (Kd.R_keep (IsS87.apart (show IsS87 w0 _ g s0_0 t307 from by repeat (first|(with_reducible first|exact HI0.out|apply IsS87.alloc|apply IsS87.drewN|apply IsS87.drew|apply IsS87.set_1|refine IsS87.far ?_ NB0_301.out _|refine IsS87.far ?_ NB0_305.out _)|exact HI0.out)) (by (with_reducible repeat (first|apply Kd.R_alloc|apply Kd.R_drewN|apply Kd.R_drew));exact HO316.out) Q0) hk (fun _ h=>h.2)) (fun _ h=>h.1));replace HK:=am (KeepBut.trans Q150 hk (.inl rfl));replace HB:=am (hb);replace HI0:=am (hi);(try clear hb hk hi);obtain ⟨Ao36,co36,eo36⟩:=Kd.R_slice HO316.out;subst eo36;have p319 : 0 ≤ (t317 : Int):=of_decide_eq_true Q8;have q319 : t317 < (y314.length : Int):=of_decide_eq_true Q8;obtain ⟨ad319,e319,hx319_0⟩:=Kd.at_int (Kd.R_reads' HO316.out).2.2 t317 p319 q319;cases e319;replace p319:=eq_true p319;replace q319:=eq_true q319;obtain ⟨hcz37_0,hcz37_1,hfz37_0,hfz37_1⟩:=bx2_ BK305;have hnb38:=NB301_0.out;have hnc38:=NB0_301.out;obtain ⟨hcz39_0,hcz39_1,hfz39_0,hfz39_1⟩:=bx2_ BK301))
   refine bodyPost_ret (results_cell_row rfl _ _ gb301 36 #[.int .i64 t302,.int .i64 (rd y314 t317)] (0,0) _ rfl (by (with_reducible repeat (first|refine blk_drewN ?_ _|refine blk_drew ?_|refine blk_alloc ?_ _));refine blk_put (cs:=#[.int .i64 t302,.int .i64 0]) ?_ 1 _ rfl;(with_reducible repeat (first|refine blk_drewN ?_ _|refine blk_drew ?_|refine blk_alloc ?_ _));refine blk_put (cs:=#[.int .i64 0,.int .i64 0]) ?_ 0 _ rfl;(with_reducible repeat (first|refine blk_drewN ?_ _|refine blk_drew ?_|refine blk_alloc ?_ _));refine blk_far ?_ NB301_305.out _;(with_reducible repeat (first|refine blk_drewN ?_ _|refine blk_drew ?_|refine blk_alloc ?_ _));exact BK301.out) Try.underlying36 rfl Q1) rfl ?_
   exact ⟨Q18,Q152,Q160,Q150⟩
  ·rw [if_neg c22] at H
   have c22b0 : (t306 == 1) = false:=beq_eq_false_iff_ne.mpr c22
   have c22b1 : (t306 != 1) = true:=bne_iff_ne.mpr c22
   simp only [Option.some.injEq,Prod.mk.injEq] at H
   obtain ⟨rfl,rfl,rfl⟩:=H
   go_enter Try.func83,Try.ntmps83
   go_wp2_with (first|((with_reducible refine gate_dst (N:=2) rfl ?_);refine bE_ 2 #[.int .i64 0,.int .i64 0] 36 ?_;intro gb301 hg w40 hbox hb;replace HB:=am (below_step Q114 hb);have BK301:=am (hbox);have GW301:=am ((Q174 : w.heap.size ≤ gb301));have GE301:=am ((Nat.le_trans HW0.out (Q174 : w.heap.size ≤ gb301) : w0.heap.size ≤ gb301));replace HK:=am (KeepBut.trans Q87 (KeepBut.of_below hb g none) (.inl rfl));have NB0_301:=am ((by rw [hg];exact Nat.ne_of_lt (IsS87.lt (show IsS87 w0 _ g s0_0 s0_1 from by repeat (first|(with_reducible first|exact HI0.out|apply IsS87.alloc|apply IsS87.drewN|apply IsS87.drew|apply IsS87.set_1)|exact HI0.out))) : g ≠ gb301));have NB301_0:=am ((by rw [hg];exact Nat.ne_of_gt (IsS87.lt (show IsS87 w0 _ g s0_0 s0_1 from by repeat (first|(with_reducible first|exact HI0.out|apply IsS87.alloc|apply IsS87.drewN|apply IsS87.drew|apply IsS87.set_1)|exact HI0.out))) : gb301 ≠ g));replace HI0:=am (IsS87.below Q88 hb);clear hb hbox hg)|((with_reducible refine gate_callee (f:=92) rfl ?_);refine goesL_ (some 5) rfl rfl Try.func92 Q1 rfl #[.pointer (some ⟨g,0,none⟩)] rfl Q84 ?_;(with_reducible refine (spec_l71Time.calls k g s0_0 s0_1 t302 t303 t304 w0 _ ?side1 ?side2 A2.out).mono ?_);(case side1=>exact Q132);(case side2=>exact Q148);rintro e w41 ⟨rfl,hi,hb,hk⟩;refine ⟨_,rfl,?_⟩;replace BK301:=am (KeepBut.blk hk (g':=gb301) (o:=.cells #[.int .i64 0,.int .i64 0] 36 (0,0)) Q48 NB301_0.out (by simp));replace HK:=am (KeepBut.trans Q127 hk (.inl rfl));replace HB:=am (hb);replace HI0:=am (hi);(try clear hb hk hi))|((with_reducible refine gate_dst (N:=3) rfl ?_);refine bE_ 3 #[.int .i64 0,.int .i64 0] 36 ?_;intro gb305 hg w42 hbox hb;replace HB:=am (below_step Q148 hb);have BK305:=am (hbox);have GW305:=am ((Q176 : w.heap.size ≤ gb305));have GE305:=am ((Nat.le_trans HW0.out (Q176 : w.heap.size ≤ gb305) : w0.heap.size ≤ gb305));replace HK:=am (KeepBut.trans Q127 (KeepBut.of_below hb g none) (.inl rfl));have NB301_305:=am ((Q177 : gb301 ≠ gb305));have NB305_301:=am ((Q178 : gb305 ≠ gb301));replace BK301:=am (blk_below (g:=gb301) (o:=.cells #[.int .i64 0,.int .i64 0] 36 (0,0)) Q48 hb);have NB0_305:=am ((by rw [hg];exact Nat.ne_of_lt (IsS87.lt (show IsS87 w0 _ g s0_0 t304 from by repeat (first|(with_reducible first|exact HI0.out|apply IsS87.alloc|apply IsS87.drewN|apply IsS87.drew|apply IsS87.set_1|refine IsS87.far ?_ NB0_301.out _)|exact HI0.out))) : g ≠ gb305));have NB305_0:=am ((by rw [hg];exact Nat.ne_of_gt (IsS87.lt (show IsS87 w0 _ g s0_0 t304 from by repeat (first|(with_reducible first|exact HI0.out|apply IsS87.alloc|apply IsS87.drewN|apply IsS87.drew|apply IsS87.set_1|refine IsS87.far ?_ NB0_301.out _)|exact HI0.out))) : gb305 ≠ g));replace HI0:=am (IsS87.below Q132 hb);clear hb hbox hg;have hnb43:=NB305_301.out;have hnc43:=NB301_305.out;have hnb44:=NB305_0.out;have hnc44:=NB0_305.out;obtain ⟨hcz45_0,hcz45_1,hfz45_0,hfz45_1⟩:=bx2_ BK305)|((with_reducible refine gate_callee (f:=68) rfl ?_);refine goesL_ (some 7) rfl rfl Try.func68 Q1 rfl #[.pointer (some ⟨g,0,none⟩),.int .i64 16] rfl Q84 ?_;(with_reducible refine (spec_l6Rd_pick.calls k g s0_0 t304 16 t306 t307 w0 _ ?side1 ?side2 A3.out).mono ?_);(case side1=>exact Q152);(case side2=>exact Q160);rintro e w46 ⟨rfl,hi,hb,hk⟩;refine ⟨_,rfl,?_⟩;replace BK301:=am (KeepBut.blk hk (g':=gb301) (o:=.cells #[.int .i64 0,.int .i64 0] 36 (0,0)) Q167 NB301_0.out (by simp));replace BK305:=am (KeepBut.blk hk (g':=gb305) (o:=.cells #[.int .i64 t302,.int .i64 t303] 36 (0,0)) Q168 NB305_0.out (by simp));replace HK:=am (KeepBut.trans Q150 hk (.inl rfl));replace HB:=am (hb);replace HI0:=am (hi);(try clear hb hk hi);obtain ⟨hcz47_0,hcz47_1,hfz47_0,hfz47_1⟩:=bx2_ BK305;have hnb48:=NB301_0.out;have hnc48:=NB0_301.out;obtain ⟨hcz49_0,hcz49_1,hfz49_0,hfz49_1⟩:=bx2_ BK301))
   refine bodyPost_ret (results_cell_row rfl _ _ gb301 36 #[.int .i64 t302,.int .i64 t303] (0,0) _ rfl (by (with_reducible repeat (first|refine blk_drewN ?_ _|refine blk_drew ?_|refine blk_alloc ?_ _));refine blk_put (cs:=#[.int .i64 t302,.int .i64 0]) ?_ 1 _ rfl;(with_reducible repeat (first|refine blk_drewN ?_ _|refine blk_drew ?_|refine blk_alloc ?_ _));refine blk_put (cs:=#[.int .i64 0,.int .i64 0]) ?_ 0 _ rfl;(with_reducible repeat (first|refine blk_drewN ?_ _|refine blk_drew ?_|refine blk_alloc ?_ _));exact BK301.out) Try.underlying36 rfl Q1) rfl ?_
   exact ⟨Q18,Q152,Q160,Q150⟩
def spec_l71Some.f (k : Nat) (s0_0 : List Int) (s0_1 : Int) : Option ((List (S36)) × Int) := (spec_l71Front.f k s0_0 s0_1).bind fun bt320 => ((spec_l6Rd_pick.f k s0_0 bt320.2 12).bind fun bt324 => (if bt324.1 = 0 then ((spec_l71Odd.f k s0_0 bt324.2).bind fun bt326 => (if bt320.1.length < 8796093022208 then (some ((bt320.1 ++ [(⟨bt326.1, bt326.2.1⟩ : S36)]), bt326.2.2)) else (none))) else (some (bt320.1, bt324.2))))
set_option maxHeartbeats 8000000 in
set_option maxRecDepth 100000 in
theorem spec_l71Some.calls (k : Nat) (g : Nat) (s0_0 : List Int) (s0_1 : Int) (r1 : List (S36)) (r2 : Int) (w0 w : World) (hI : IsS87 w0 w g s0_0 s0_1) (hB : Below w0.heap.size w0 w) (h : spec_l71Some.f k s0_0 s0_1 = some (r1,r2)) :
  Calls Try.prog 52 #[.pointer (some ⟨g,0,none⟩)] w fun e w'=>∃ v0_ : Value,e = .returned (v0_) ∧ Kd.R k36 36 w' w.heap.size (fun _=>True) v0_ r1 ∧ IsS87 w0 w' g s0_0 r2 ∧ Below w0.heap.size w0 w' ∧ KeepBut w w' g none:=by
 have HI0:=Aside0.mk hI
 have HK:=am (KeepBut.refl w g none)
 have HL:=Aside0.mk hB.size
 clear hI
 have HW0:=Aside0.mk hB.size
 have HB:=Aside0.mk hB
 clear hB
 have H : ((spec_l71Front.f k s0_0 s0_1).bind fun bt320=>((spec_l6Rd_pick.f k s0_0 bt320.2 12).bind fun bt324=>(if bt324.1 = 0 then ((spec_l71Odd.f k s0_0 bt324.2).bind fun bt326=>(if bt320.1.length < 8796093022208 then (some ((bt320.1 ++ [(⟨bt326.1,bt326.2.1⟩ : S36)]),bt326.2.2)) else (none))) else (some (bt320.1,bt324.2))))) = some (r1,r2):=h
 clear h
 replace H:=Option.bind_eq_some_iff.mp H
 obtain ⟨⟨t320,t323⟩,A20,H⟩:=H
 replace H : ((spec_l6Rd_pick.f k s0_0 t323 12).bind fun bt324=>(if bt324.1 = 0 then ((spec_l71Odd.f k s0_0 bt324.2).bind fun bt326=>(if t320.length < 8796093022208 then (some ((t320 ++ [(⟨bt326.1,bt326.2.1⟩ : S36)]),bt326.2.2)) else (none))) else (some (t320,bt324.2)))) = some (r1,r2):=H
 have A2:=Aside0.mk A20
 clear A20
 replace H:=Option.bind_eq_some_iff.mp H
 obtain ⟨⟨t324,t325⟩,A30,H⟩:=H
 replace H : (if t324 = 0 then ((spec_l71Odd.f k s0_0 t325).bind fun bt326=>(if t320.length < 8796093022208 then (some ((t320 ++ [(⟨bt326.1,bt326.2.1⟩ : S36)]),bt326.2.2)) else (none))) else (some (t320,t325))) = some (r1,r2):=H
 have A3:=Aside0.mk A30
 clear A30
 by_cases c4 : t324 = 0
 ·rw [if_pos c4] at H
  have c4b0 : (t324 == 0) = true:=beq_iff_eq.mpr c4
  have c4b1 : (t324 != 0) = false:=bne_eq_false_iff_eq.mpr c4
  clear c4
  replace H:=Option.bind_eq_some_iff.mp H
  obtain ⟨⟨t326,t327,t328⟩,A50,H⟩:=H
  replace H : (if t320.length < 8796093022208 then (some ((t320 ++ [(⟨t326,t327⟩ : S36)]),t328)) else (none)) = some (r1,r2):=H
  have A5:=Aside0.mk A50
  clear A50
  have c6 : t320.length < 8796093022208:=nn_ H
  rw [if_pos c6] at H
  have LMc6:=Aside0.mk c6
  clear c6
  obtain ⟨y329,hy_⟩ : ∃ y_ : List (S36),y_ = (t320 ++ [(⟨t326,t327⟩ : S36)]):=⟨_,rfl⟩
  replace H : (some (y329,t328)) = some (r1,r2):=Q162
  have Ny329:=Aside0.mk hy_
  clear hy_
  simp only [Option.some.injEq,Prod.mk.injEq] at H
  obtain ⟨rfl,rfl⟩:=H
  go_enter Try.func52,Try.ntmps52
  go_wp2_with (first|((with_reducible refine gate_callee (f:=82) rfl ?_);refine goesL_ (some 5) rfl rfl Try.func82 Q1 rfl #[.pointer (some ⟨g,0,none⟩)] rfl Q84 ?_;(with_reducible refine (spec_l71Front.calls k g s0_0 s0_1 t320 t323 w0 _ ?side1 ?side2 A2.out).mono ?_);(case side1=>exact Q88);(case side2=>exact Q114);rintro e w7 ⟨v321,rfl,ho0,hi,hb,hk⟩;refine ⟨_,rfl,?_⟩;have HO322:=am (Kd.R_lower ho0 (keep_size (w:=w) (g:=g) (row:=none) Q87));replace HK:=am (KeepBut.trans Q87 hk (.inl rfl));replace HB:=am (hb);replace HI0:=am (hi);(try clear hb hk hi ho0))|((with_reducible refine gate_callee (f:=68) rfl ?_);refine goesL_ (some 7) rfl rfl Try.func68 Q1 rfl #[.pointer (some ⟨g,0,none⟩),.int .i64 12] rfl Q84 ?_;(with_reducible refine (spec_l6Rd_pick.calls k g s0_0 t323 12 t324 t325 w0 _ ?side1 ?side2 A3.out).mono ?_);(case side1=>exact Q88);(case side2=>exact Q114);rintro e w8 ⟨rfl,hi,hb,hk⟩;refine ⟨_,rfl,?_⟩;replace HO322:=am (Kd.R_mono (Kd.R_keep (IsS87.apart (show IsS87 w0 _ g s0_0 t323 from by repeat (first|(with_reducible first|exact HI0.out|apply IsS87.alloc|apply IsS87.drewN|apply IsS87.drew|apply IsS87.set_1)|exact HI0.out)) Q30 Q0) hk (fun _ h=>h.2)) (fun _ h=>h.1));replace HK:=am (KeepBut.trans Q87 hk (.inl rfl));replace HB:=am (hb);replace HI0:=am (hi);(try clear hb hk hi))|((with_reducible refine gate_callee (f:=83) rfl ?_);refine goesL_ (some 11) rfl rfl Try.func83 Q1 rfl #[.pointer (some ⟨g,0,none⟩)] rfl Q84 ?_;(with_reducible refine (spec_l71Odd.calls k g s0_0 t325 t326 t327 t328 w0 _ ?side1 ?side2 A5.out).mono ?_);(case side1=>exact Q88);(case side2=>exact Q114);rintro e w9 ⟨rfl,hi,hb,hk⟩;refine ⟨_,rfl,?_⟩;replace HO322:=am (Kd.R_mono (Kd.R_keep (IsS87.apart (show IsS87 w0 _ g s0_0 t325 from by repeat (first|(with_reducible first|exact HI0.out|apply IsS87.alloc|apply IsS87.drewN|apply IsS87.drew|apply IsS87.set_1)|exact HI0.out)) Q30 Q0) hk (fun _ h=>h.2)) (fun _ h=>h.1));replace HK:=am (KeepBut.trans Q87 hk (.inl rfl));replace HB:=am (hb);replace HI0:=am (hi);(try clear hb hk hi))|((with_reducible refine gate_builtin (b:=.append) (xs:=#[.tmp 9,.tmp 12]) rfl ?_);at_builtin;refine Kd.R_append k36 w.heap.size rfl (.tmp 9) (.tmp 12) 24 36 (.agg #[(.int .i64 0),(.int .i64 0)]) 16 rfl Try.underlying24 info36 rfl Q0 (by omega) v321 t320 (⟨t326,t327⟩ : S36) [.int .i64 t326,.int .i64 t327] (fun _=>True) (fun _=>False) rfl rfl ?aP (fun _ hk=>hk.elim) ?aF ?aO (Below.refl _ _) ?aS ?aL ?_;(case aP=>exact k36_mkM _ _ _ (⟨t326,t327⟩ : S36));(case aF=>exact (fun _ _=>trivial));(case aO=>exact Q30);(case aS=>exact (keep_size (w:=w) (g:=g) (row:=none) Q87));(case aL=>have:=LMc6.out;omega);intro v330 w10 ho hb hg hat;rw [← Ny329.out] at ho;replace HB:=am (below_weaken Q114 HL.out hb);replace HI0:=am (IsS87.grown (show IsS87 w0 _ g s0_0 t328 from by repeat (first|(with_reducible first|exact HI0.out|apply IsS87.alloc|apply IsS87.drewN|apply IsS87.drew|apply IsS87.set_1)|exact HI0.out)) hg (IsS87.own_ne HI0.out HO322.out Q0));replace HK:=am (KeepBut.trans Q87 (KeepBut.of_grown hg g) (Kd.R_base2 HO322.out));have HO331:=am (ho);clear HO322;clear ho hb hg hat))
  go_ret
  exact ⟨_,Q18,by (with_reducible repeat (first|apply Kd.R_alloc|apply Kd.R_drewN|apply Kd.R_drew));exact HO331.out,Q88,Q114,Q87⟩
 ·rw [if_neg c4] at H
  have c4b0 : (t324 == 0) = false:=beq_eq_false_iff_ne.mpr c4
  have c4b1 : (t324 != 0) = true:=bne_iff_ne.mpr c4
  simp only [Option.some.injEq,Prod.mk.injEq] at H
  obtain ⟨rfl,rfl⟩:=H
  go_enter Try.func52,Try.ntmps52
  go_wp2_with (first|((with_reducible refine gate_callee (f:=82) rfl ?_);refine goesL_ (some 5) rfl rfl Try.func82 Q1 rfl #[.pointer (some ⟨g,0,none⟩)] rfl Q84 ?_;(with_reducible refine (spec_l71Front.calls k g s0_0 s0_1 t320 t323 w0 _ ?side1 ?side2 A2.out).mono ?_);(case side1=>exact Q88);(case side2=>exact Q114);rintro e w11 ⟨v321,rfl,ho0,hi,hb,hk⟩;refine ⟨_,rfl,?_⟩;have HO322:=am (Kd.R_lower ho0 (keep_size (w:=w) (g:=g) (row:=none) Q87));replace HK:=am (KeepBut.trans Q87 hk (.inl rfl));replace HB:=am (hb);replace HI0:=am (hi);(try clear hb hk hi ho0))|((with_reducible refine gate_callee (f:=68) rfl ?_);refine goesL_ (some 7) rfl rfl Try.func68 Q1 rfl #[.pointer (some ⟨g,0,none⟩),.int .i64 12] rfl Q84 ?_;(with_reducible refine (spec_l6Rd_pick.calls k g s0_0 t323 12 t324 t325 w0 _ ?side1 ?side2 A3.out).mono ?_);(case side1=>exact Q88);(case side2=>exact Q114);rintro e w12 ⟨rfl,hi,hb,hk⟩;refine ⟨_,rfl,?_⟩;replace HO322:=am (Kd.R_mono (Kd.R_keep (IsS87.apart (show IsS87 w0 _ g s0_0 t323 from by repeat (first|(with_reducible first|exact HI0.out|apply IsS87.alloc|apply IsS87.drewN|apply IsS87.drew|apply IsS87.set_1)|exact HI0.out)) Q30 Q0) hk (fun _ h=>h.2)) (fun _ h=>h.1));replace HK:=am (KeepBut.trans Q87 hk (.inl rfl));replace HB:=am (hb);replace HI0:=am (hi);(try clear hb hk hi)))
  go_ret
  exact ⟨_,Q18,Q30,Q88,Q114,Q87⟩
def spec_DrawBatchMove.f (k : Nat) (l0 : List Int) : Option ((List (S38)) × (List (S36))) := (spec_l6Open.f l0).bind fun bt332 => ((spec_l71Any.f k bt332.1 bt332.2).bind fun bt335 => ((spec_l71Some.f k bt332.1 bt335.2).bind fun bt339 => (some (bt335.1, bt339.1))))
set_option maxHeartbeats 8000000 in
set_option maxRecDepth 100000 in
theorem spec_DrawBatchMove.calls (k : Nat) (A0 : Option Addr) (c0 : Nat) (l0 : List Int) (r1 : List (S38)) (r2 : List (S36)) (w : World) (hr0 : Kd.C (Kd.int .u8) w A0 l0.length l0) (hc0 : l0.length ≤ c0) (h : spec_DrawBatchMove.f k l0 = some (r1,r2)) :
  Calls Try.prog 15 #[.slice A0 l0.length c0] w fun e w'=>∃ v0_ v1_ : Value,e = .returned (.tuple #[v0_,v1_]) ∧ Kd.R k38 38 w' w.heap.size (fun _=>True) v0_ r1 ∧ Kd.R k36 36 w' w.heap.size (fun _=>True) v1_ r2 ∧ Below w.heap.size w w':=by
 have HR0:=Aside0.mk hr0
 have HC0:=Aside0.mk hc0
 clear hr0 hc0
 have HB:=am (Below.refl w.heap.size w)
 have H : ((spec_l6Open.f l0).bind fun bt332=>((spec_l71Any.f k bt332.1 bt332.2).bind fun bt335=>((spec_l71Some.f k bt332.1 bt335.2).bind fun bt339=>(some (bt335.1,bt339.1))))) = some (r1,r2):=h
 clear h
 replace H:=Option.bind_eq_some_iff.mp H
 obtain ⟨⟨t332,t333⟩,A20,H⟩:=H
 replace H : ((spec_l71Any.f k t332 t333).bind fun bt335=>((spec_l71Some.f k t332 bt335.2).bind fun bt339=>(some (bt335.1,bt339.1)))) = some (r1,r2):=H
 have A2:=Aside0.mk A20
 clear A20
 replace H:=Option.bind_eq_some_iff.mp H
 obtain ⟨⟨t335,t338⟩,A30,H⟩:=H
 replace H : ((spec_l71Some.f k t332 t338).bind fun bt339=>(some (t335,bt339.1))) = some (r1,r2):=H
 have A3:=Aside0.mk A30
 clear A30
 replace H:=Option.bind_eq_some_iff.mp H
 obtain ⟨⟨t339,t342⟩,A40,H⟩:=H
 replace H : (some (t335,t339)) = some (r1,r2):=H
 have A4:=Aside0.mk A40
 clear A40
 simp only [Option.some.injEq,Prod.mk.injEq] at H
 obtain ⟨rfl,rfl⟩:=H
 go_enter Try.func15,Try.ntmps15
 go_wp2_with (first|((with_reducible refine gate_callee (f:=50) rfl ?_);refine goesL_ (some 6) rfl rfl Try.func50 Q1 rfl #[.slice A0 l0.length c0] rfl Q84 ?_;(with_reducible refine (spec_l6Open.calls _ _ l0 t332 t333 w _ ?side1 ?side2 ?side3 A2.out).mono ?_);(case side1=>exact Q80);(case side2=>exact HR0.out);(case side3=>exact HC0.out);rintro e w5 ⟨g334,rfl,hi,hb,hb2⟩;refine ⟨_,rfl,?_⟩;replace HB:=am (hb);have HI334:=am (hi);(try clear hb hb2 hi))|((with_reducible refine gate_callee (f:=51) rfl ?_);refine goesL_ (some 8) rfl rfl Try.func51 Q1 rfl #[.pointer (some ⟨g334,0,none⟩)] rfl Q84 ?_;(with_reducible refine (spec_l71Any.calls k g334 t332 t333 t335 t338 w _ ?side1 ?side2 A3.out).mono ?_);(case side1=>exact (by repeat (first|(with_reducible first|exact HI334.out|apply IsS87.alloc|apply IsS87.drewN|apply IsS87.drew|apply IsS87.set_1)|exact HI334.out)));(case side2=>exact Q121);rintro e w6 ⟨v336,rfl,ho0,hi,hb,hk⟩;refine ⟨_,rfl,?_⟩;have HO337:=am (Kd.R_lower ho0 (below_size Q121));replace HB:=am (hb);replace HI334:=am (hi);(try clear hb hk hi ho0))|((with_reducible refine gate_callee (f:=52) rfl ?_);refine goesL_ (some 10) rfl rfl Try.func52 Q1 rfl #[.pointer (some ⟨g334,0,none⟩)] rfl Q84 ?_;(with_reducible refine (spec_l71Some.calls k g334 t332 t338 t339 t342 w _ ?side1 ?side2 A4.out).mono ?_);(case side1=>exact (by repeat (first|(with_reducible first|exact HI334.out|apply IsS87.alloc|apply IsS87.drewN|apply IsS87.drew|apply IsS87.set_1)|exact HI334.out)));(case side2=>exact Q121);rintro e w7 ⟨v340,rfl,ho0,hi,hb,hk⟩;refine ⟨_,rfl,?_⟩;replace HO337:=am (Kd.R_mono (Kd.R_keep (IsS87.apart (show IsS87 w _ g334 t332 t338 from by repeat (first|(with_reducible first|exact HI334.out|apply IsS87.alloc|apply IsS87.drewN|apply IsS87.drew|apply IsS87.set_1)|exact HI334.out)) (by (with_reducible repeat (first|apply Kd.R_alloc|apply Kd.R_drewN|apply Kd.R_drew));exact HO337.out) Q0) hk (fun _ h=>h.2)) (fun _ h=>h.1));have HO341:=am (Kd.R_lower ho0 (below_size Q121));replace HB:=am (hb);replace HI334:=am (hi);(try clear hb hk hi ho0)))
 go_ret2
 exact ⟨_,_,Q18,by (with_reducible repeat (first|apply Kd.R_alloc|apply Kd.R_drewN|apply Kd.R_drew));exact HO337.out,by (with_reducible repeat (first|apply Kd.R_alloc|apply Kd.R_drewN|apply Kd.R_drew));exact HO341.out,Q121⟩
def impl_TimeOk.f (a0_0 : Int) (a0_1 : Int) : Option (Bool) := if a0_0 ≥ 0 then (if a0_0 ≤ 7 then (if a0_1 ≥ 0 then (some (decide (a0_1 ≤ 7))) else (some false)) else (some false)) else (some false)
set_option maxHeartbeats 8000000 in
set_option maxRecDepth 100000 in
theorem impl_TimeOk.calls (a0_0 : Int) (a0_1 : Int) (r : Bool) (w : World) (h : impl_TimeOk.f a0_0 a0_1 = some r) :
  Calls Try.prog 62 #[.agg #[.int .i64 a0_0,.int .i64 a0_1]] w fun e w'=>e = .returned (.bool r) ∧ Below w.heap.size w w':=by
 have hu36:=Try.underlying36
 have HB:=am (Below.refl w.heap.size w)
 have H : (if a0_0 ≥ 0 then (if a0_0 ≤ 7 then (if a0_1 ≥ 0 then (some (decide (a0_1 ≤ 7))) else (some false)) else (some false)) else (some false)) = some r:=h
 clear h
 by_cases c2 : a0_0 ≥ 0
 ·rw [if_pos c2] at H
  have c2b0 : decide (0 ≤ a0_0) = true:=decide_eq_true c2
  clear c2
  by_cases c3 : a0_0 ≤ 7
  ·rw [if_pos c3] at H
   have c3b0 : decide (a0_0 ≤ 7) = true:=decide_eq_true c3
   clear c3
   by_cases c4 : a0_1 ≥ 0
   ·rw [if_pos c4] at H
    have c4b0 : decide (0 ≤ a0_1) = true:=decide_eq_true c4
    clear c4
    obtain rfl:=Option.some.inj H
    go_enter Try.func62,Try.ntmps62
    go_wp2_with (first|((with_reducible refine gate_dst (N:=1) rfl ?_);refine bE_ 1 #[.int .i64 a0_0,.int .i64 a0_1] 36 ?_;intro gb343 hg w5 hbox hb;have BK343:=am (hbox);have GW343:=am ((Q173 : w.heap.size ≤ gb343));replace HB:=am (below_step Q80 hb);have GE343:=GW343;clear hb hbox hg;obtain ⟨hcz6_0,hcz6_1,hfz6_0,hfz6_1⟩:=bx2_ BK343))
    go_ret
    exact ⟨Q18,Q93⟩
   ·rw [if_neg c4] at H
    have c4b0 : decide (0 ≤ a0_1) = false:=decide_eq_false c4
    clear c4
    obtain rfl:=Option.some.inj H
    go_enter Try.func62,Try.ntmps62
    go_wp2_with (first|((with_reducible refine gate_dst (N:=1) rfl ?_);refine bE_ 1 #[.int .i64 a0_0,.int .i64 a0_1] 36 ?_;intro gb343 hg w7 hbox hb;have BK343:=am (hbox);have GW343:=am ((Q173 : w.heap.size ≤ gb343));replace HB:=am (below_step Q80 hb);have GE343:=GW343;clear hb hbox hg;obtain ⟨hcz8_0,hcz8_1,hfz8_0,hfz8_1⟩:=bx2_ BK343))
    go_ret
    exact ⟨Q18,Q93⟩
  ·rw [if_neg c3] at H
   have c3b0 : decide (a0_0 ≤ 7) = false:=decide_eq_false c3
   clear c3
   obtain rfl:=Option.some.inj H
   go_enter Try.func62,Try.ntmps62
   go_wp2_with (first|((with_reducible refine gate_dst (N:=1) rfl ?_);refine bE_ 1 #[.int .i64 a0_0,.int .i64 a0_1] 36 ?_;intro gb343 hg w9 hbox hb;have BK343:=am (hbox);have GW343:=am ((Q173 : w.heap.size ≤ gb343));replace HB:=am (below_step Q80 hb);have GE343:=GW343;clear hb hbox hg;obtain ⟨hcz10_0,hcz10_1,hfz10_0,hfz10_1⟩:=bx2_ BK343))
   go_ret
   exact ⟨Q18,Q93⟩
 ·rw [if_neg c2] at H
  have c2b0 : decide (0 ≤ a0_0) = false:=decide_eq_false c2
  clear c2
  obtain rfl:=Option.some.inj H
  go_enter Try.func62,Try.ntmps62
  go_wp2_with (first|((with_reducible refine gate_dst (N:=1) rfl ?_);refine bE_ 1 #[.int .i64 a0_0,.int .i64 a0_1] 36 ?_;intro gb343 hg w11 hbox hb;have BK343:=am (hbox);have GW343:=am ((Q173 : w.heap.size ≤ gb343));replace HB:=am (below_step Q80 hb);have GE343:=GW343;clear hb hbox hg;obtain ⟨hcz12_0,hcz12_1,hfz12_0,hfz12_1⟩:=bx2_ BK343))
  go_ret
  exact ⟨Q18,Q93⟩
def impl_RowsOk.l0 : Nat → List (S38) → List (S38) → Int → Int → Option (Bool)
 | 0, _, _, _, _ => none
 | k + 1, x0, x5, x6, x7 => if x7 < x6 then (if 0 ≤ x7 then (if x7 < (x5.length : Int) then (if ((rd_T38 x5 x7).f0) < 0 then (some false) else (if ((rd_T38 x5 x7).f0) ≥ 4 then (some false) else (if ((rd_T38 x5 x7).f1) < 0 then (some false) else (if ((rd_T38 x5 x7).f1) ≥ 100 then (some false) else ((impl_TimeOk.f ((rd_T38 x5 x7).f2.f0) ((rd_T38 x5 x7).f2.f1)).bind fun t346 => (if t346 = true then (if ((rd_T38 x5 x7).f3) < (-99999) then (some false) else (if ((rd_T38 x5 x7).f3) > 99999 then (some false) else (impl_RowsOk.l0 k x0 x5 x6 (wrap64 (x7 + 1))))) else (some false))))))) else (none)) else (none)) else (some (decide ((x0.length : Int) ≤ 400)))
def impl_RowsOk.f (k : Nat) (l0 : List (S38)) : Option (Bool) := impl_RowsOk.l0 k l0 l0 (l0.length : Int) 0
end Go.Proofs.Ytjlkffmdmifahaa.PFnBatchMove
