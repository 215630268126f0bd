/- A function of the program with a map and a sort: as a plain Lean function, with its contract. -/
import Derived.Maps.RangeWalk
import Derived.Maps.OwnOps
import Derived.Maps.Views
import Derived.WideKeyEntry
import Derived.DeepKeys4
import Derived.Shelf.SlSortFuncK.WholeK
import Derived.Shelf.GgSortFunc.Tiny
import Derived.Lib.RowBridge
import Derived.Lib.SortBridge
import Derived.Test.YtpggfdjnebccnaaVFnBatchTimesw
import Derived.Test.YtpggfdjnebccnaaVFnBatchTimesp0
namespace Go.Proofs.Ytpggfdjnebccnaa.PFnBatchTimes
open Go.RowKit Go.Proofs.YtpggfdjnebccnaaW.PrintWords Go.Proofs.YtpggfdjnebccnaaW.PrintLast Go.Proofs.YtpggfdjnebccnaaW.PrintMore
open Go.Sort Go.Shelf Go.Lib Go.ChangeMaps Go.ChangeShapes Go.WideShapes
attribute [local go_sem] max2_int min2_int max_two min_two max_three min_three max_four min_four
set_option linter.unusedVariables false
set_option linter.unusedSimpArgs false
theorem J2_0 {p : Prop} (h : p := by kernel_rfl) : p := h
def sv6__ren : Go.Shelf.Ren := ⟨fun | 6 => 62 | 10 => 93 | 11 => 94 | 12 => 95 | 13 => 96 | 14 => 97 | 24 => 114 | 25 => 115 | 26 => 116 | 27 => 117 | 28 => 118 | 29 => 119 | 30 => 120 | 31 => 121 | 32 => 122 | 33 => 123 | 34 => 126 | 35 => 127 | 36 => 128 | 37 => 129 | 38 => 130 | 39 => 132 | n => n, fun | 20 => 20 | 26 => 71 | 35 => 102 | 0 => 0 | 37 => 104 | 3 => 3 | 41 => 107 | 44 => 110 | 49 => 122 | 51 => 124 | 4 => 4 | 54 => 127 | 53 => 126 | 58 => 131 | 5 => 5 | 9 => 9 | 60 => 135 | 64 => 139 | 66 => 142 | 67 => 143 | 17 => 17 | 32 => 99 | 33 => 100 | 82 => 158 | 12 => 12 | 75 => 151 | 76 => 152 | 77 => 153 | 78 => 154 | 79 => 155 | 80 => 156 | n => n, fun | n => n⟩
theorem sv6_ : Go.Proofs.LaysGg.n6 Try.prog sv6__ren := {
 mixed := by kernel_rfl
 f6 := Try.func62.trans (congrArg some (J2_0))
 f10 := Try.func93.trans (congrArg some (J2_0))
 f11 := Try.func94.trans (congrArg some (J2_0))
 f12 := Try.func95.trans (congrArg some (J2_0))
 f13 := Try.func96.trans (congrArg some (J2_0))
 f14 := Try.func97.trans (congrArg some (J2_0))
 f24 := Try.func114.trans (congrArg some (J2_0))
 f25 := Try.func115.trans (congrArg some (J2_0))
 f26 := Try.func116.trans (congrArg some (J2_0))
 f27 := Try.func117.trans (congrArg some (J2_0))
 f28 := Try.func118.trans (congrArg some (J2_0))
 f29 := Try.func119.trans (congrArg some (J2_0))
 f30 := Try.func120.trans (congrArg some (J2_0))
 f31 := Try.func121.trans (congrArg some (J2_0))
 f32 := Try.func122.trans (congrArg some (J2_0))
 f33 := Try.func123.trans (congrArg some (J2_0))
 f34 := Try.func126.trans (congrArg some (J2_0))
 f35 := Try.func127.trans (congrArg some (J2_0))
 f36 := Try.func128.trans (congrArg some (J2_0))
 f37 := Try.func129.trans (congrArg some (J2_0))
 f38 := Try.func130.trans (congrArg some (J2_0))
 f39 := Try.func132.trans (congrArg some (J2_0))
 t0 := Try.underlying0
 a0 := Try.isAgg0
 z0 := Try.sizeOf0
 v0 := Try.zeroValue0
 i0 := by kernel_rfl
 t3 := Try.underlying3
 a3 := Try.isAgg3
 z3 := Try.sizeOf3
 v3 := Try.zeroValue3
 i3 := by kernel_rfl
 t4 := Try.underlying4
 a4 := Try.isAgg4
 z4 := Try.sizeOf4
 v4 := Try.zeroValue4
 i4 := by kernel_rfl
 t5 := Try.underlying5
 a5 := Try.isAgg5
 z5 := Try.sizeOf5
 v5 := Try.zeroValue5
 i5 := by kernel_rfl
 t9 := Try.underlying9
 a9 := Try.isAgg9
 z9 := Try.sizeOf9
 v9 := Try.zeroValue9
 i9 := by kernel_rfl
 t12 := Try.underlying12
 a12 := Try.isAgg12
 z12 := Try.sizeOf12
 v12 := Try.zeroValue12
 i12 := by kernel_rfl
 t17 := Try.underlying17
 a17 := Try.isAgg17
 z17 := Try.sizeOf17
 v17 := Try.zeroValue17
 i17 := by kernel_rfl
 t20 := Try.underlying20
 a20 := Try.isAgg20
 z20 := Try.sizeOf20
 v20 := Try.zeroValue20
 i20 := by kernel_rfl
 t26 := Try.underlying71
 a26 := Try.isAgg71
 z26 := Try.sizeOf71
 v26 := Try.zeroValue71
 i26 := by kernel_rfl
 t32 := Try.underlying99
 a32 := Try.isAgg99
 z32 := Try.sizeOf99
 v32 := Try.zeroValue99
 i32 := by kernel_rfl
 t33 := Try.underlying100
 a33 := Try.isAgg100
 z33 := Try.sizeOf100
 v33 := Try.zeroValue100
 i33 := by kernel_rfl
 t35 := Try.underlying102
 a35 := Try.isAgg102
 z35 := Try.sizeOf102
 v35 := Try.zeroValue102
 i35 := by kernel_rfl
 t37 := Try.underlying104
 a37 := Try.isAgg104
 z37 := Try.sizeOf104
 v37 := Try.zeroValue104
 i37 := by kernel_rfl
 t41 := Try.underlying107
 a41 := Try.isAgg107
 z41 := Try.sizeOf107
 v41 := Try.zeroValue107
 i41 := by kernel_rfl
 t44 := Try.underlying110
 a44 := Try.isAgg110
 z44 := Try.sizeOf110
 v44 := Try.zeroValue110
 i44 := by kernel_rfl
 t49 := Try.underlying122
 a49 := Try.isAgg122
 z49 := Try.sizeOf122
 v49 := Try.zeroValue122
 i49 := by kernel_rfl
 t51 := Try.underlying124
 a51 := Try.isAgg124
 z51 := Try.sizeOf124
 v51 := Try.zeroValue124
 i51 := by kernel_rfl
 t53 := Try.underlying126
 a53 := Try.isAgg126
 z53 := Try.sizeOf126
 v53 := Try.zeroValue126
 i53 := by kernel_rfl
 t54 := Try.underlying127
 a54 := Try.isAgg127
 z54 := Try.sizeOf127
 v54 := Try.zeroValue127
 i54 := by kernel_rfl
 t58 := Try.underlying131
 a58 := Try.isAgg131
 z58 := Try.sizeOf131
 v58 := Try.zeroValue131
 i58 := by kernel_rfl
 t60 := Try.underlying135
 a60 := Try.isAgg135
 z60 := Try.sizeOf135
 v60 := Try.zeroValue135
 i60 := by kernel_rfl
 t64 := Try.underlying139
 a64 := Try.isAgg139
 z64 := Try.sizeOf139
 v64 := Try.zeroValue139
 i64 := by kernel_rfl
 t66 := Try.underlying142
 a66 := Try.isAgg142
 z66 := Try.sizeOf142
 v66 := Try.zeroValue142
 i66 := by kernel_rfl
 t67 := Try.underlying143
 a67 := Try.isAgg143
 z67 := Try.sizeOf143
 v67 := Try.zeroValue143
 i67 := by kernel_rfl
 t75 := Try.underlying151
 a75 := Try.isAgg151
 z75 := Try.sizeOf151
 v75 := Try.zeroValue151
 i75 := by kernel_rfl
 t76 := Try.underlying152
 a76 := Try.isAgg152
 z76 := Try.sizeOf152
 v76 := Try.zeroValue152
 i76 := by kernel_rfl
 t77 := Try.underlying153
 a77 := Try.isAgg153
 z77 := Try.sizeOf153
 v77 := Try.zeroValue153
 i77 := by kernel_rfl
 t78 := Try.underlying154
 a78 := Try.isAgg154
 z78 := Try.sizeOf154
 v78 := Try.zeroValue154
 i78 := by kernel_rfl
 t79 := Try.underlying155
 a79 := Try.isAgg155
 z79 := Try.sizeOf155
 v79 := Try.zeroValue155
 i79 := by kernel_rfl
 t80 := Try.underlying156
 a80 := Try.isAgg156
 z80 := Try.sizeOf156
 v80 := Try.zeroValue156
 i80 := by kernel_rfl
 t82 := Try.underlying158
 a82 := Try.isAgg158
 z82 := Try.sizeOf158
 v82 := Try.zeroValue158
 i82 := by kernel_rfl }
theorem laid_ : laidOutB Try.prog = true := by kernel_rfl
theorem law80 : WideMaps.KeyLaw Try.prog 80 := deep_law_laid laid_ (m := 2) (by omega) (of_decide_eq_true (J2_0)) (J2_0) (by rw [Try.underlying80])
theorem kd80 : Maps.Keyed Try.prog 80 := Maps.Keyed.of_law law80
def v80 (x : S80) : Value := .agg #[.int .i64 x.f0, .int .i64 x.f1, .int .i64 x.f2]
def wf64 (n : Int) : Bool := (Lit.int .i64 n).wf
theorem wf64_iff {n : Int} : wf64 n = true ↔ -9223372036854775808 ≤ n ∧ n ≤ 9223372036854775807 := by
 simp [wf64, Lit.wf, IntKind.min, IntKind.max, IntKind.signed, IntKind.bits]
def ok80 (x : S80) : Bool := wf64 x.f0 && (wf64 x.f1 && wf64 x.f2)
theorem keyLits80 (n : Nat) (a b c : Value) : Try.prog.keyLits (n + 2) 80 [a, b, c] = (Try.prog.keyLits (n + 1) 3 [a]).bind fun p => (Try.prog.keyLits (n + 1) 3 [b]).bind fun q => (Try.prog.keyLits (n + 1) 3 [c]).bind fun r => some (p ++ (q ++ r)) := by
 have c80 : Try.prog.cellsOf 80 = 3 := by kernel_rfl
 have c3 : Try.prog.cellsOf 3 = 1 := by kernel_rfl
 rw [Program.keyLits.eq_def]
 simp only [Try.underlying80, c80]
 generalize hf : (fun cs : List Value => Try.prog.keyLits (n + 1) 3 cs) = f
 have e : ∀ cs, Try.prog.keyLits (n + 1) 3 cs = f cs := fun cs => by rw [← hf]
 simp [c3, e]
 cases f [a] <;> cases f [b] <;> cases f [c] <;> simp
theorem keyLits3 (m : Nat) (a : Value) : Try.prog.keyLits (m + 1) 3 [a] = match a with | .int .i64 n => if wf64 n = true then some [Lit.int .i64 n] else none | _ => none := by
 rw [Program.keyLits.eq_def]
 simp only [Try.underlying3]
 cases a <;> simp
 rename_i k n
 cases k <;> simp [wf64]
 rfl
def lit80 (x : S80) : Lit := .string (keyBytes [.int .i64 x.f0, .int .i64 x.f1, .int .i64 x.f2])
theorem key80 {x : S80} (h : ok80 x = true) : keyOf Try.prog 80 (v80 x) = some (lit80 x) := by
 obtain ⟨m, e⟩ : ∃ m, Try.prog.types.size + 1 = m + 2 := ⟨Try.prog.types.size - 1, by have : 0 < Try.prog.types.size := of_decide_eq_true (J2_0); omega⟩
 have c80 : Try.prog.cellsOf 80 = 3 := by kernel_rfl
 have kt : Try.prog.keyType 80 = true := by kernel_rfl
 simp only [ok80, Bool.and_eq_true] at h
 unfold keyOf v80
 rw [Try.underlying80]
 simp only [kt, Value.formed, Try.underlying80, c80, e]
 simp [Value.cells, keyLits80, keyLits3, h.1, h.2.1, h.2.2, lit80]
theorem keyLits3_inv {m : Nat} {a : Value} {p : List Lit} (h : Try.prog.keyLits (m + 1) 3 [a] = some p) : ∃ n, a = .int .i64 n ∧ wf64 n = true ∧ p = [Lit.int .i64 n] := by
 rw [keyLits3] at h
 split at h
 ·rename_i n
  split at h
  ·exact ⟨n, rfl, by assumption, by simpa using h.symm⟩
  ·simp at h
 ·simp at h
theorem three_of_size {cs : Array Value} (h : cs.size = 3) : ∃ a b c, cs = #[a, b, c] := by
 obtain ⟨l⟩ := cs
 match l, h with
 | [a, b, c], _ => exact ⟨a, b, c, rfl⟩
theorem key80_inv {v : Value} {l : Lit} (h : keyOf Try.prog 80 v = some l) : ∃ x : S80, v = v80 x ∧ ok80 x = true ∧ l = lit80 x := by
 obtain ⟨m, e⟩ : ∃ m, Try.prog.types.size + 1 = m + 2 := ⟨Try.prog.types.size - 1, by have : 0 < Try.prog.types.size := of_decide_eq_true (J2_0); omega⟩
 have c80 : Try.prog.cellsOf 80 = 3 := by kernel_rfl
 cases v with
 | agg cs =>
  simp only [keyOf, Value.formed, Try.underlying80, c80, e] at h
  split at h
  ·rename_i hc
   simp only [Bool.and_eq_true, beq_iff_eq] at hc
   have h3 := hc.2
   clear hc
   obtain ⟨a, b, c, rfl⟩ := three_of_size h3
   simp only [Value.cells, keyLits80] at h
   obtain ⟨L, hL, h⟩ := Option.map_eq_some_iff.1 h
   obtain ⟨p, hp, hL⟩ := Option.bind_eq_some_iff.1 hL
   obtain ⟨q, hq, hL⟩ := Option.bind_eq_some_iff.1 hL
   obtain ⟨r, hr, hL⟩ := Option.bind_eq_some_iff.1 hL
   obtain ⟨x, rfl, wx, rfl⟩ := keyLits3_inv hp
   obtain ⟨y, rfl, wy, rfl⟩ := keyLits3_inv hq
   obtain ⟨z, rfl, wz, rfl⟩ := keyLits3_inv hr
   refine ⟨⟨x, y, z⟩, rfl, by simp [ok80, wx, wy, wz], ?_⟩
   cases hL
   exact h.symm
  ·simp at h
 | _ => simp [keyOf, Value.formed, Try.underlying80] at h
theorem lit80_inj {x y : S80} (hx : ok80 x = true) (hy : ok80 y = true) (h : lit80 x = lit80 y) : x = y := by
 have e : v80 x = v80 y := law80.inj (key80 hx) (h ▸ key80 hy)
 obtain ⟨a, b, c⟩ := x
 obtain ⟨a', b', c'⟩ := y
 simp [v80] at e
 obtain ⟨rfl, rfl, rfl⟩ := e
 rfl
theorem lit80_key (x : S80) : WideAt.IsKeyLit (lit80 x) := by
 unfold lit80
 trivial

section
variable {P : Program} {k e t : TypeId} {w : World} {b n : Nat} {D : DataW Unit} {R : Value → Option (DataW Unit × List MemPlace)}
theorem block_of_ok {w1 w2 : World} {o1 o2 : Obj} (h : (Result.ok () (setBlock w1 b o1)) = Result.ok () (setBlock w2 b o2)) (h1 : b < w1.heap.size) : o1 = o2 := by
 have e : setBlock w1 b o1 = setBlock w2 b o2 := by injection h
 have := congrArg (fun u : World => u.heap[b]?) e
 simp only [setBlock, Array.getElem?_setIfInBounds_self_of_lt h1] at this
 rw [Array.getElem?_setIfInBounds] at this
 split at this
 ·split at this
  ·exact Option.some.inj this
  ·simp at this
 ·simp_all

theorem own_entry (K : WideMaps.KeyLaw P k) (ht : P.underlying t = some (.map k e)) (he : P.underlying e = some (.int .i64)) (hz : ∀ u : World, (zeroValue e).run P u = .ok (.int .i64 0) u)
  (h : w.ownsMap P k (plainElem P e) b n D) (hn : n < maxLen) {key : Value} {kl : Lit} (hkey : keyOf P k key = some kl) :
  ∃ (c : Int) (st : Nat) (o1 : Obj) (D1 : DataW Unit), (Instr.lookup t (.map (some b)) key false).run P w = .ok (.int .i64 c) w ∧ D.atKey kl (.lit (.int .i64 0)) = .lit (.int .i64 c) ∧
   (Instr.mapEntry t (.map (some b)) key).run P w = .ok (.tuple #[.int .i64 c, goInt st]) (setBlock w b o1) ∧ (setBlock w b o1).ownsMap P k (plainElem P e) b (n + 1) D1 ∧ D1.atKey kl (.lit (.int .i64 0)) = .lit (.int .i64 c) ∧
   ∀ (w2 : World) (m : Int), w2.heap[b]? = some o1 → (Lit.int .i64 m).wf = true → ∃ o2, (Instr.entryStore t (.map (some b)) (goInt st) (.int .i64 m)).run P w2 = .ok () (setBlock w2 b o2) ∧ (setBlock w2 b o2).ownsMap P k (plainElem P e) b (n + 1) (D.put kl (.lit (.int .i64 m))) := by
 have K2 := Maps.Keyed.of_law K
 have hown := h
 obtain ⟨c, hl, hat, hwc⟩ := h.lookup_int K2 ht he (hz w) hkey
 obtain ⟨es, clock, hb, F, hs, rfl⟩ := h
 have hlt : b < w.heap.size := (Array.getElem?_eq_some_iff.1 hb).1
 obtain ⟨v0, st, es1, clock1, hrun, hv, hst⟩ := WideElems.entry_then_store K ht hz hb F hkey
 have hstore : ∀ (w2 : World) (m : Int), w2.heap[b]? = some (.map es1 clock1) → (Lit.int .i64 m).wf = true → ∃ o2, (Instr.entryStore t (.map (some b)) (goInt st) (.int .i64 m)).run P w2 = .ok () (setBlock w2 b o2) ∧ (setBlock w2 b o2).ownsMap P k (plainElem P e) b (n + 1) ((DataW.map ((es.toList.map (WideElems.rg P k (plainElem P e))).foldr DataW.insert [])).put kl (.lit (.int .i64 m))) := fun w2 m hw2 hm => by
  obtain ⟨es', clock', h1, h2⟩ := hst w2 (.int .i64 m) hw2
  obtain ⟨w', h3, h4, _⟩ := hown.update K2 ht hn hkey (plainElem_int he hm)
  rw [h2] at h3
  have e1 : setBlock w b (.map es' clock') = w' := by injection h3
  subst e1
  refine ⟨_, h1, ?_⟩
  obtain ⟨es2, clock2, g1, g2, g3, g4⟩ := h4
  rw [heap_setBlock_same hb] at g1
  exact ⟨es2, clock2, by rw [heap_setBlock_same hw2]; exact g1, g2, g3, g4⟩
 rcases K.find w hkey es.toList F.keys with ⟨h1, h2⟩ | ⟨j, e0, h1, h2, h3⟩
 ·have r1 : (Instr.mapEntry t (.map (some b)) key).run P w = .ok (.tuple #[.int .i64 0, goInt clock]) (setBlock w b (.map (es.push ⟨key, .int .i64 0, clock⟩) (clock + 1))) := by
   simp [Instr.mapEntry, run_underlying ht, MapKept.run_getObj_map hb, K.check w false hkey, h1, hz, MapKept.run_setObj_map _ hb, Result.andThen, setBlock]
  have r2 : (Instr.mapUpdate t (.map (some b)) key (.int .i64 0)).run P w = .ok () (setBlock w b (.map (es.push ⟨key, .int .i64 0, clock⟩) (clock + 1))) := by
   simp [Instr.mapUpdate, run_underlying ht, MapKept.run_getObj_map hb, K.check w false hkey, h1, MapKept.run_setObj_map _ hb, Result.andThen, setBlock]
  have r3 : (Instr.lookup t (.map (some b)) key false).run P w = .ok (.int .i64 0) w := by
   simp [Instr.lookup, run_underlying ht, MapKept.run_getObj_map hb, K.check w _ hkey, h1, hz, Result.andThen]
  rw [r3] at hl
  have hc : c = 0 := by injection hl with hl; injection hl with _ hl; exact hl.symm
  subst hc
  rw [hrun] at r1
  have q1 : (v0, st) = ((.int .i64 0 : Value), clock) ∧ setBlock w b (.map es1 clock1) = setBlock w b (.map (es.push ⟨key, .int .i64 0, clock⟩) (clock + 1)) := by
   injection r1 with a1 a2
   refine ⟨?_, a2⟩
   simp [goInt] at a1
   obtain ⟨rfl, a1⟩ := a1
   rw [show st = clock by omega]
  obtain ⟨w', g1, g2, _⟩ := hown.update K2 ht hn hkey (plainElem_int (a := 0) he (by decide))
  rw [r2] at g1
  have e1 : setBlock w b (.map (es.push ⟨key, .int .i64 0, clock⟩) (clock + 1)) = w' := by injection g1
  rw [← e1, ← q1.2] at g2
  obtain ⟨q2, q3⟩ := Prod.mk.inj q1.1
  subst q2
  refine ⟨0, st, .map es1 clock1, _, r3, hat, hrun, g2, ?_, hstore⟩
  exact Maps.atKey_put_same ⟨_, rfl⟩ (K2.key hkey) _ _
 ·have hj : es[j]? = some e0 := by simpa using h2
  have hsame : es.modify j (fun x => { x with key := key }) = es := by
   apply Array.ext'
   rw [Array.toList_modify, modify_eq_set _ _ _ _ h2]
   have : ({ e0 with key := key } : MapEntry) = e0 := by rw [← h3]
   rw [this]
   exact WideElems.set_self _ _ _ h2
  have r1 : (Instr.mapEntry t (.map (some b)) key).run P w = .ok (.tuple #[e0.val, goInt e0.born]) (setBlock w b (.map es clock)) := by
   simp [Instr.mapEntry, run_underlying ht, MapKept.run_getObj_map hb, K.check w false hkey, h1, hj, h3, K.stays w hkey, hsame, MapKept.run_setObj_map _ hb, Result.andThen, setBlock]
  have r3 : (Instr.lookup t (.map (some b)) key false).run P w = .ok e0.val w := by
   simp [Instr.lookup, run_underlying ht, MapKept.run_getObj_map hb, K.check w _ hkey, h1, Result.andThen]
  have hc : e0.val = .int .i64 c := by
   rw [r3] at hl
   injection hl
  rw [hrun] at r1
  have a1 : v0 = e0.val ∧ (st : Int) = e0.born := by
   injection r1 with a1 a2
   simpa [goInt] using a1
  have a2 : setBlock w b (.map es1 clock1) = setBlock w b (.map es clock) := by injection r1
  refine ⟨c, st, .map es1 clock1, _, by rw [r3, hc], hat, by rw [hrun, a1.1, hc], ?_, hat, hstore⟩
  rw [a2]
  exact ⟨es, clock, heap_setBlock_same hb _, F, by omega, rfl⟩
end

section
variable {α : Type} [Inhabited α] {d : Kd α} {enc : α → List Value} {e g n cap base : Nat} {ok : Nat → Prop} {W : World} {xs : List α}
theorem own_holds (hk : ∀ x, (enc x).length = d.sz) (hM : ∀ {W base ok x cs}, d.M W base ok x cs → cs = enc x) (h : d.R e W base ok (.slice (some ⟨g, 0, none⟩) n cap) xs) : HoldsK enc d.sz W g 0 xs.toArray := by
 intro j hj
 have hn : n = xs.length := (Kd.R_reads' h).1
 rw [size_flatK] at hj
 have hj' : j < xs.length * d.sz := by simpa using hj
 have hs : 0 < d.sz := by
  rcases Nat.eq_zero_or_pos d.sz with h0 | h0
  ·rw [h0] at hj'; simp at hj'
  ·exact h0
 have hq : j / d.sz < xs.length := (Nat.div_lt_iff_lt_mul hs).2 hj'
 obtain ⟨c, hc, hm, hcc, hfr⟩ := Kd.R_elem h default ((j / d.sz : Nat) : Int) (Int.natCast_nonneg _) (Int.ofNat_lt.2 (hn ▸ hq))
 obtain rfl := hM hm
 have hr : j % d.sz < d.sz := Nat.mod_lt _ hs
 have ej : j / d.sz * d.sz + j % d.sz = j := by rw [Nat.mul_comm]; exact Nat.div_add_mod j d.sz
 have hx : xs.getD (j / d.sz) default = xs.toArray[j / d.sz]! := by
  rw [List.getD_eq_getElem?_getD, List.getElem?_eq_getElem hq]
  simp [hq]
 rw [get_flatK _ _ _ _ (by simpa using hj')]
 rw [Int.toNat_natCast, hx] at hcc
 generalize xs.toArray[j / d.sz]! = y at *
 have e1 := hcc (j % d.sz) ((enc y)[j % d.sz]!) (by
  rw [getElem!_pos _ _ (by rw [hk]; exact hr), List.getElem?_eq_getElem (by rw [hk]; exact hr)])
 have e2 := hfr (j % d.sz)
 rw [Int.toNat_natCast, ej] at e2
 rw [ej] at e1
 rw [Nat.zero_add]
 exact ⟨e1, e2⟩
theorem heap_sortedK {w : World} {k m : Nat} {os : Array Obj} {cur : Array Value} {t : TypeId} {fr : Nat × Nat} (d' : Array α) (hb : w.heap[g]? = some (.cells cur t fr)) :
  (grow (putRowK enc k (Sort.ahead w m) g 0 d') os).heap[g]? = some (.cells (putCells id 0 (flatK enc k d') cur) t fr) := by
 have hg : g < w.heap.size := (Array.getElem?_eq_some_iff.1 hb).1
 rw [heap_grow_old _ _ (by simpa [putRowK] using hg)]
 simp [putRowK, putRow, mapBlock, Sort.ahead, Array.getElem?_modify, hb, onCells]
theorem grownBy_sortedK {w : World} {k m : Nat} {os : Array Obj} (d' : Array α) : w.grownBy (grow (putRowK enc k (Sort.ahead w m) g 0 d') os) (some g) := by
 refine ⟨rfl, rfl, rfl, by simp [putRowK], fun k hk hne => ?_⟩
 rw [heap_grow_old _ _ (by simpa [putRowK] using hk)]
 have : g ≠ k := fun e => hne (by rw [e])
 simp [putRowK, putRow, mapBlock, Sort.ahead, Array.getElem?_modify, this]
theorem R_sorted (hk : ∀ x, (enc x).length = d.sz) (hM : ∀ {W base ok x}, d.M W base ok x (enc x)) (h : d.R e W base ok (.slice (some ⟨g, 0, none⟩) n cap) xs) (d' : Array α) (hs : d'.size = n) (m : Nat) (os : Array Obj) :
  d.R e (grow (putRowK enc d.sz (Sort.ahead W m) g 0 d') os) base ok (.slice (some ⟨g, 0, none⟩) n cap) d'.toList := by
 have hn : n = xs.length := (Kd.R_reads' h).1
 subst hn
 obtain ⟨h0, inner, ho, hr⟩ := h
 obtain ⟨h1, h2⟩ := ho
 rcases h2 with ⟨h2, _⟩ | ⟨g', cap', cur, hv, hg, hh, hc1, hc2, hc3, hc4⟩
 ·cases h2
 cases hv
 have hlen : d'.toList.length = xs.length := by simpa using hs
 have hle : xs.length * d.sz ≤ cur.size := by rw [hc3]; exact Nat.mul_le_mul_right _ hc1
 have hfl : (flatK enc d.sz d').size = xs.length * d.sz := by rw [size_flatK, hs]
 refine ⟨h0, (flatK enc d.sz d').toList, ⟨by simp [hs], .inr ⟨g, cap, _, by rw [hlen], hg, heap_sortedK d' hh, by rw [hlen]; omega, hc2, by simp [putCells, hc3], ?_⟩⟩, by simp, fun j p hj => ?_⟩
 ·rw [hlen]
  apply List.ext_getElem?
  intro j
  by_cases hj : j < xs.length * d.sz
  ·rw [List.getElem?_take_of_lt hj, Array.getElem?_toList]
   simp [putCells, hfl, hj, show j < cur.size by omega]
  ·rw [List.getElem?_take_eq_none (by omega), List.getElem?_eq_none (by simp [hs]; omega)]
 ·have hjl : j < d'.size := by
   have := (List.getElem?_eq_some_iff.1 hj).1
   simpa using this
  have hp : d'[j]! = p := by
   rw [Array.getElem?_toList, Array.getElem?_eq_getElem hjl] at hj
   rw [getElem!_pos d' j hjl]
   exact Option.some.inj hj
  have : ((flatK enc d.sz d').toList.drop (j * d.sz)).take d.sz = enc p := by
   apply List.ext_getElem?
   intro r
   by_cases hr : r < d.sz
   ·have hb : j * d.sz + r < d'.size * d.sz := by
     have := Nat.mul_le_mul_right d.sz (show j + 1 ≤ d'.size from hjl)
     rw [Nat.add_mul, Nat.one_mul] at this
     omega
    have e1 : (j * d.sz + r) / d.sz = j := (blk_iff d.sz j _ (by omega)).1 ⟨by omega, by omega⟩
    have e2 : (j * d.sz + r) % d.sz = r := by rw [Nat.mod_eq_sub_div_mul, e1]; omega
    rw [List.getElem?_take_of_lt hr, List.getElem?_drop, Array.getElem?_toList]
    have := get_flatK enc d.sz d' (j * d.sz + r) hb
    rw [e1, e2, hp] at this
    rw [Array.getElem?_eq_getElem (by rw [size_flatK]; exact hb), List.getElem?_eq_getElem (by rw [hk]; exact hr)]
    rw [getElem!_pos _ _ (by rw [size_flatK]; exact hb), getElem!_pos _ _ (by rw [hk]; exact hr)] at this
    rw [this]
   ·rw [List.getElem?_take_eq_none (by omega), List.getElem?_eq_none (by rw [hk]; omega)]
  rw [this]
  exact hM
end

def ltI (x y : S80) : Bool := decide (x.f0 < y.f0 ∨ x.f0 = y.f0 ∧ x.f1 < y.f1)
set_option maxHeartbeats 2000000 in
theorem less101 (blk c Bs size : Nat) (W : World) (x y : S80) (i j : Nat) (hi : i < size) (hj : j < size) (hs : W.cell? ⟨Bs, 0, none⟩ = some (.slice (some ⟨blk, 0, none⟩) size c))
  (x0 : W.cell? ⟨blk, i * 3, none⟩ = some (.int .i64 x.f0)) (x1 : W.cell? ⟨blk, i * 3 + 1, none⟩ = some (.int .i64 x.f1))
  (y0 : W.cell? ⟨blk, j * 3, none⟩ = some (.int .i64 y.f0)) (y1 : W.cell? ⟨blk, j * 3 + 1, none⟩ = some (.int .i64 y.f1)) :
  Calls Try.prog 101 #[.int .i64 i, .int .i64 j, .pointer (some ⟨Bs, 0, none⟩)] W fun e w' => e = .returned (.bool (ltI x y)) ∧ ∃ q, w' = W.drewN q := by
 unfold ltI
 by_cases h1 : x.f0 < y.f0
 ·have b1 : decide (x.f0 < y.f0) = true := decide_eq_true h1
  rw [decide_eq_true (.inl h1)]
  clear h1
  go_enter Try.func101, Try.ntmps101
  go_wp2
  go_quiet (fail)
  go_wp2
  go_ret
  exact ⟨rfl, nq, rfl⟩
 ·have b1 : decide (x.f0 < y.f0) = false := decide_eq_false h1
  by_cases h2 : x.f0 = y.f0
  ·have b2 : (x.f0 == y.f0) = true := beq_iff_eq.2 h2
   have b3 : decide (x.f0 < y.f0 ∨ x.f0 = y.f0 ∧ x.f1 < y.f1) = decide (x.f1 < y.f1) := by rw [decide_eq_decide]; omega
   rw [b3]
   clear h1 h2 b3
   go_enter Try.func101, Try.ntmps101
   go_wp2
   go_quiet (fail)
   go_wp2
   go_ret
   exact ⟨rfl, nq, rfl⟩
  ·have b2 : (x.f0 == y.f0) = false := beq_eq_false_iff_ne.2 h2
   rw [decide_eq_false (by omega)]
   clear h1 h2
   go_enter Try.func101, Try.ntmps101
   go_wp2
   go_quiet (fail)
   go_wp2
   go_ret
   exact ⟨rfl, nq, rfl⟩

instance : Inhabited S80 := ⟨z80⟩
def enc80 (x : S80) : List Value := [.int .i64 x.f0, .int .i64 x.f1, .int .i64 x.f2]
noncomputable def sT80 : TypeInfo := (Try.prog.info? 45).get (J2_0)
noncomputable def sE80 : TypeInfo := (Try.prog.info? 80).get (J2_0)
theorem swap80 (n : Nat) (h2 : 2 ≤ n) : Lib.swapperK n sE80 25 = 9 := by
 have a : sE80.hasPointers = false := by kernel_rfl
 have b : sE80.bytes = 24 := by kernel_rfl
 have c : (n == 0) = false := by simp; omega
 have d : (n == 1) = false := by simp; omega
 simp [Lib.swapperK, a, b, c, d]
theorem swo80 : SWO ltI := by
 refine ⟨fun x => ?_, fun x y z h k => ?_, fun x y z h k => ?_⟩
 ·simp [ltI]
 ·simp only [ltI, decide_eq_true_eq] at *
  omega
 ·simp only [ltI, decide_eq_false_iff_not] at *
  omega
theorem reads80 (g c go n : Nat) (xs : List S80) (W : World) {base : Nat} {ok : Nat → Prop} (h : Kd.R k80 80 W base ok (.slice (some ⟨g, 0, none⟩) n c) xs) (hgo : W.cell? ⟨go, 0, none⟩ = some (.slice (some ⟨g, 0, none⟩) n c)) (hlt : go < W.heap.size) (hg : g < W.heap.size) (hne : go ≠ g) :
  LessReadsK Try.prog 101 #[.pointer (some ⟨go, 0, none⟩)] enc80 3 ltI g 0 n W := by
 intro m os dk hs i j hi hj
 have hn : n = xs.length := (Kd.R_reads' h).1
 have hH : HoldsK enc80 3 W g 0 xs.toArray := own_holds (d := k80) (fun _ => rfl) (fun h => k80_openM h) h
 have e : sortWorldK enc80 3 W g 0 m dk os = putRowK enc80 3 (grow (Sort.ahead W m) os) g 0 dk := by
  unfold sortWorldK; rw [putRowK_grow _ _ (Sort.ahead W m) _ g 0 _ hg]
 have hHg : HoldsK enc80 3 (grow (Sort.ahead W m) os) g 0 xs.toArray := holdsK_grow _ _ _ _ g 0 _ hg (holdsK_ahead _ _ _ _ _ _ _ hH)
 have cel := fun t (ht : t < n) q (hq : q < 3) => ((holdsK_putRowK _ _ _ g 0 _ dk hHg (by rw [hs]; simp [hn])).cell (i := t) (c := q) (by omega) hq).1
 have ho : (sortWorldK enc80 3 W g 0 m dk os).cell? ⟨go, 0, none⟩ = some (.slice (some ⟨g, 0, none⟩) n c) := by
  rw [e, cell?_putRowK_other _ _ _ g 0 dk _ (by exact hne), cell?_grow _ _ _ (by exact hlt)]; exact hgo
 rw [← e] at cel
 have a0 := cel i hi 0 (by omega)
 have a1 := cel i hi 1 (by omega)
 have b0 := cel j hj 0 (by omega)
 have b1 := cel j hj 1 (by omega)
 simp only [Nat.zero_add, Nat.add_zero] at a0 a1 b0 b1
 exact less101 g c go n _ dk[i]! dk[j]! i j hi hj ho a0 a1 b0 b1
theorem sort80 (g c go n : Nat) (xs : List S80) (W : World) {base : Nat} {ok : Nat → Prop} (h : Kd.R k80 80 W base ok (.slice (some ⟨g, 0, none⟩) n c) xs) (hgo : W.cell? ⟨go, 0, none⟩ = some (.slice (some ⟨g, 0, none⟩) n c)) (hlt : go < W.heap.size) (hg : g < W.heap.size) (hne : go ≠ g) (h2 : 2 ≤ n) (hsz : n < 4611686018427387904) :
  Calls Try.prog 62 #[.iface 45 (.slice (some ⟨g, 0, none⟩) n c), .func (.func 101) #[] #[.pointer (some ⟨go, 0, none⟩)]] W fun e w' =>
   e = .returned (.tuple #[]) ∧ ∃ d' m os, PermIn 0 n xs.toArray d' ∧ SortedIn ltI 0 n d' ∧ w' = grow (putRowK enc80 3 (Sort.ahead W m) g 0 d') os := by
 have hn : n = xs.length := (Kd.R_reads' h).1
 have hr := reads80 g c go n xs W h hgo hlt hg hne
 have hH : HoldsK enc80 3 W g 0 xs.toArray := own_holds (d := k80) (fun _ => rfl) (fun h => k80_openM h) h
 have es : xs.toArray.size = n := by simp [hn]
 have := Any.sort_Slice_cells_sorted sv6_ 45 80 sT80 sE80 (J2_0) (J2_0) (J2_0) (J2_0) 25 (fun _ => by kernel_rfl) enc80 3 (fun _ => rfl) (J2_0) (fun _ => by kernel_rfl)
  (fun x v hv => by simp [enc80] at hv; rcases hv with rfl | rfl | rfl <;> rfl) ltI swo80 101 _
  (enters_of Try.func101 (J2_0) rfl) g 0 c xs.toArray (by rw [es]; exact h2) (by rw [es]; exact hsz) 113 (by rw [es, swap80 _ h2]; kernel_rfl) false
  (fun args W => run_callFunc_extern Try.func113 (J2_0) (J2_0) (J2_0) (e := Extern.ReflectliteSwapper.swap false) (J2_0) args W) W (by rw [es]; exact hr) hH hg
 rw [es] at this
 exact this

noncomputable abbrev EL : Value → Option (DataW Unit × List MemPlace) := plainElem Try.prog 3
theorem zero3 (w : World) : (zeroValue 3).run Try.prog w = .ok (.int .i64 0) w := by kernel_rfl

def Val (D : DataW Unit) (f : S80 → Int) : Prop := Maps.IsMap D ∧ ∀ q, ok80 q = true → D.atKey (lit80 q) (.lit (.int .i64 0)) = .lit (.int .i64 (f q))
def vsum (q : S80) (n : Int) : List S80 → Int
 | [] => n
 | x :: r => vsum q (if x.f0 = q.f0 ∧ x.f1 = q.f1 ∧ q.f2 = 0 then wrap64 (n + x.f2) else n) r
theorem vsum_snoc (q x : S80) (l : List S80) : ∀ n, vsum q n (l ++ [x]) = if x.f0 = q.f0 ∧ x.f1 = q.f1 ∧ q.f2 = 0 then wrap64 (vsum q n l + x.f2) else vsum q n l := by
 induction l with
 | nil => intro n; rfl
 | cons y r ih => intro n; exact ih _
theorem isMap_put {D : DataW Unit} {k : Lit} {d : DataW Unit} (h : Maps.IsMap D) : Maps.IsMap (D.put k d) := by
 obtain ⟨es, rfl⟩ := h
 exact ⟨_, rfl⟩
theorem Val.start : Val (.map []) (fun _ => 0) := ⟨⟨_, rfl⟩, fun q _ => rfl⟩
theorem wf_wrap (n : Int) : (Lit.int .i64 (wrap64 n)).wf = true := wrap64_wf _
theorem Val.step {D : DataW Unit} {l : List S80} {x : S80} {c : Int} (h : Val D fun q => vsum q 0 l) (hx : ok80 x = true) (hc : D.atKey (lit80 ⟨x.f0, x.f1, 0⟩) (.lit (.int .i64 0)) = .lit (.int .i64 c)) :
  Val (D.put (lit80 ⟨x.f0, x.f1, 0⟩) (.lit (.int .i64 (wrap64 (c + x.f2))))) fun q => vsum q 0 (l ++ [x]) := by
 have hk : ok80 ⟨x.f0, x.f1, 0⟩ = true := by
  simp only [ok80, Bool.and_eq_true] at hx ⊢
  exact ⟨hx.1, hx.2.1, by decide⟩
 have e := h.2 _ hk
 rw [hc] at e
 have e' : c = vsum ⟨x.f0, x.f1, 0⟩ 0 l := by injection e with e; injection e with _ e
 refine ⟨isMap_put h.1, fun q hq => ?_⟩
 show _ = DataW.lit (Lit.int .i64 (vsum q 0 (l ++ [x])))
 rw [vsum_snoc]
 by_cases hne : lit80 q = lit80 ⟨x.f0, x.f1, 0⟩
 ·have := lit80_inj hq hk hne
  subst this
  rw [Maps.atKey_put_same h.1 (lit80_key _), if_pos ⟨rfl, rfl, rfl⟩, ← e']
 ·rw [Maps.atKey_put_other hne, h.2 q hq, if_neg]
  rintro ⟨h0, h1, h2⟩
  obtain ⟨a, b, c⟩ := q
  simp only at h0 h1 h2
  subst h0 h1 h2
  exact hne rfl
theorem cell_setB {W : World} {b g j : Nat} {o : Obj} (h : g ≠ b) : (ChangeMaps.setBlock W b o).cell? ⟨g, j, none⟩ = W.cell? ⟨g, j, none⟩ := by
 unfold World.cell? ChangeMaps.setBlock
 simp [Array.getElem?_setIfInBounds_ne (Ne.symm h)]
theorem below_setB {B b : Nat} {w W : World} (h : Below B w W) (o : Obj) (hb : B ≤ b) : Below B w (ChangeMaps.setBlock W b o) := by
 refine h.trans ⟨rfl, rfl, rfl, by simp [ChangeMaps.setBlock], fun k hk => ?_⟩
 unfold ChangeMaps.setBlock
 exact Array.getElem?_setIfInBounds_ne (by omega)

def kI (x : S80) : S80 := ⟨x.f0, x.f1, 0⟩
structure Coll (l : List S80) (D : DataW Unit) (left : Lit → Bool) (ys : List S80) : Prop where
 nod : ys.Pairwise fun x y => ¬ (x.f0 = y.f0 ∧ x.f1 = y.f1)
 gone : ∀ y ∈ ys, left (lit80 (kI y)) = false
 vals : ∀ y ∈ ys, ok80 y = true ∧ y.f2 ≠ 0 ∧ y.f2 = vsum (kI y) 0 l
 all : ∀ q, ok80 q = true → Maps.has D (lit80 q) = true → left (lit80 q) = false → vsum q 0 l ≠ 0 → ∃ y ∈ ys, y.f0 = q.f0 ∧ y.f1 = q.f1
theorem vsum_z (q : S80) (l : List S80) (h : q.f2 ≠ 0) : ∀ n, vsum q n l = n := by
 induction l with
 | nil => intro n; rfl
 | cons x r ih =>
  intro n
  unfold vsum
  rw [if_neg (fun k => h k.2.2)]
  exact ih n
theorem Coll.start (l : List S80) (D : DataW Unit) : Coll l D (Maps.has D) [] :=
 ⟨List.Pairwise.nil, fun y hy => by simp at hy, fun y hy => by simp at hy, fun q _ h1 h2 => by rw [h1] at h2; cases h2⟩
theorem struck {left : Lit → Bool} {q x : S80} (hx : ok80 x = true) (hq : ok80 q = true) (h : (left (lit80 x) && !(lit80 x).sameKey (lit80 q)) = false) : left (lit80 x) = false ∨ x = q := by
 simp only [Bool.and_eq_false_iff, Bool.not_eq_false'] at h
 rcases h with h | h
 ·exact .inl h
 ·exact .inr (lit80_inj hx hq (WideAt.sameKey_eq h))
theorem Coll.skip {l : List S80} {D : DataW Unit} {left : Lit → Bool} {ys : List S80} (h : Coll l D left ys) {q : S80} (hq : ok80 q = true) (hz : vsum q 0 l = 0) :
  Coll l D (fun z => left z && !z.sameKey (lit80 q)) ys := by
 refine ⟨h.nod, fun y hy => by rw [h.gone y hy]; rfl, h.vals, fun x hx h1 h2 h3 => ?_⟩
 rcases struck hx hq h2 with h2 | rfl
 ·exact h.all x hx h1 h2 h3
 ·exact absurd hz h3
theorem ok_kI {x : S80} (h : ok80 x = true) : ok80 (kI x) = true := by
 simp only [ok80, kI, Bool.and_eq_true] at h ⊢
 exact ⟨h.1, h.2.1, by decide⟩
theorem Coll.take {l : List S80} {D : DataW Unit} {left : Lit → Bool} {ys : List S80} (h : Coll l D left ys) {q : S80} {c : Int} (hq : ok80 q = true) (hl : left (lit80 q) = true) (hc : c = vsum q 0 l) (h0 : c ≠ 0) (hw : wf64 c = true) :
  Coll l D (fun z => left z && !z.sameKey (lit80 q)) (ys ++ [⟨q.f0, q.f1, c⟩]) := by
 have h2 : q.f2 = 0 := by
  by_cases h2 : q.f2 = 0
  ·exact h2
  ·exact absurd (hc.trans (vsum_z q l h2 0)) h0
 have hk : kI ⟨q.f0, q.f1, c⟩ = q := by
  obtain ⟨a, b, d⟩ := q
  simp only at h2
  subst h2
  rfl
 refine ⟨List.pairwise_append.2 ⟨h.nod, List.pairwise_singleton _ _, fun x hx y hy => ?_⟩, fun y hy => ?_, fun y hy => ?_, fun x hx h1 h3 h4 => ?_⟩
 ·rw [List.mem_singleton.1 hy]
  rintro ⟨e0, e1⟩
  have hg := h.gone x hx
  have : kI x = q := by
   rw [← hk]
   simp only [kI]
   rw [e0, e1]
  rw [this, hl] at hg
  cases hg
 ·rcases List.mem_append.1 hy with hy | hy
  ·rw [h.gone y hy]; rfl
  ·rw [List.mem_singleton.1 hy, hk, WideAt.sameKey_self (lit80_key q)]
   simp
 ·rcases List.mem_append.1 hy with hy | hy
  ·exact h.vals y hy
  ·rw [List.mem_singleton.1 hy, hk]
   simp only [ok80, Bool.and_eq_true] at hq ⊢
   exact ⟨⟨hq.1, hq.2.1, hw⟩, h0, hc⟩
 ·rcases struck hx hq h3 with h3 | rfl
  ·obtain ⟨y, hy, e⟩ := h.all x hx h1 h3 h4
   exact ⟨y, List.mem_append_left _ hy, e⟩
  ·exact ⟨_, List.mem_append_right _ (List.mem_singleton.2 rfl), rfl, rfl⟩

structure Gath (l ys : List S80) : Prop where
 nod : ys.Pairwise fun x y => ¬ (x.f0 = y.f0 ∧ x.f1 = y.f1)
 vals : ∀ y ∈ ys, ok80 y = true ∧ y.f2 ≠ 0 ∧ y.f2 = vsum (kI y) 0 l
 all : ∀ q, ok80 q = true → vsum q 0 l ≠ 0 → ∃ y ∈ ys, y.f0 = q.f0 ∧ y.f1 = q.f1
theorem Coll.done {l : List S80} {D : DataW Unit} {left : Lit → Bool} {ys : List S80} (h : Coll l D left ys) (hv : Val D fun q => vsum q 0 l) (hl : ∀ k, left k = false) : Gath l ys := by
 refine ⟨h.nod, h.vals, fun q hq h0 => ?_⟩
 cases hh : Maps.has D (lit80 q) with
 | true => exact h.all q hq hh (hl _) h0
 | false =>
  have e := hv.2 q hq
  rw [Maps.atKey_of_not_has hh] at e
  have : (0 : Int) = vsum q 0 l := by injection e with e; injection e
  exact absurd this.symm h0
theorem Gath.perm {l ys zs : List S80} (h : Gath l ys) (hp : zs.Perm ys) : Gath l zs :=
 ⟨(hp.pairwise_iff fun {x y} h k => h ⟨k.1.symm, k.2.symm⟩).2 h.nod, fun y hy => h.vals y (hp.mem_iff.1 hy), fun q hq h0 => by
  obtain ⟨y, hy, e⟩ := h.all q hq h0
  exact ⟨y, hp.mem_iff.2 hy, e⟩⟩

theorem sorted_of {ys : List S80} {d' : Array S80} (hn : ys.Pairwise fun x y => ¬ (x.f0 = y.f0 ∧ x.f1 = y.f1)) (hp : Go.Sort.PermIn 0 ys.length ys.toArray d') (hs : Go.Sort.SortedIn ltI 0 ys.length d') :
  d'.toList.Perm ys ∧ d'.toList.Pairwise fun x y => ltI x y = true := by
 obtain ⟨h1, _, h3⟩ := hp
 have hsz : d'.size = ys.length := by simpa using h1
 have e1 : d'.extract 0 ys.length = d' := by rw [← hsz]; exact Array.extract_size
 have e2 : ys.toArray.extract 0 ys.length = ys.toArray := by
  have : ys.length = ys.toArray.size := by simp
  rw [this]; exact Array.extract_size
 rw [e1, e2] at h3
 have hperm : d'.toList.Perm ys := by simpa using h3
 have hn' := (hperm.pairwise_iff fun {x y} (h : ¬ (x.f0 = y.f0 ∧ x.f1 = y.f1)) (k : y.f0 = x.f0 ∧ y.f1 = x.f1) => h ⟨k.1.symm, k.2.symm⟩).2 hn
 refine ⟨hperm, ?_⟩
 rw [List.pairwise_iff_getElem] at hn' ⊢
 intro i j hi hj hij
 have hi' : i < d'.size := by simpa using hi
 have hj' : j < d'.size := by simpa using hj
 have h4 := hs i j (Nat.zero_le _) hij (by omega)
 have h5 := hn' i j hi hj hij
 rw [getElem!_pos d' i hi', getElem!_pos d' j hj'] at h4
 simp only [Array.getElem_toList] at h5 ⊢
 simp only [ltI, decide_eq_false_iff_not, decide_eq_true_eq] at h4 ⊢
 omega
theorem own_cells {α : Type} {d : Kd α} {e base g : Nat} {W : World} {ok : Nat → Prop} {v : Value} {xs : List α} (h : Kd.R d e W base ok v xs) (hg : some g = v.ownBlock) : ∃ cells, W.heap[g]? = some (.cells cells e (0, 0)) := by
 obtain ⟨_, inner, ho, _⟩ := h
 exact own_typed ho g hg.symm
theorem own_ge {α : Type} {d : Kd α} {e base g : Nat} {W : World} {ok : Nat → Prop} {v : Value} {xs : List α} (h : Kd.R d e W base ok v xs) (hg : v.ownBlock = some g) : base ≤ g := by
 obtain ⟨_, inner, ho, _⟩ := h
 exact own_base ho g hg
theorem grown_cell (W : World) (b : Nat) (v : Value) : W.grownBy (W.setCell ⟨b, 0, none⟩ v) (some b) :=
 ⟨rfl, rfl, rfl, by simp [World.setCell], fun k hk hne => Below.heap_setCell W ⟨b, 0, none⟩ v k (fun e => hne (by rw [e]))⟩
theorem grown_grow (W : World) (os : Array Obj) : W.grownBy (Sort.grow W os) none := ⟨rfl, rfl, rfl, by simp, fun k hk _ => Sort.heap_grow_old _ _ hk⟩
theorem tiny80 (p : Option Addr) (n c : Nat) (h1 : n ≤ 1) (go : Nat) (W : World) : Calls Try.prog 62 #[.iface 45 (.slice p n c), .func (.func 101) #[] #[.pointer (some ⟨go, 0, none⟩)]] W fun e w' => e = .returned (.tuple #[]) ∧ ∃ os, w' = Sort.grow W os := by
 have hK : Lib.swapperK n sE80 25 = n + 1 := by
  rcases Nat.eq_zero_or_pos n with h | h
  ·subst h; simp [Lib.swapperK]
  ·obtain rfl : n = 1 := by omega
   simp [Lib.swapperK]
 exact Any.sort_Slice_tiny sv6_ 45 80 sT80 sE80 (J2_0) (J2_0) (J2_0) (J2_0) 25 (fun _ => by kernel_rfl) p n c h1 (105 + n) (by
  rw [hK]
  rcases Nat.eq_zero_or_pos n with h | h
  ·subst h; kernel_rfl
  ·obtain rfl : n = 1 := by omega
   kernel_rfl) (.func 101) #[] #[.pointer (some ⟨go, 0, none⟩)] W
theorem pair_short {ys : List S80} (h : ¬ 2 ≤ ys.length) : ys.Pairwise fun x y => ltI x y = true := by
 match ys, h with
 | [], _ => exact List.Pairwise.nil
 | [x], _ => exact List.pairwise_singleton _ _
 | x :: y :: r, h => exact absurd (by simp) h
theorem row_ne_iterR {α : Type} {d : Kd α} {e base b r n : Nat} {W : World} {ok : Nat → Prop} {v : Value} {xs : List α} {k : TypeId} {R : Value → Option (DataW Unit × List MemPlace)} {D : DataW Unit} {left : Lit → Bool} {cnt : Nat} {P : Program}
  (h : Kd.R d e W base ok v xs) (hr : W.ranges P k R b r n D left cnt) : some r ≠ v.ownBlock := fun hg => by
 obtain ⟨cells, hc⟩ := own_cells h hg
 obtain ⟨_, _, _, _, _, _, _, _, _, hit, _⟩ := hr
 rw [hit] at hc
 cases hc
theorem row_ne_mapR {α : Type} {d : Kd α} {e base b r n : Nat} {W : World} {ok : Nat → Prop} {v : Value} {xs : List α} {k : TypeId} {R : Value → Option (DataW Unit × List MemPlace)} {D : DataW Unit} {left : Lit → Bool} {cnt : Nat} {P : Program}
  (h : Kd.R d e W base ok v xs) (hr : W.ranges P k R b r n D left cnt) : some b ≠ v.ownBlock := fun hg => by
 obtain ⟨cells, hc⟩ := own_cells h hg
 obtain ⟨_, _, _, _, _, hb, _⟩ := hr
 rw [hb] at hc
 cases hc
set_option maxHeartbeats 8000000 in
set_option maxRecDepth 100000 in
theorem gathered_walk (A0 : Option Addr) (c0 : Nat) (l0 : List S80) (w : World) (hr0 : Kd.C k80 w A0 l0.length l0) (hc0 : l0.length ≤ c0) (hlen : l0.length ≤ 1000000) (hok : ∀ x ∈ l0, ok80 x = true) :
 Calls Try.prog 78 #[.slice A0 l0.length c0] w fun e w' => ∃ v0_ ys, e = .returned v0_ ∧ Kd.R k80 80 w' w.heap.size (fun _ => True) v0_ ys ∧ Below w.heap.size w w' ∧ Gath l0 ys ∧ ys.Pairwise fun x y => ltI x y = true := by
 have hu80 := Try.underlying80
 have HR0 := Aside0.mk hr0
 have HC0 := Aside0.mk hc0
 have HL := Aside0.mk hlen
 clear hr0 hc0 hlen
 have hmm := @run_makeMap Try.prog
 go_enter Try.func78, Try.ntmps78
 go_wp2
 go_loopw [12] (fun i wr => ∃ (kk : Nat) (D : DataW Unit), kk ≤ l0.length ∧ i = .int .i64 kk ∧ wr.ownsMap Try.prog 80 EL w.heap.size kk D ∧ Val D (fun q => vsum q 0 (l0.take kk)) ∧ Below w.heap.size w wr) (fun i _ => l0.length - (intOf i).toNat)
 case atStart => exact ⟨0, .map [], Nat.zero_le _, rfl, World.ownsMap_made _ _ _ _, Val.start, (Below.refl _ _).alloc (Nat.le_refl _) _⟩
 case round =>
  obtain ⟨kk, D, hk, rfl, hown, hval, HB⟩ := hrel
  by_cases hlt : kk < l0.length
  ·have c0b : decide ((kk : Int) < (l0.length : Int)) = true := decide_eq_true (by omega)
   have p114 : 0 ≤ (kk : Int) := by omega
   have q114 : (kk : Int) < (l0.length : Int) := by omega
   obtain ⟨ad, e, hx0, hx1, hx2⟩ := at_T80 HR0.out (kk : Int) p114 q114
   cases e
   replace hx0 := (HB.cell (World.block_lt_of_cell? w _ hx0)).trans hx0
   replace hx1 := (HB.cell (World.block_lt_of_cell? w _ hx1)).trans hx1
   replace hx2 := (HB.cell (World.block_lt_of_cell? w _ hx2)).trans hx2
   simp only [Int.toNat_natCast] at hx0 hx1 hx2
   replace p114 := eq_true p114
   replace q114 := eq_true q114
   go_wp2
   generalize hx : rd_T80 l0 (kk : Int) = x at *
   have hxm : l0.take (kk + 1) = l0.take kk ++ [x] := by
    rw [List.take_succ_eq_append_getElem hlt]
    congr 2
    rw [← hx]
    unfold rd_T80
    rw [List.getD_eq_getElem?_getD, Int.toNat_natCast, List.getElem?_eq_getElem hlt]
    rfl
   have hxo : ok80 x = true := hok x (by
    have : x ∈ l0.take (kk + 1) := by rw [hxm]; simp
    exact List.mem_of_mem_take this)
   have hk : ok80 ⟨x.f0, x.f1, 0⟩ = true := by
    simp only [ok80, Bool.and_eq_true] at hxo ⊢
    exact ⟨hxo.1, hxo.2.1, by decide⟩
   have hbm := hown.lt
   have hn_ : kk < maxLen := by have := HL.out; unfold maxLen; omega
   obtain ⟨W1, hW1⟩ : ∃ W1, W1 = (wr.alloc (.cells #[.int .i64 x.f0, .int .i64 x.f1, .int .i64 x.f2] 80)).drew := ⟨_, rfl⟩
   have hown1 : W1.ownsMap Try.prog 80 EL w.heap.size kk D := by rw [hW1]; exact (hown.alloc _).drew
   have HB1 : Below w.heap.size w W1 := by rw [hW1]; exact (HB.alloc HB.size _).drew
   have k0 : W1.cell? ⟨wr.heap.size, 0, none⟩ = some (.int .i64 x.f0) := by rw [hW1]; simp
   have k1 : W1.cell? ⟨wr.heap.size, 1, none⟩ = some (.int .i64 x.f1) := by rw [hW1]; simp
   have k2 : W1.cell? ⟨wr.heap.size, 2, none⟩ = some (.int .i64 x.f2) := by rw [hW1]; simp
   obtain ⟨c, st, o1, D1, hl, hat, hme, hownE, hatE, hst⟩ := own_entry law80 Try.underlying115 Try.underlying3 zero3 hown1 hn_ (key80 hk)
   have hlE : (Instr.lookup 115 (.map (some w.heap.size)) (v80 ⟨x.f0, x.f1, 0⟩) false).run Try.prog (ChangeMaps.setBlock W1 w.heap.size o1) = .ok (.int .i64 c) (ChangeMaps.setBlock W1 w.heap.size o1) := by
    obtain ⟨c', h1, h2, _⟩ := hownE.lookup_int kd80 Try.underlying115 Try.underlying3 (zero3 _) (key80 hk)
    rw [hatE] at h2
    have : c = c' := by injection h2 with h2; injection h2
    rw [h1, this]
   have hne : wr.heap.size ≠ w.heap.size := by omega
   have hb1 : (ChangeMaps.setBlock W1 w.heap.size o1).heap[w.heap.size]? = some o1 := by
    have hlt1 : w.heap.size < W1.heap.size := hown1.lt
    unfold ChangeMaps.setBlock
    rw [Array.getElem?_setIfInBounds_self_of_lt hlt1]
   obtain ⟨o2, hse, hown3⟩ := hst _ (wrap64 (c + x.f2)) hb1 (wf_wrap _)
   rw [show goInt (st : Int) = .int .i64 (st : Int) from rfl] at hse hme
   have hup : wrap64 ((kk : Int) + 1) = ((kk + 1 : Nat) : Int) := by have := HL.out; unfold wrap64; omega
   have HB3 : Below w.heap.size w (ChangeMaps.setBlock (ChangeMaps.setBlock W1 w.heap.size o1) w.heap.size o2) := below_setB (below_setB HB1 _ (Nat.le_refl _)) _ (Nat.le_refl _)
   have kE : ∀ (j : Nat) (v : Value), W1.cell? ⟨wr.heap.size, j, none⟩ = some v → (ChangeMaps.setBlock W1 w.heap.size o1).cell? ⟨wr.heap.size, j, none⟩ = some v := fun j v h => (cell_setB hne).trans h
   have e1 := kE 0 _ k0
   have e2 := kE 1 _ k1
   have e3 := kE 2 _ k2
   clear kE
   have hval3 := hval.step hxo hat
   rw [← hxm] at hval3
   unfold v80 at hl hlE hme
   simp only at hl hlE hme
   refine start_ (n := 13) (ds := [12]) (S := fun w' => w'.cell? ⟨wr.heap.size, 0, none⟩ = some (.int .i64 x.f0) ∧ w'.cell? ⟨wr.heap.size, 1, none⟩ = some (.int .i64 x.f1) ∧ w'.cell? ⟨wr.heap.size, 2, none⟩ = some (.int .i64 x.f2) ∧ (Instr.lookup 115 (.map (some w.heap.size)) (.agg #[.int .i64 x.f0, .int .i64 x.f1, .int .i64 0]) false).run Try.prog w' = .ok (.int .i64 c) w') #[false, false, false, false, false, false, false, false, false, false, false, false, false] (J2_0) rfl rfl ⟨hW1 ▸ k0, hW1 ▸ k1, hW1 ▸ k2, hW1 ▸ hl⟩ (fun hHeld => ?_)
   rw [← hW1] at hHeld ⊢
   have HW1 := Aside0.mk hW1
   clear hW1
   refine pure_ (i := 0) (N := (some 16)) (v := ?_) (a' := ?_) #[true, false, false, false, false, false, false, false, false, false, false, false, false] rfl rfl (J2_0) (fun _ _ _ h => h) (Or.inl ⟨by rfl, ?_⟩) ?_ ?_
   rotate_left
   ·intro w'
    go_simp
    with_reducible rfl
   rotate_left
   ·simp only [Act.put, List.setIfInBounds_toArray, List.set_cons_zero, List.set_cons_succ, i64_w, i32_w]
    rfl
   refine pure_ (i := 1) (N := (some 17)) (v := ?_) (a' := ?_) #[true, true, false, false, false, false, false, false, false, false, false, false, false] rfl rfl (J2_0) (fun _ _ _ h => h) (Or.inl ⟨by rfl, ?_⟩) ?_ ?_
   rotate_left
   ·intro w'
    go_simp
    with_reducible rfl
   rotate_left
   ·simp only [Act.put, List.setIfInBounds_toArray, List.set_cons_zero, List.set_cons_succ, i64_w, i32_w]
    rfl
   refine pure_ (i := 3) (N := (some 19)) (v := ?_) (a' := ?_) #[true, true, false, true, false, false, false, false, false, false, false, false, false] rfl rfl (J2_0) (fun _ _ _ h => h) (Or.inl ⟨by rfl, ?_⟩) ?_ ?_
   rotate_left
   ·intro w'
    go_simp
    with_reducible rfl
   rotate_left
   ·simp only [Act.put, List.setIfInBounds_toArray, List.set_cons_zero, List.set_cons_succ, i64_w, i32_w]
    rfl
   refine pure_ (i := 7) (N := (some 23)) (v := ?_) (a' := ?_) #[true, true, false, true, false, false, false, true, false, false, false, false, false] rfl rfl (J2_0) (fun _ _ _ h => h) (Or.inl ⟨by rfl, ?_⟩) ?_ ?_
   rotate_left
   ·intro w'
    go_simp
    with_reducible rfl
   rotate_left
   ·simp only [Act.put, List.setIfInBounds_toArray, List.set_cons_zero, List.set_cons_succ, i64_w, i32_w]
    rfl
   refine take_ (i := 2) (N := (some 18)) (v := ?_) (a' := ?_) #[true, true, true, true, false, false, false, true, false, false, false, false, false] rfl rfl (J2_0) (fun _ _ _ h => h) (Or.inl ⟨by rfl, ?_⟩) hHeld ?_ ?_
   rotate_left
   ·rintro w' ⟨s0, s1, s2, s3⟩
    go_simp
    with_reducible rfl
   rotate_left
   ·simp only [Act.put, List.setIfInBounds_toArray, List.set_cons_zero, List.set_cons_succ, i64_w, i32_w]
    rfl
   refine take_ (i := 4) (N := (some 20)) (v := ?_) (a' := ?_) #[true, true, true, true, true, false, false, true, false, false, false, false, false] rfl rfl (J2_0) (fun _ _ _ h => h) (Or.inl ⟨by rfl, ?_⟩) hHeld ?_ ?_
   rotate_left
   ·rintro w' ⟨s0, s1, s2, s3⟩
    go_simp
    with_reducible rfl
   rotate_left
   ·simp only [Act.put, List.setIfInBounds_toArray, List.set_cons_zero, List.set_cons_succ, i64_w, i32_w]
    rfl
   refine take_ (i := 8) (N := (some 24)) (v := ?_) (a' := ?_) #[true, true, true, true, true, false, false, true, true, false, false, false, false] rfl rfl (J2_0) (fun _ _ _ h => h) (Or.inl ⟨by rfl, ?_⟩) hHeld ?_ ?_
   rotate_left
   ·rintro w' ⟨s0, s1, s2, s3⟩
    go_simp
    with_reducible rfl
   rotate_left
   ·simp only [Act.put, List.setIfInBounds_toArray, List.set_cons_zero, List.set_cons_succ, i64_w, i32_w]
    rfl
   refine pure_ (i := 5) (N := (some 21)) (v := ?_) (a' := ?_) #[true, true, true, true, true, true, false, true, true, false, false, false, false] rfl rfl (J2_0) (fun _ _ _ h => h) (Or.inl ⟨by rfl, ?_⟩) ?_ ?_
   rotate_left
   ·intro w'
    go_simp
    with_reducible rfl
   rotate_left
   ·simp only [Act.put, List.setIfInBounds_toArray, List.set_cons_zero, List.set_cons_succ, i64_w, i32_w]
    rfl
   refine two_ (i := 6) (j := 10) (Ni := some 22) (Nj := some 26) #[true, true, true, true, true, true, true, true, true, false, false, false, false] #[true, true, true, true, true, true, false, true, true, false, true, false, false] rfl rfl rfl rfl (J2_0) (by decide) (by decide) (fun K hK => ?_) (fun K hK => ?_)
   ·refine value_ (by rfl) rfl (w1 := W1) (v := .int .i64 c) ?_ ?_
    ·go_simp
    refine hK.out _ _ ⟨k0, k1, k2, hl⟩ (fun hHeld => ?_)
    clear hK K
    refine norm_ (a' := ?_) ?_ ?_
    rotate_left
    ·show Act.put _ (some 22) _ = _
     simp only [Act.put, List.setIfInBounds_toArray, List.set_cons_zero, List.set_cons_succ, i64_w, i32_w]
     rfl
    refine pure_ (i := 9) (N := (some 25)) (v := ?_) (a' := ?_) #[true, true, true, true, true, true, true, true, true, true, false, false, false] rfl rfl (J2_0) (fun _ _ _ h => h) (Or.inl ⟨by rfl, ?_⟩) ?_ ?_
    rotate_left
    ·intro w'
     go_simp
     with_reducible rfl
    rotate_left
    ·simp only [Act.put, List.setIfInBounds_toArray, List.set_cons_zero, List.set_cons_succ, i64_w, i32_w]
     rfl
    refine one_ (i := 10) (N := some 26) #[true, true, true, true, true, true, true, true, true, true, true, false, false] rfl rfl (J2_0) (by decide) (fun K hK => ?_)
    refine value_ (by rfl) rfl (w1 := ChangeMaps.setBlock W1 w.heap.size o1) (v := .tuple #[.int .i64 c, .int .i64 (st : Int)]) ?_ ?_
    ·go_simp
    refine hK.out _ _ ⟨e1, e2, e3, hlE⟩ (fun hHeld => ?_)
    clear hK K
    refine norm_ (a' := ?_) ?_ ?_
    rotate_left
    ·show Act.put _ (some 26) _ = _
     simp only [Act.put, List.setIfInBounds_toArray, List.set_cons_zero, List.set_cons_succ, i64_w, i32_w]
     rfl
    refine pure_ (i := 11) (N := (some 27)) (v := ?_) (a' := ?_) #[true, true, true, true, true, true, true, true, true, true, true, true, false] rfl rfl (J2_0) (fun _ _ _ h => h) (Or.inl ⟨by rfl, ?_⟩) ?_ ?_
    rotate_left
    ·intro w'
     go_simp
     with_reducible rfl
    rotate_left
    ·simp only [Act.put, List.setIfInBounds_toArray, List.set_cons_zero, List.set_cons_succ, i64_w, i32_w]
     rfl
    refine last_ (i := 12) (N := none) #[true, true, true, true, true, true, true, true, true, true, true, true, true] rfl rfl (J2_0) (by decide) (fun K hK => ?_)
    refine skip_ (by rfl) rfl (w1 := (ChangeMaps.setBlock (ChangeMaps.setBlock W1 w.heap.size o1) w.heap.size o2)) ?_ ?_
    ·go_simp
    refine hK.out _ _ ?_
    clear hK K
    refine done_ (J2_0) ?_
    generalize ChangeMaps.setBlock (ChangeMaps.setBlock W1 w.heap.size o1) w.heap.size o2 = w3 at hown3 HB3 ⊢
    clear e1 e2 e3 hlE hme hl hst hatE hownE k0 k1 k2 hHeld hse hb1
    go_wp2
    go_roundw
    case rel => exact ⟨kk + 1, _, by omega, by rw [hup], hown3, hval3, HB3⟩
    case measure => rw [hup]; simp [intOf]; omega
   ·refine value_ (by rfl) rfl (w1 := ChangeMaps.setBlock W1 w.heap.size o1) (v := .tuple #[.int .i64 c, .int .i64 (st : Int)]) ?_ ?_
    ·go_simp
    refine hK.out _ _ ⟨e1, e2, e3, hlE⟩ (fun hHeld => ?_)
    clear hK K
    refine norm_ (a' := ?_) ?_ ?_
    rotate_left
    ·show Act.put _ (some 26) _ = _
     simp only [Act.put, List.setIfInBounds_toArray, List.set_cons_zero, List.set_cons_succ, i64_w, i32_w]
     rfl
    refine pure_ (i := 11) (N := (some 27)) (v := ?_) (a' := ?_) #[true, true, true, true, true, true, false, true, true, false, true, true, false] rfl rfl (J2_0) (fun _ _ _ h => h) (Or.inl ⟨by rfl, ?_⟩) ?_ ?_
    rotate_left
    ·intro w'
     go_simp
     with_reducible rfl
    rotate_left
    ·simp only [Act.put, List.setIfInBounds_toArray, List.set_cons_zero, List.set_cons_succ, i64_w, i32_w]
     rfl
    refine one_ (i := 6) (N := some 22) #[true, true, true, true, true, true, true, true, true, false, true, true, false] rfl rfl (J2_0) (by decide) (fun K hK => ?_)
    refine value_ (by rfl) rfl (w1 := ChangeMaps.setBlock W1 w.heap.size o1) (v := .int .i64 c) ?_ ?_
    ·go_simp
    refine hK.out _ _ ⟨e1, e2, e3, hlE⟩ (fun hHeld => ?_)
    clear hK K
    refine norm_ (a' := ?_) ?_ ?_
    rotate_left
    ·show Act.put _ (some 22) _ = _
     simp only [Act.put, List.setIfInBounds_toArray, List.set_cons_zero, List.set_cons_succ, i64_w, i32_w]
     rfl
    refine pure_ (i := 9) (N := (some 25)) (v := ?_) (a' := ?_) #[true, true, true, true, true, true, true, true, true, true, true, true, false] rfl rfl (J2_0) (fun _ _ _ h => h) (Or.inl ⟨by rfl, ?_⟩) ?_ ?_
    rotate_left
    ·intro w'
     go_simp
     with_reducible rfl
    rotate_left
    ·simp only [Act.put, List.setIfInBounds_toArray, List.set_cons_zero, List.set_cons_succ, i64_w, i32_w]
     rfl
    refine last_ (i := 12) (N := none) #[true, true, true, true, true, true, true, true, true, true, true, true, true] rfl rfl (J2_0) (by decide) (fun K hK => ?_)
    refine skip_ (by rfl) rfl (w1 := (ChangeMaps.setBlock (ChangeMaps.setBlock W1 w.heap.size o1) w.heap.size o2)) ?_ ?_
    ·go_simp
    refine hK.out _ _ ?_
    clear hK K
    refine done_ (J2_0) ?_
    generalize ChangeMaps.setBlock (ChangeMaps.setBlock W1 w.heap.size o1) w.heap.size o2 = w3 at hown3 HB3 ⊢
    clear e1 e2 e3 hlE hme hl hst hatE hownE k0 k1 k2 hHeld hse hb1
    go_wp2
    go_roundw
    case rel => exact ⟨kk + 1, _, by omega, by rw [hup], hown3, hval3, HB3⟩
    case measure => rw [hup]; simp [intOf]; omega
  ·have hkl : kk = l0.length := by omega
   subst hkl
   have c0b : decide ((l0.length : Int) < (l0.length : Int)) = false := decide_eq_false (by omega)
   clear hlt hk
   rw [List.take_length] at hval
   go_wp2_with (first
    | ((with_reducible refine gate_dst (N := 29) rfl ?_); refine Kd.R_lit k80 _ 80 ?hg (N := 29) ?hd (xs := ([] : List S80)) (inner := []) (ok := fun _ => True) (okp := fun _ => True) ?hr ?hp (fun _ hk => hk) trivial (Below.refl _ _) (Nat.le_refl _) (by simp) ?_; (case hd => rfl); (case hg => rfl); (case hr => first | (go_simp; done) | (go_simp; rfl)); (case hp => exact (Reps.none _ _)); intro v29 w29 hO hb29 hgr hnew; clear hgr hnew; obtain ⟨A29, c29, e29⟩ := Kd.R_slice hO; subst e29; simp only [List.length_nil] at hO ⊢)
    | (at_range; refine wpList_range_own _ rfl _ 115 rfl 80 3 kd80 Try.underlying115 _ w.heap.size l0.length D rfl ((hown.kept (grown_of_below hb29 none) (by simp)).alloc _) ?_; intro w0 hrg0 hg0 hs0)
    | go_in)
   try go_frame
   have e1 : (w29.alloc (.cells #[.slice A29 0 c29] 45)).heap.size = w29.heap.size + 1 := by simp
   rw [e1] at hrg0 hs0 ⊢
   have hsz29 : wr.heap.size ≤ w29.heap.size := hb29.size
   have hbx : (w29.alloc (.cells #[.slice A29 0 c29] 45)).heap[w29.heap.size]? = some (.cells #[.slice A29 0 c29] 45 (0, 0)) := by simpa using heap_alloc_new w29 _
   have hbx0 : w0.heap[w29.heap.size]? = some (.cells #[.slice A29 0 c29] 45 (0, 0)) := (hg0.block _ (by rw [e1]; omega) (by simp)).trans hbx
   have hO0 : Kd.R k80 80 w0 wr.heap.size (fun _ => True) (.slice A29 0 c29) [] := Kd.R_grown (Kd.R_alloc hO _) hg0 (fun _ _ => by simp)
   have HBB : Below w.heap.size w w0 := ((below_weaken HB HB.size hb29).alloc (by have := HB.size; omega) _).grown hg0 (by rw [e1]; have := HB.size; omega) (fun j hj => by cases hj)
   have hsD : Maps.size D ≤ l0.length := by
    obtain ⟨es, clock, _, _, h1, rfl⟩ := hown
    simpa [Maps.size, length_sorted] using h1
   have hbm := hown.lt
   have hw0 := HB.size
   generalize w29.heap.size = gb at *
   clear hO hbx hg0 hb29 hs0 e1 hown HB
   generalize wr.heap.size = B0 at *
   go_loopw [] (fun wr2 => ∃ (left : Lit → Bool) (cnt : Nat) (ys : List S80) (A : Option Addr) (cc : Nat), wr2.ranges Try.prog 80 EL w.heap.size (gb + 1) l0.length D left cnt ∧ ys.length + cnt ≤ l0.length ∧ Kd.R k80 80 wr2 B0 (fun _ => True) (.slice A ys.length cc) ys ∧
    wr2.heap[gb]? = some (.cells #[.slice A ys.length cc] 45 (0, 0)) ∧ Coll l0 D left ys ∧ Below w.heap.size w wr2) (fun wr2 => wr2.rangeLeft w.heap.size (gb + 1))
   case atStart => exact ⟨_, _, [], A29, c29, hrg0, by simpa using hsD, hO0, hbx0, Coll.start _ _, HBB⟩
   case round =>
    obtain ⟨left, cnt, ys, A, cc, hrg, hcs, hO, hbx, hC, HB2⟩ := hrel
    go_wp2_with (first
     | (at_next; refine wpList_next_ranges _ rfl _ rfl 80 kd80 EL v80 (Value.int .i64) (fun key kl hk => by obtain ⟨x, hx, _⟩ := key80_inv hk; exact ⟨x, hx⟩) (fun v y hv => by obtain ⟨c, rfl, _⟩ := plainElem_int_inv Try.underlying3 hv; exact ⟨c, rfl⟩) w.heap.size (gb + 1) l0.length _ _ _ rfl hrg ?_ ?_)
     | go_in)
    ·
     intro hcnt hl
     have hG := hC.done hval hl
     have hcg : wr.cell? ⟨gb, 0, none⟩ = some (.slice A ys.length cc) := (blk_cell hbx 0).trans rfl
     have hgb : gb < wr.heap.size := (Array.getElem?_eq_some_iff.1 hbx).1
     have hlen : ys.length ≤ 1000000 := by have := HL.out; omega
     by_cases h2 : 2 ≤ ys.length
     ·obtain ⟨g, cap, ev, hBg, hgl, cells, hgc⟩ := Kd.R_form hO (by omega)
      have eA : A = some ⟨g, 0, none⟩ := by injection ev
      have ec : cc = cap := by injection ev
      subst eA
      subst ec
      have hne : gb ≠ g := fun e => by rw [e, hgc] at hbx; cases hbx
      have hS := sort80 g cc gb ys.length ys wr hO hcg hgb hgl hne h2 (by omega)
      clear h2 hgc ev hC hl hrg hcs
      go_wp2_with (first
       | (go_at_call 62; refine hS.mono ?_; rintro e w' ⟨rfl, d', m, os, hp, hso, rfl⟩; have hcz : (Sort.grow (Sort.putRowK enc80 3 (Sort.ahead wr m) g 0 d') os).cell? ⟨gb, 0, none⟩ = some (.slice (some ⟨g, 0, none⟩) ys.length cc) := (by rw [Sort.cell?_grow _ _ _ (by simpa [Sort.putRowK] using hgb), Sort.cell?_putRowK_other _ _ _ g 0 d' _ hne]; exact hcg); have hszd : d'.size = ys.length := (by simpa using hp.1); have hOs := R_sorted (d := k80) (fun _ => rfl) (k80_mkM _ _ _ _) hO d' hszd m os; have hBs := HB2.grown (grownBy_sortedK (g := g) (enc := enc80) (k := 3) (m := m) (os := os) d') HB2.size (fun k hk => by injection hk; omega); obtain ⟨hpm, hpw⟩ := sorted_of hG.nod hp hso)
       | go_in)
      go_ret
      exact ⟨_, d'.toList, rfl, Kd.R_lower hOs (by omega), hBs, hG.perm hpm, hpw⟩
     ·have hS := tiny80 A ys.length cc (by omega) gb wr
      have hGt : ys.Pairwise fun x y => ltI x y = true := pair_short h2
      clear h2 hC hl hrg hcs
      go_wp2_with (first
       | (go_at_call 62; refine hS.mono ?_; rintro e w' ⟨rfl, os, rfl⟩; have hcz : (Sort.grow wr os).cell? ⟨gb, 0, none⟩ = some (.slice A ys.length cc) := (by rw [Sort.cell?_grow _ _ _ hgb]; exact hcg); have hgr : wr.grownBy (Sort.grow wr os) none := grown_grow wr os)
       | go_in)
      go_ret
      exact ⟨_, ys, rfl, Kd.R_lower (Kd.R_grown hO hgr (fun _ _ => by simp)) (by omega), HB2.grown hgr HB2.size (fun k hk => by cases hk), hG, hGt⟩
    ·
     intro q c kl yd yp w2 cnt2 hkey hlk hv hat hrg2 hlt2 hg2 hs2 hen
     obtain ⟨q', eq', hq, rfl⟩ := key80_inv hkey
     obtain rfl : q = q' := by
      obtain ⟨a, b, d⟩ := q
      obtain ⟨a', b', d'⟩ := q'
      simp only [v80] at eq'
      injection eq' with eq'
      simpa using eq'
     obtain ⟨c', ec, ey, hwc⟩ := plainElem_int_inv Try.underlying3 hv
     obtain rfl : c = c' := by injection ec
     have hcv : c = vsum q 0 l0 := by
      have h1 := hat (.lit (.int .i64 0))
      rw [hval.2 q hq] at h1
      have e2 : yd = .lit (.int .i64 c) := congrArg Prod.fst ey
      rw [e2] at h1
      injection h1 with h1
      injection h1 with _ h1
      exact h1.symm
     clear hkey hat hv ey ec eq'
     have hO2 : Kd.R k80 80 w2 B0 (fun _ => True) (.slice A ys.length cc) ys := Kd.R_mono (Kd.R_grown (Kd.R_tight rfl hO) hg2 (fun k hk e => row_ne_iterR hO hrg (by rw [← e]; exact hk))) (fun _ _ => trivial)
     have hbx2 : w2.heap[gb]? = some (.cells #[.slice A ys.length cc] 45 (0, 0)) := (hg2.block gb (Array.getElem?_eq_some_iff.1 hbx).1 (by simp)).trans hbx
     have HB3 : Below w.heap.size w w2 := HB2.grown hg2 HB2.size (fun j hj => by cases hj; omega)
     have hszx : w.heap.size < w2.heap.size := by rw [hs2]; exact hrg.owns.lt
     have hBg : B0 ≤ gb := hsz29
     have hgb2 : gb < w2.heap.size := (Array.getElem?_eq_some_iff.1 hbx2).1
     have hleft := hrg.left_eq
     clear hs2 hbx hO hrg hg2
     unfold v80 at hen ⊢
     by_cases hc0 : c = 0
     ·have b0 : (c != 0) = false := by simp [hc0]
      have hC2 := hC.skip hq (by rw [← hcv]; exact hc0)
      clear hcv hc0 hwc
      go_wp2
      go_roundw
      case rel => exact ⟨_, cnt2, ys, A, cc, hrg2.alloc _, by omega, Kd.R_alloc hO2 _, blk_alloc hbx2 _, hC2, HB3.alloc (by omega) _⟩
      case measure => rw [(hrg2.alloc _).left_eq, hleft]; exact hlt2
     ·have b0 : (c != 0) = true := by simp [hc0]
      have hC2 := hC.take hq hlk hcv hc0 hwc
      clear hcv hc0 hwc
      have hcg : (w2.alloc (.cells #[.int .i64 q.f0, .int .i64 q.f1, .int .i64 c] 80)).cell? ⟨gb, 0, none⟩ = some (.slice A ys.length cc) := (World.cell?_alloc_lt _ _ _ hgb2).trans ((blk_cell hbx2 0).trans rfl)
      go_wp2_with (first
       | ((with_reducible refine gate_builtin (b := .append) (xs := #[.tmp 41, .tmp 43]) rfl ?_); at_builtin; refine Kd.R_append k80 (w0 := w2) B0 rfl (.tmp 41) (.tmp 43) 45 80 (.agg #[(.int .i64 0), (.int .i64 0), (.int .i64 0)]) 24 rfl Try.underlying45 info80 rfl (by decide) (by omega) (.slice A ys.length cc) ys (⟨q.f0, q.f1, c⟩ : S80) [.int .i64 q.f0, .int .i64 q.f1, .int .i64 c] (fun _ => True) (fun _ => False) rfl (by first | (go_simp; done) | (go_simp; rfl)) ?aP (fun _ hk => hk.elim) ?aF ?aO ?aB ?aS ?aL ?_; (case aP => exact k80_mkM _ _ _ (⟨q.f0, q.f1, c⟩ : S80)); (case aF => exact fun _ _ => trivial); (case aO => exact Kd.R_alloc hO2 _); (case aB => exact (Below.refl _ _).alloc (show B0 ≤ w2.heap.size by omega) _); (case aS => simp; omega); (case aL => have := HL.out; omega); intro v1 w1 hO1 hb1 hg1 hat1; clear hat1 hb1; obtain ⟨A1, c1, e1⟩ := Kd.R_slice hO1; subst e1; have hgbn : some gb ≠ (Value.slice A ys.length cc).ownBlock := (fun hg => by obtain ⟨cells, hc⟩ := own_cells hO2 hg; rw [hbx2] at hc; cases hc); have hbx3 := blk_grown (by simpa using blk_alloc hbx2 _) hg1 hgbn; have hcg3 : w1.cell? ⟨gb, 0, none⟩ = some (.slice A ys.length cc) := (blk_cell hbx3 0).trans rfl; have hfz3 := blk_frozen hbx3 0)
       | go_in)
      have hl2 : (ys ++ [(⟨q.f0, q.f1, c⟩ : S80)]).length = ys.length + 1 := by simp
      rw [← hl2]
      have n1 := row_ne_mapR hO2 hrg2
      have n2 := row_ne_iterR hO2 hrg2
      have hrg3 := ((hrg2.alloc (.cells #[.int .i64 q.f0, .int .i64 q.f1, .int .i64 c] 80)).kept hg1 n1 n2).kept (grown_cell w1 gb (.slice A1 (ys ++ [(⟨q.f0, q.f1, c⟩ : S80)]).length c1)) (fun e => by injection e; omega) (fun e => by injection e; omega)
      have hgb3 : some gb ≠ (Value.slice A1 (ys ++ [(⟨q.f0, q.f1, c⟩ : S80)]).length c1).ownBlock := fun hg => by
       obtain ⟨cells, hc⟩ := own_cells hO1 hg
       rw [hbx3] at hc
       cases hc
      go_roundw
      case rel =>
       refine ⟨_, cnt2, ys ++ [(⟨q.f0, q.f1, c⟩ : S80)], A1, c1, hrg3, by rw [hl2]; omega, Kd.R_mono (Kd.R_grown (Kd.R_tight rfl hO1) (grown_cell w1 gb _) (fun k hk e => hgb3 (by rw [← e]; exact hk))) (fun _ _ => trivial), blk_put hbx3 0 _ rfl, hC2, ?_⟩
       have hs1 := hg1.size
       have hsa : (w2.alloc (.cells #[.int .i64 q.f0, .int .i64 q.f1, .int .i64 c] 80)).heap.size = w2.heap.size + 1 := by simp
       exact ((HB3.alloc (by omega) _).grown hg1 (by omega) (fun k hk => by have := own_ge hO2 hk; omega)).grown (grown_cell w1 gb _) (by omega) (fun k hk => by injection hk; omega)
      case measure => rw [hrg3.left_eq, hleft]; exact hlt2


def putI : List S80 → S80 → List S80
 | [], r => [r]
 | x :: l, r => if ltI r x = true then r :: x :: l else if x.f0 = r.f0 ∧ x.f1 = r.f1 then ⟨r.f0, r.f1, wrap64 (r.f2 + x.f2)⟩ :: l else x :: putI l r
def gathI (l : List S80) : List S80 := (l.foldl putI []).filter fun x => x.f2 != 0
def vget (a b : Int) : List S80 → Int
 | [] => 0
 | x :: l => if x.f0 = a ∧ x.f1 = b then x.f2 else vget a b l
abbrev SortI (l : List S80) : Prop := l.Pairwise fun x y => ltI x y = true
theorem ltI_iff {x y : S80} : ltI x y = true ↔ x.f0 < y.f0 ∨ x.f0 = y.f0 ∧ x.f1 < y.f1 := by simp [ltI]
theorem wrap_self {n : Int} (h : wf64 n = true) : wrap64 n = n := by
 have := wf64_iff.1 h
 unfold wrap64
 omega
theorem wf_wrap64 (n : Int) : wf64 (wrap64 n) = true := by
 rw [wf64_iff]
 unfold wrap64
 omega
theorem vget_low {a b : Int} {l : List S80} (h : ∀ y ∈ l, a < y.f0 ∨ a = y.f0 ∧ b < y.f1) : vget a b l = 0 := by
 induction l with
 | nil => rfl
 | cons x r ih =>
  have hx := h x List.mem_cons_self
  unfold vget
  rw [if_neg (by omega)]
  exact ih fun y hy => h y (List.mem_cons_of_mem _ hy)
theorem put_mem {l : List S80} {r : S80} : ∀ x ∈ putI l r, (x.f0 = r.f0 ∧ x.f1 = r.f1) ∨ ∃ y ∈ l, x.f0 = y.f0 ∧ x.f1 = y.f1 := by
 induction l with
 | nil => intro x hx; simp [putI] at hx; subst hx; exact .inl ⟨rfl, rfl⟩
 | cons y l ih =>
  intro x hx
  unfold putI at hx
  split at hx
  ·rcases List.mem_cons.1 hx with rfl | hx
   ·exact .inl ⟨rfl, rfl⟩
   ·exact .inr ⟨x, hx, rfl, rfl⟩
  ·split at hx
   ·rcases List.mem_cons.1 hx with rfl | hx
    ·exact .inl ⟨rfl, rfl⟩
    ·exact .inr ⟨x, List.mem_cons_of_mem _ hx, rfl, rfl⟩
   ·rcases List.mem_cons.1 hx with rfl | hx
    ·exact .inr ⟨x, List.mem_cons_self, rfl, rfl⟩
    ·rcases ih x hx with h | ⟨z, hz, h⟩
     ·exact .inl h
     ·exact .inr ⟨z, List.mem_cons_of_mem _ hz, h⟩
theorem put_sort {l : List S80} (h : SortI l) (r : S80) : SortI (putI l r) := by
 induction l with
 | nil => exact List.pairwise_singleton _ _
 | cons y l ih =>
  obtain ⟨h1, h2⟩ := List.pairwise_cons.1 h
  unfold putI
  split
  ·rename_i hlt
   refine List.pairwise_cons.2 ⟨fun z hz => ?_, h⟩
   rw [ltI_iff] at hlt ⊢
   rcases List.mem_cons.1 hz with rfl | hz
   ·exact hlt
   ·have := ltI_iff.1 (h1 z hz)
    omega
  ·rename_i hnl
   split
   ·rename_i he
    refine List.pairwise_cons.2 ⟨fun z hz => ?_, h2⟩
    have := ltI_iff.1 (h1 z hz)
    rw [ltI_iff]
    simp only
    omega
   ·rename_i hne
    refine List.pairwise_cons.2 ⟨fun z hz => ?_, ih h2⟩
    rw [ltI_iff]
    have hnl' : ¬ (r.f0 < y.f0 ∨ r.f0 = y.f0 ∧ r.f1 < y.f1) := fun k => hnl (ltI_iff.2 k)
    rcases put_mem z hz with ⟨e0, e1⟩ | ⟨u, hu, e0, e1⟩
    ·omega
    ·have := ltI_iff.1 (h1 u hu)
     omega
theorem put_ok {l : List S80} {r : S80} (h : ∀ x ∈ l, ok80 x = true) (hr : ok80 r = true) : ∀ x ∈ putI l r, ok80 x = true := by
 induction l with
 | nil => intro x hx; simp [putI] at hx; subst hx; exact hr
 | cons y l ih =>
  intro x hx
  unfold putI at hx
  split at hx
  ·rcases List.mem_cons.1 hx with rfl | hx
   ·exact hr
   ·exact h x hx
  ·split at hx
   ·rcases List.mem_cons.1 hx with rfl | hx
    ·simp only [ok80, Bool.and_eq_true] at hr ⊢
     exact ⟨hr.1, hr.2.1, wf_wrap64 _⟩
    ·exact h x (List.mem_cons_of_mem _ hx)
   ·rcases List.mem_cons.1 hx with rfl | hx
    ·exact h x List.mem_cons_self
    ·exact ih (fun z hz => h z (List.mem_cons_of_mem _ hz)) x hx
theorem vget_put {l : List S80} (h : SortI l) {r : S80} (hr : ok80 r = true) (a b : Int) : vget a b (putI l r) = if r.f0 = a ∧ r.f1 = b then wrap64 (r.f2 + vget a b l) else vget a b l := by
 have hw : wrap64 r.f2 = r.f2 := by
  simp only [ok80, Bool.and_eq_true] at hr
  exact wrap_self hr.2.2
 induction l with
 | nil =>
  simp only [putI, vget, Int.add_zero, hw]
 | cons y l ih =>
  obtain ⟨h1, h2⟩ := List.pairwise_cons.1 h
  unfold putI
  split
  ·rename_i hlt
   rw [ltI_iff] at hlt
   rw [vget]
   by_cases hk : r.f0 = a ∧ r.f1 = b
   ·rw [if_pos hk, if_pos hk, vget_low, Int.add_zero, hw]
    intro z hz
    rcases List.mem_cons.1 hz with rfl | hz
    ·omega
    ·have := ltI_iff.1 (h1 z hz)
     omega
   ·rw [if_neg hk, if_neg hk]
  ·rename_i hnl
   split
   ·rename_i he
    rw [vget, vget]
    simp only
    by_cases hk : r.f0 = a ∧ r.f1 = b
    ·rw [if_pos hk, if_pos hk, if_pos (by omega)]
    ·rw [if_neg hk, if_neg hk, if_neg (by omega)]
   ·rename_i hne
    rw [vget, vget, ih h2]
    by_cases hy : y.f0 = a ∧ y.f1 = b
    ·rw [if_pos hy, if_pos hy, if_neg (by omega)]
    ·rw [if_neg hy, if_neg hy]
theorem fold_facts (l : List S80) (hl : ∀ x ∈ l, ok80 x = true) : ∀ a : List S80, SortI a → (∀ x ∈ a, ok80 x = true) → SortI (l.foldl putI a) ∧ (∀ x ∈ l.foldl putI a, ok80 x = true) ∧ ∀ p q : Int, vget p q (l.foldl putI a) = vsum ⟨p, q, 0⟩ (vget p q a) l := by
 induction l with
 | nil => intro a h1 h2; exact ⟨h1, h2, fun p q => rfl⟩
 | cons x r ih =>
  intro a h1 h2
  have hx := hl x List.mem_cons_self
  obtain ⟨g1, g2, g3⟩ := ih (fun y hy => hl y (List.mem_cons_of_mem _ hy)) (putI a x) (put_sort h1 x) (put_ok h2 hx)
  refine ⟨g1, g2, fun p q => ?_⟩
  rw [List.foldl_cons, g3, vget_put h1 hx]
  rw [vsum]
  simp only [and_true]
  congr 1
  by_cases hk : x.f0 = p ∧ x.f1 = q
  ·rw [if_pos hk, if_pos hk, Int.add_comm]
  ·rw [if_neg hk, if_neg hk]
theorem vget_filter {l : List S80} (h : SortI l) (a b : Int) : vget a b (l.filter fun x => x.f2 != 0) = vget a b l := by
 induction l with
 | nil => rfl
 | cons x r ih =>
  obtain ⟨h1, h2⟩ := List.pairwise_cons.1 h
  by_cases h0 : x.f2 = 0
  ·rw [List.filter_cons_of_neg (by simp [h0]), ih h2, vget]
   by_cases hk : x.f0 = a ∧ x.f1 = b
   ·rw [if_pos hk, h0]
    refine vget_low fun y hy => ?_
    have := ltI_iff.1 (h1 y hy)
    omega
   ·rw [if_neg hk]
  ·rw [List.filter_cons_of_pos (by simp [h0]), vget, vget, ih h2]
theorem uniqI : ∀ {a b : List S80}, SortI a → SortI b → (∀ x ∈ a, ok80 x = true ∧ x.f2 ≠ 0) → (∀ x ∈ b, ok80 x = true ∧ x.f2 ≠ 0) → (∀ p q, wf64 p = true → wf64 q = true → vget p q a = vget p q b) → a = b
 | [], [], _, _, _, _, _ => rfl
 | [], y :: b, _, _, _, hb, h => by
  have hy := hb y List.mem_cons_self
  have ho := hy.1
  simp only [ok80, Bool.and_eq_true] at ho
  have := h y.f0 y.f1 ho.1 ho.2.1
  rw [vget, vget, if_pos ⟨rfl, rfl⟩] at this
  exact absurd this.symm hy.2
 | x :: a, [], _, _, ha, _, h => by
  have hx := ha x List.mem_cons_self
  have ho := hx.1
  simp only [ok80, Bool.and_eq_true] at ho
  have := h x.f0 x.f1 ho.1 ho.2.1
  simp only [vget, and_self, if_true] at this
  exact absurd this hx.2
 | x :: a, y :: b, sa, sb, ha, hb, h => by
  obtain ⟨a1, a2⟩ := List.pairwise_cons.1 sa
  obtain ⟨b1, b2⟩ := List.pairwise_cons.1 sb
  have hx := ha x List.mem_cons_self
  have hy := hb y List.mem_cons_self
  have ox := hx.1
  have oy := hy.1
  simp only [ok80, Bool.and_eq_true] at ox oy
  have kx := h x.f0 x.f1 ox.1 ox.2.1
  have ky := h y.f0 y.f1 oy.1 oy.2.1
  have e : x.f0 = y.f0 ∧ x.f1 = y.f1 := by
   by_cases e : x.f0 = y.f0 ∧ x.f1 = y.f1
   ·exact e
   ·exfalso
    rw [vget, if_pos ⟨rfl, rfl⟩, vget, if_neg (by omega)] at kx
    rw [vget, if_neg e, vget, if_pos ⟨rfl, rfl⟩] at ky
    by_cases hlt : x.f0 < y.f0 ∨ x.f0 = y.f0 ∧ x.f1 < y.f1
    ·rw [vget_low (l := b)] at kx
     ·exact hx.2 kx
     ·intro z hz
      have := ltI_iff.1 (b1 z hz)
      omega
    ·rw [vget_low (l := a)] at ky
     ·exact hy.2 ky.symm
     ·intro z hz
      have := ltI_iff.1 (a1 z hz)
      omega
  have ev : x.f2 = y.f2 := by
   rw [vget, if_pos ⟨rfl, rfl⟩, vget, if_pos ⟨e.1.symm, e.2.symm⟩] at kx
   exact kx
  have exy : x = y := by
   obtain ⟨x0, x1, x2⟩ := x
   obtain ⟨y0, y1, y2⟩ := y
   simp only at e ev
   obtain ⟨rfl, rfl⟩ := e
   subst ev
   rfl
  subst exy
  congr 1
  refine uniqI a2 b2 (fun z hz => ha z (List.mem_cons_of_mem _ hz)) (fun z hz => hb z (List.mem_cons_of_mem _ hz)) fun p q hp hq => ?_
  by_cases hk : x.f0 = p ∧ x.f1 = q
  ·rw [vget_low (l := a), vget_low (l := b)]
   ·intro z hz
    have := ltI_iff.1 (b1 z hz)
    omega
   ·intro z hz
    have := ltI_iff.1 (a1 z hz)
    omega
  ·have := h p q hp hq
   rw [vget, if_neg hk, vget, if_neg hk] at this
   exact this
theorem vget_mem {l : List S80} (hn : l.Pairwise fun x y => ¬ (x.f0 = y.f0 ∧ x.f1 = y.f1)) {y : S80} (hy : y ∈ l) : vget y.f0 y.f1 l = y.f2 := by
 induction l with
 | nil => simp at hy
 | cons x r ih =>
  obtain ⟨h1, h2⟩ := List.pairwise_cons.1 hn
  rcases List.mem_cons.1 hy with rfl | hy
  ·rw [vget, if_pos ⟨rfl, rfl⟩]
  ·rw [vget, if_neg (h1 y hy)]
   exact ih h2 hy
theorem vget_none {l : List S80} {a b : Int} (h : ∀ y ∈ l, ¬ (y.f0 = a ∧ y.f1 = b)) : vget a b l = 0 := by
 induction l with
 | nil => rfl
 | cons x r ih =>
  rw [vget, if_neg (h x List.mem_cons_self)]
  exact ih fun y hy => h y (List.mem_cons_of_mem _ hy)
theorem gath_eq {l ys : List S80} (hl : ∀ x ∈ l, ok80 x = true) (hG : Gath l ys) (hs : SortI ys) : ys = gathI l := by
 obtain ⟨f1, f2, f3⟩ := fold_facts l hl [] List.Pairwise.nil (fun x hx => by simp at hx)
 refine uniqI hs (f1.filter _) (fun x hx => ⟨(hG.vals x hx).1, (hG.vals x hx).2.1⟩) (fun x hx => ?_) fun p q hp hq => ?_
 ·obtain ⟨h1, h2⟩ := List.mem_filter.1 hx
  exact ⟨f2 x h1, by simpa using h2⟩
 ·unfold gathI
  rw [vget_filter f1, f3, vget]
  by_cases he : ∃ y ∈ ys, y.f0 = p ∧ y.f1 = q
  ·obtain ⟨y, hy, rfl, rfl⟩ := he
   rw [vget_mem hG.nod hy]
   exact (hG.vals y hy).2.2
  ·rw [vget_none fun y hy k => he ⟨y, hy, k⟩]
   by_cases h0 : vsum ⟨p, q, 0⟩ 0 l = 0
   ·exact h0.symm
   ·exact absurd (hG.all ⟨p, q, 0⟩ (by simp only [ok80, Bool.and_eq_true]; exact ⟨hp, hq, by decide⟩) h0) he
def impl_gathered.f (l0 : List S80) : Option (List S80) := if l0.length ≤ 1000000 ∧ (l0.all ok80) = true then some (gathI l0) else none
theorem impl_gathered.calls (A0 : Option Addr) (c0 : Nat) (l0 : List S80) (r : List S80) (w : World) (hr0 : Kd.C k80 w A0 l0.length l0) (hc0 : l0.length ≤ c0) (h : impl_gathered.f l0 = some r) :
  Calls Try.prog 78 #[.slice A0 l0.length c0] w fun e w' => ∃ v0_ : Value, e = .returned (v0_) ∧ Kd.R k80 80 w' w.heap.size (fun _ => True) v0_ r ∧ Below w.heap.size w w' := by
 unfold impl_gathered.f at h
 split at h
 ·rename_i hk
  have hok : ∀ x ∈ l0, ok80 x = true := fun x hx => List.all_eq_true.1 hk.2 x hx
  obtain rfl := Option.some.inj h
  refine (gathered_walk A0 c0 l0 w hr0 hc0 hk.1 hok).mono ?_
  rintro e w' ⟨v, ys, he, hR, hB, hG, hs⟩
  rw [gath_eq hok hG hs] at hR
  exact ⟨v, he, hR, hB⟩
 ·cases h

end Go.Proofs.Ytpggfdjnebccnaa.PFnBatchTimes
