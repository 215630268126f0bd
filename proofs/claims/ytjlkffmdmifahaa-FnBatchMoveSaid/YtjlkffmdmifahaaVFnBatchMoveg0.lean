/- A function of the program with a map and a sort: as a plain Lean function, with its contract. -/
import Derived.Test.YtjlkffmdmifahaaSrt6
import Derived.Test.YtjlkffmdmifahaaShp
import Derived.Shelf.GgSortFunc.Tiny
import Derived.Maps.RangeWalk
import Derived.Maps.OwnOps
import Derived.Maps.Views
import Derived.WideKeyEntry
import Derived.DeepKeys4
import Derived.Lib.RowBridge
import Derived.Lib.SortBridge
import Derived.Test.YtjlkffmdmifahaaVFnBatchMovew
import Derived.Test.YtjlkffmdmifahaaVFnBatchMovep0
namespace Go.Proofs.Ytjlkffmdmifahaa.PFnBatchMove
open Go.RowKit Go.Proofs.YtjlkffmdmifahaaW.PrintWords Go.Proofs.YtjlkffmdmifahaaW.PrintLast Go.Proofs.YtjlkffmdmifahaaW.PrintMore
open Go.Sort Go.Shelf Go.Lib Go.ChangeMaps Go.ChangeShapes Go.WideShapes
attribute [local go_sem] max2_int min2_int max_two min_two max_three min_three max_four min_four
set_option linter.unusedVariables false
set_option linter.unusedSimpArgs false
theorem J0_0 {p : Prop} (h : p:=by kernel_rfl) : p:=h
theorem co_laid_ : laidOutB Try.prog = true:=by kernel_rfl
theorem law38 : WideMaps.KeyLaw Try.prog 38:=deep_law_laid co_laid_ (m:=3) (by omega) (of_decide_eq_true (J0_0)) (J0_0) (by rw [Try.underlying38])
theorem kd38 : Maps.Keyed Try.prog 38:=Maps.Keyed.of_law law38
def v38 (x : S38) : Value := .agg #[.int .i64 x.f0, .int .i64 x.f1, .int .i64 x.f2.f0, .int .i64 x.f2.f1, .int .i64 x.f3]
def co_wf64 (n : Int) : Bool := (Lit.int .i64 n).wf
theorem co_wf64_iff {n : Int} : co_wf64 n = true ↔ -9223372036854775808 ≤ n ∧ n ≤ 9223372036854775807:=by
 simp [co_wf64,Lit.wf,IntKind.min,IntKind.max,IntKind.signed,IntKind.bits]
def ok38 (x : S38) : Bool := co_wf64 x.f0 && (co_wf64 x.f1 && (co_wf64 x.f2.f0 && (co_wf64 x.f2.f1 && co_wf64 x.f3)))
theorem ok38_iff {x : S38} : ok38 x = true ↔ co_wf64 x.f0 = true ∧ co_wf64 x.f1 = true ∧ co_wf64 x.f2.f0 = true ∧ co_wf64 x.f2.f1 = true ∧ co_wf64 x.f3 = true:=by
 simp [ok38]
theorem co_keyLits3 (m : Nat) (a : Value) : Try.prog.keyLits (m + 1) 3 [a] = match a with | .int .i64 n=>if co_wf64 n = true then some [Lit.int .i64 n] else none | _=>none:=by
 rw [Program.keyLits.eq_def]
 simp only [Try.underlying3]
 cases a <;> simp
 rename_i k n
 cases k <;> simp [co_wf64]
 rfl
theorem keyLits36 (n : Nat) (a b : Value) : Try.prog.keyLits (n + 2) 36 [a,b] = (Try.prog.keyLits (n + 1) 3 [a]).bind fun p=>(Try.prog.keyLits (n + 1) 3 [b]).bind fun q=>some (p ++ q):=by
 have c36 : Try.prog.cellsOf 36 = 2:=by kernel_rfl
 have c3 : Try.prog.cellsOf 3 = 1:=by kernel_rfl
 rw [Program.keyLits.eq_def]
 simp only [Try.underlying36,c36]
 generalize hf : (fun cs : List Value=>Try.prog.keyLits (n + 1) 3 cs) = f
 have e : ∀ cs,Try.prog.keyLits (n + 1) 3 cs = f cs:=fun cs=>by rw [← hf]
 simp [c3,e]
 cases f [a] <;> cases f [b] <;> simp
theorem keyLits38 (n : Nat) (a b c d e : Value) : Try.prog.keyLits (n + 3) 38 [a,b,c,d,e] = (Try.prog.keyLits (n + 2) 3 [a]).bind fun p=>(Try.prog.keyLits (n + 2) 3 [b]).bind fun q=>(Try.prog.keyLits (n + 2) 36 [c,d]).bind fun r=>(Try.prog.keyLits (n + 2) 3 [e]).bind fun s=>some (p ++ (q ++ (r ++ s))):=by
 have c38 : Try.prog.cellsOf 38 = 5:=by kernel_rfl
 have c36 : Try.prog.cellsOf 36 = 2:=by kernel_rfl
 have c3 : Try.prog.cellsOf 3 = 1:=by kernel_rfl
 rw [Program.keyLits.eq_def]
 simp only [Try.underlying38,c38]
 generalize hf : (fun (t : TypeId) (cs : List Value)=>Try.prog.keyLits (n + 2) t cs) = f
 have h3 : ∀ t cs,Try.prog.keyLits (n + 2) t cs = f t cs:=fun t cs=>by rw [← hf]
 simp [c3,c36,h3]
 cases f 3 [a] <;> cases f 3 [b] <;> cases f 36 [c,d] <;> cases f 3 [e] <;> simp
def lit38 (x : S38) : Lit := .string (keyBytes [.int .i64 x.f0, .int .i64 x.f1, .int .i64 x.f2.f0, .int .i64 x.f2.f1, .int .i64 x.f3])
theorem key38 {x : S38} (h : ok38 x = true) : keyOf Try.prog 38 (v38 x) = some (lit38 x):=by
 obtain ⟨m,e⟩ : ∃ m,Try.prog.types.size + 1 = m + 3:=⟨Try.prog.types.size - 2,by have : 1 < Try.prog.types.size:=of_decide_eq_true (J0_0);omega⟩
 have c38 : Try.prog.cellsOf 38 = 5:=by kernel_rfl
 have kt : Try.prog.keyType 38 = true:=by kernel_rfl
 obtain ⟨h0,h1,h2,h3,h4⟩:=ok38_iff.1 h
 unfold keyOf v38
 rw [Try.underlying38]
 simp only [kt,Value.formed,Try.underlying38,c38,e]
 simp [Value.cells,keyLits38,keyLits36,co_keyLits3,h0,h1,h2,h3,h4,lit38]
theorem co_keyLits3_inv {m : Nat} {a : Value} {p : List Lit} (h : Try.prog.keyLits (m + 1) 3 [a] = some p) : ∃ n,a = .int .i64 n ∧ co_wf64 n = true ∧ p = [Lit.int .i64 n]:=by
 rw [co_keyLits3] at h
 split at h
 ·rename_i n
  split at h
  ·exact ⟨n,rfl,by assumption,by simpa using h.symm⟩
  ·simp at h
 ·simp at h
theorem co_five_of_size {cs : Array Value} (h : cs.size = 5) : ∃ a b c d e,cs = #[a,b,c,d,e]:=by
 obtain ⟨l⟩:=cs
 match l,h with
 | [a,b,c,d,e],_=>exact ⟨a,b,c,d,e,rfl⟩
theorem key38_inv {v : Value} {l : Lit} (h : keyOf Try.prog 38 v = some l) : ∃ x : S38,v = v38 x ∧ ok38 x = true ∧ l = lit38 x:=by
 obtain ⟨m,e⟩ : ∃ m,Try.prog.types.size + 1 = m + 3:=⟨Try.prog.types.size - 2,by have : 1 < Try.prog.types.size:=of_decide_eq_true (J0_0);omega⟩
 have c38 : Try.prog.cellsOf 38 = 5:=by kernel_rfl
 cases v with
 | agg cs =>
  simp only [keyOf,Value.formed,Try.underlying38,c38,e] at h
  split at h
  ·rename_i hc
   simp only [Bool.and_eq_true,beq_iff_eq] at hc
   have h3:=hc.2
   clear hc
   obtain ⟨a,b,c,d,f,rfl⟩:=co_five_of_size h3
   simp only [Value.cells,keyLits38,keyLits36] at h
   obtain ⟨L,hL,h⟩:=Option.map_eq_some_iff.1 h
   obtain ⟨p,hp,hL⟩:=Option.bind_eq_some_iff.1 hL
   obtain ⟨q,hq,hL⟩:=Option.bind_eq_some_iff.1 hL
   obtain ⟨r,hr,hL⟩:=Option.bind_eq_some_iff.1 hL
   obtain ⟨s,hs,hL⟩:=Option.bind_eq_some_iff.1 hL
   obtain ⟨r1,hr1,hr⟩:=Option.bind_eq_some_iff.1 hr
   obtain ⟨r2,hr2,hr⟩:=Option.bind_eq_some_iff.1 hr
   obtain ⟨x0,rfl,w0,rfl⟩:=co_keyLits3_inv hp
   obtain ⟨x1,rfl,w1,rfl⟩:=co_keyLits3_inv hq
   obtain ⟨x2,rfl,w2,rfl⟩:=co_keyLits3_inv hr1
   obtain ⟨x3,rfl,w3,rfl⟩:=co_keyLits3_inv hr2
   obtain ⟨x4,rfl,w4,rfl⟩:=co_keyLits3_inv hs
   cases hr
   refine ⟨⟨x0,x1,⟨x2,x3⟩,x4⟩,rfl,ok38_iff.2 ⟨w0,w1,w2,w3,w4⟩,?_⟩
   cases hL
   exact h.symm
  ·simp at h
 | _=>simp [keyOf,Value.formed,Try.underlying38] at h
theorem lit38_inj {x y : S38} (hx : ok38 x = true) (hy : ok38 y = true) (h : lit38 x = lit38 y) : x = y:=by
 have e : v38 x = v38 y:=law38.inj (key38 hx) (h ▸ key38 hy)
 obtain ⟨a,b,⟨c,d⟩,f⟩:=x
 obtain ⟨a',b',⟨c',d'⟩,f'⟩:=y
 simp [v38] at e
 obtain ⟨rfl,rfl,rfl,rfl,rfl⟩:=e
 rfl
theorem lit38_key (x : S38) : WideAt.IsKeyLit (lit38 x):=by
 unfold lit38
 trivial

section
variable {P : Program} {k e t : TypeId} {w : World} {b n : Nat} {D : DataW Unit} {R : Value → Option (DataW Unit × List MemPlace)}
theorem co_block_of_ok {w1 w2 : World} {o1 o2 : Obj} (h : (Result.ok () (setBlock w1 b o1)) = Result.ok () (setBlock w2 b o2)) (h1 : b < w1.heap.size) : o1 = o2:=by
 have e : setBlock w1 b o1 = setBlock w2 b o2:=by injection h
 have:=congrArg (fun u : World=>u.heap[b]?) e
 simp only [setBlock,Array.getElem?_setIfInBounds_self_of_lt h1] at this
 rw [Array.getElem?_setIfInBounds] at this
 split at this
 ·split at this
  ·exact Option.some.inj this
  ·simp at this
 ·simp_all

theorem co_own_entry (K : WideMaps.KeyLaw P k) (ht : P.underlying t = some (.map k e)) (he : P.underlying e = some (.int .i64)) (hz : ∀ u : World,(zeroValue e).run P u = .ok (.int .i64 0) u)
  (h : w.ownsMap P k (plainElem P e) b n D) (hn : n < maxLen) {key : Value} {kl : Lit} (hkey : keyOf P k key = some kl) :
  ∃ (c : Int) (st : Nat) (o1 : Obj) (D1 : DataW Unit),(Instr.lookup t (.map (some b)) key false).run P w = .ok (.int .i64 c) w ∧ D.atKey kl (.lit (.int .i64 0)) = .lit (.int .i64 c) ∧
   (Instr.mapEntry t (.map (some b)) key).run P w = .ok (.tuple #[.int .i64 c,goInt st]) (setBlock w b o1) ∧ (setBlock w b o1).ownsMap P k (plainElem P e) b (n + 1) D1 ∧ D1.atKey kl (.lit (.int .i64 0)) = .lit (.int .i64 c) ∧
   ∀ (w2 : World) (m : Int),w2.heap[b]? = some o1 → (Lit.int .i64 m).wf = true → ∃ o2,(Instr.entryStore t (.map (some b)) (goInt st) (.int .i64 m)).run P w2 = .ok () (setBlock w2 b o2) ∧ (setBlock w2 b o2).ownsMap P k (plainElem P e) b (n + 1) (D.put kl (.lit (.int .i64 m))):=by
 have K2:=Maps.Keyed.of_law K
 have hown:=h
 obtain ⟨c,hl,hat,hwc⟩:=h.lookup_int K2 ht he (hz w) hkey
 obtain ⟨es,clock,hb,F,hs,rfl⟩:=h
 have hlt : b < w.heap.size:=(Array.getElem?_eq_some_iff.1 hb).1
 obtain ⟨v0,st,es1,clock1,hrun,hv,hst⟩:=WideElems.entry_then_store K ht hz hb F hkey
 have hstore : ∀ (w2 : World) (m : Int),w2.heap[b]? = some (.map es1 clock1) → (Lit.int .i64 m).wf = true → ∃ o2,(Instr.entryStore t (.map (some b)) (goInt st) (.int .i64 m)).run P w2 = .ok () (setBlock w2 b o2) ∧ (setBlock w2 b o2).ownsMap P k (plainElem P e) b (n + 1) ((DataW.map ((es.toList.map (WideElems.rg P k (plainElem P e))).foldr DataW.insert [])).put kl (.lit (.int .i64 m))):=fun w2 m hw2 hm=>by
  obtain ⟨es',clock',h1,h2⟩:=hst w2 (.int .i64 m) hw2
  obtain ⟨w',h3,h4,_⟩:=hown.update K2 ht hn hkey (plainElem_int he hm)
  rw [h2] at h3
  have e1 : setBlock w b (.map es' clock') = w':=by injection h3
  subst e1
  refine ⟨_,h1,?_⟩
  obtain ⟨es2,clock2,g1,g2,g3,g4⟩:=h4
  rw [heap_setBlock_same hb] at g1
  exact ⟨es2,clock2,by rw [heap_setBlock_same hw2];exact g1,g2,g3,g4⟩
 rcases K.find w hkey es.toList F.keys with ⟨h1,h2⟩ | ⟨j,e0,h1,h2,h3⟩
 ·have r1 : (Instr.mapEntry t (.map (some b)) key).run P w = .ok (.tuple #[.int .i64 0,goInt clock]) (setBlock w b (.map (es.push ⟨key,.int .i64 0,clock⟩) (clock + 1))):=by
   simp [Instr.mapEntry,run_underlying ht,MapKept.run_getObj_map hb,K.check w false hkey,h1,hz,MapKept.run_setObj_map _ hb,Result.andThen,setBlock]
  have r2 : (Instr.mapUpdate t (.map (some b)) key (.int .i64 0)).run P w = .ok () (setBlock w b (.map (es.push ⟨key,.int .i64 0,clock⟩) (clock + 1))):=by
   simp [Instr.mapUpdate,run_underlying ht,MapKept.run_getObj_map hb,K.check w false hkey,h1,MapKept.run_setObj_map _ hb,Result.andThen,setBlock]
  have r3 : (Instr.lookup t (.map (some b)) key false).run P w = .ok (.int .i64 0) w:=by
   simp [Instr.lookup,run_underlying ht,MapKept.run_getObj_map hb,K.check w _ hkey,h1,hz,Result.andThen]
  rw [r3] at hl
  have hc : c = 0:=by injection hl with hl;injection hl with _ hl;exact hl.symm
  subst hc
  rw [hrun] at r1
  have q1 : (v0,st) = ((.int .i64 0 : Value),clock) ∧ setBlock w b (.map es1 clock1) = setBlock w b (.map (es.push ⟨key,.int .i64 0,clock⟩) (clock + 1)):=by
   injection r1 with a1 a2
   refine ⟨?_,a2⟩
   simp [goInt] at a1
   obtain ⟨rfl,a1⟩:=a1
   rw [show st = clock by omega]
  obtain ⟨w',g1,g2,_⟩:=hown.update K2 ht hn hkey (plainElem_int (a:=0) he (by decide))
  rw [r2] at g1
  have e1 : setBlock w b (.map (es.push ⟨key,.int .i64 0,clock⟩) (clock + 1)) = w':=by injection g1
  rw [← e1,← q1.2] at g2
  obtain ⟨q2,q3⟩:=Prod.mk.inj q1.1
  subst q2
  refine ⟨0,st,.map es1 clock1,_,r3,hat,hrun,g2,?_,hstore⟩
  exact Maps.atKey_put_same ⟨_,rfl⟩ (K2.key hkey) _ _
 ·have hj : es[j]? = some e0:=by simpa using h2
  have hsame : es.modify j (fun x=>{ x with key:=key }) = es:=by
   apply Array.ext'
   rw [Array.toList_modify,modify_eq_set _ _ _ _ h2]
   have : ({ e0 with key:=key } : MapEntry) = e0:=by rw [← h3]
   rw [this]
   exact WideElems.set_self _ _ _ h2
  have r1 : (Instr.mapEntry t (.map (some b)) key).run P w = .ok (.tuple #[e0.val,goInt e0.born]) (setBlock w b (.map es clock)):=by
   simp [Instr.mapEntry,run_underlying ht,MapKept.run_getObj_map hb,K.check w false hkey,h1,hj,h3,K.stays w hkey,hsame,MapKept.run_setObj_map _ hb,Result.andThen,setBlock]
  have r3 : (Instr.lookup t (.map (some b)) key false).run P w = .ok e0.val w:=by
   simp [Instr.lookup,run_underlying ht,MapKept.run_getObj_map hb,K.check w _ hkey,h1,Result.andThen]
  have hc : e0.val = .int .i64 c:=by
   rw [r3] at hl
   injection hl
  rw [hrun] at r1
  have a1 : v0 = e0.val ∧ (st : Int) = e0.born:=by
   injection r1 with a1 a2
   simpa [goInt] using a1
  have a2 : setBlock w b (.map es1 clock1) = setBlock w b (.map es clock):=by injection r1
  refine ⟨c,st,.map es1 clock1,_,by rw [r3,hc],hat,by rw [hrun,a1.1,hc],?_,hat,hstore⟩
  rw [a2]
  exact ⟨es,clock,heap_setBlock_same hb _,F,by omega,rfl⟩
end

section
variable {α : Type} [Inhabited α] {d : Kd α} {enc : α → List Value} {e g n cap base : Nat} {ok : Nat → Prop} {W : World} {xs : List α}
theorem co_own_holds (hk : ∀ x,(enc x).length = d.sz) (hM : ∀ {W base ok x cs},d.M W base ok x cs → cs = enc x) (h : d.R e W base ok (.slice (some ⟨g,0,none⟩) n cap) xs) : HoldsK enc d.sz W g 0 xs.toArray:=by
 intro j hj
 have hn : n = xs.length:=(Kd.R_reads' h).1
 rw [size_flatK] at hj
 have hj' : j < xs.length * d.sz:=by simpa using hj
 have hs : 0 < d.sz:=by
  rcases Nat.eq_zero_or_pos d.sz with h0 | h0
  ·rw [h0] at hj';simp at hj'
  ·exact h0
 have hq : j / d.sz < xs.length:=(Nat.div_lt_iff_lt_mul hs).2 hj'
 obtain ⟨c,hc,hm,hcc,hfr⟩:=Kd.R_elem h default ((j / d.sz : Nat) : Int) (Int.natCast_nonneg _) (Int.ofNat_lt.2 (hn ▸ hq))
 obtain rfl:=hM hm
 have hr : j % d.sz < d.sz:=Nat.mod_lt _ hs
 have ej : j / d.sz * d.sz + j % d.sz = j:=by rw [Nat.mul_comm];exact Nat.div_add_mod j d.sz
 have hx : xs.getD (j / d.sz) default = xs.toArray[j / d.sz]!:=by
  rw [List.getD_eq_getElem?_getD,List.getElem?_eq_getElem hq]
  simp [hq]
 rw [get_flatK _ _ _ _ (by simpa using hj')]
 rw [Int.toNat_natCast,hx] at hcc
 generalize xs.toArray[j / d.sz]! = y at *
 have e1:=hcc (j % d.sz) ((enc y)[j % d.sz]!) (by
  rw [getElem!_pos _ _ (by rw [hk];exact hr),List.getElem?_eq_getElem (by rw [hk];exact hr)])
 have e2:=hfr (j % d.sz)
 rw [Int.toNat_natCast,ej] at e2
 rw [ej] at e1
 rw [Nat.zero_add]
 exact ⟨e1,e2⟩
theorem co_heap_sortedK {w : World} {k m : Nat} {os : Array Obj} {cur : Array Value} {t : TypeId} {fr : Nat × Nat} (d' : Array α) (hb : w.heap[g]? = some (.cells cur t fr)) :
  (grow (putRowK enc k (Sort.ahead w m) g 0 d') os).heap[g]? = some (.cells (putCells id 0 (flatK enc k d') cur) t fr):=by
 have hg : g < w.heap.size:=(Array.getElem?_eq_some_iff.1 hb).1
 rw [heap_grow_old _ _ (by simpa [putRowK] using hg)]
 simp [putRowK,putRow,mapBlock,Sort.ahead,Array.getElem?_modify,hb,onCells]
theorem co_grownBy_sortedK {w : World} {k m : Nat} {os : Array Obj} (d' : Array α) : w.grownBy (grow (putRowK enc k (Sort.ahead w m) g 0 d') os) (some g):=by
 refine ⟨rfl,rfl,rfl,by simp [putRowK],fun k hk hne=>?_⟩
 rw [heap_grow_old _ _ (by simpa [putRowK] using hk)]
 have : g ≠ k:=fun e=>hne (by rw [e])
 simp [putRowK,putRow,mapBlock,Sort.ahead,Array.getElem?_modify,this]
theorem co_R_sorted (hk : ∀ x,(enc x).length = d.sz) (hM : ∀ {W base ok x},d.M W base ok x (enc x)) (h : d.R e W base ok (.slice (some ⟨g,0,none⟩) n cap) xs) (d' : Array α) (hs : d'.size = n) (m : Nat) (os : Array Obj) :
  d.R e (grow (putRowK enc d.sz (Sort.ahead W m) g 0 d') os) base ok (.slice (some ⟨g,0,none⟩) n cap) d'.toList:=by
 have hn : n = xs.length:=(Kd.R_reads' h).1
 subst hn
 obtain ⟨h0,inner,ho,hr⟩:=h
 obtain ⟨h1,h2⟩:=ho
 rcases h2 with ⟨h2,_⟩ | ⟨g',cap',cur,hv,hg,hh,hc1,hc2,hc3,hc4⟩
 ·cases h2
 cases hv
 have hlen : d'.toList.length = xs.length:=by simpa using hs
 have hle : xs.length * d.sz ≤ cur.size:=by rw [hc3];exact Nat.mul_le_mul_right _ hc1
 have hfl : (flatK enc d.sz d').size = xs.length * d.sz:=by rw [size_flatK,hs]
 refine ⟨h0,(flatK enc d.sz d').toList,⟨by simp [hs],.inr ⟨g,cap,_,by rw [hlen],hg,co_heap_sortedK d' hh,by rw [hlen];omega,hc2,by simp [putCells,hc3],?_⟩⟩,by simp,fun j p hj=>?_⟩
 ·rw [hlen]
  apply List.ext_getElem?
  intro j
  by_cases hj : j < xs.length * d.sz
  ·rw [List.getElem?_take_of_lt hj,Array.getElem?_toList]
   simp [putCells,hfl,hj,show j < cur.size by omega]
  ·rw [List.getElem?_take_eq_none (by omega),List.getElem?_eq_none (by simp [hs];omega)]
 ·have hjl : j < d'.size:=by
   have:=(List.getElem?_eq_some_iff.1 hj).1
   simpa using this
  have hp : d'[j]! = p:=by
   rw [Array.getElem?_toList,Array.getElem?_eq_getElem hjl] at hj
   rw [getElem!_pos d' j hjl]
   exact Option.some.inj hj
  have : ((flatK enc d.sz d').toList.drop (j * d.sz)).take d.sz = enc p:=by
   apply List.ext_getElem?
   intro r
   by_cases hr : r < d.sz
   ·have hb : j * d.sz + r < d'.size * d.sz:=by
     have:=Nat.mul_le_mul_right d.sz (show j + 1 ≤ d'.size from hjl)
     rw [Nat.add_mul,Nat.one_mul] at this
     omega
    have e1 : (j * d.sz + r) / d.sz = j:=(blk_iff d.sz j _ (by omega)).1 ⟨by omega,by omega⟩
    have e2 : (j * d.sz + r) % d.sz = r:=by rw [Nat.mod_eq_sub_div_mul,e1];omega
    rw [List.getElem?_take_of_lt hr,List.getElem?_drop,Array.getElem?_toList]
    have:=get_flatK enc d.sz d' (j * d.sz + r) hb
    rw [e1,e2,hp] at this
    rw [Array.getElem?_eq_getElem (by rw [size_flatK];exact hb),List.getElem?_eq_getElem (by rw [hk];exact hr)]
    rw [getElem!_pos _ _ (by rw [size_flatK];exact hb),getElem!_pos _ _ (by rw [hk];exact hr)] at this
    rw [this]
   ·rw [List.getElem?_take_eq_none (by omega),List.getElem?_eq_none (by rw [hk];omega)]
  rw [this]
  exact hM
end

theorem co_own_cells {α : Type} {d : Kd α} {e base g : Nat} {W : World} {ok : Nat → Prop} {v : Value} {xs : List α} (h : Kd.R d e W base ok v xs) (hg : some g = v.ownBlock) : ∃ cells,W.heap[g]? = some (.cells cells e (0,0)):=by
 obtain ⟨_,inner,ho,_⟩:=h
 exact own_typed ho g hg.symm
theorem co_own_ge {α : Type} {d : Kd α} {e base g : Nat} {W : World} {ok : Nat → Prop} {v : Value} {xs : List α} (h : Kd.R d e W base ok v xs) (hg : v.ownBlock = some g) : base ≤ g:=by
 obtain ⟨_,inner,ho,_⟩:=h
 exact own_base ho g hg

def co_Grew (W W' : World) : Prop := ∃ n os, W' = Sort.grow (Sort.ahead W n) os
theorem co_Grew.refl (W : World) : co_Grew W W:=⟨0,#[],by rw [Sort.grow_empty];rfl⟩
theorem co_Grew.drewN {W W' : World} (h : co_Grew W W') (q : Nat) : co_Grew W (W'.drewN q):=by
 obtain ⟨n,os,rfl⟩:=h
 exact ⟨n + q,os,by rw [← Sort.ahead_ahead];rfl⟩
theorem co_Grew.alloc {W W' : World} (h : co_Grew W W') (o : Obj) : co_Grew W (W'.alloc o):=by
 obtain ⟨n,os,rfl⟩:=h
 exact ⟨n,os ++ #[o],by rw [Sort.alloc_eq_grow,Sort.grow_grow]⟩
theorem co_Grew.trans {W X Y : World} (h : co_Grew W X) (h' : co_Grew X Y) : co_Grew W Y:=by
 obtain ⟨n,os,rfl⟩:=h;obtain ⟨n',os',rfl⟩:=h'
 exact ⟨n + n',os ++ os',by rw [Sort.ahead_grow,Sort.grow_grow,Sort.ahead_ahead]⟩
theorem co_Grew.cell {W W' : World} (h : co_Grew W W') {p : Addr} {v : Value} (hv : W.cell? p = some v) : W'.cell? p = some v:=by
 obtain ⟨n,os,rfl⟩:=h
 rw [Sort.cell?_grow _ _ _ (show p.block < (Sort.ahead W n).heap.size from World.block_lt_of_cell? W _ hv)];exact hv
def lt36 (x y : S36) : Bool := decide (x.f0 < y.f0 ∨ x.f0 = y.f0 ∧ x.f1 < y.f1)
set_option maxHeartbeats 2000000 in
theorem co_ahead_ (x y : S36) (W : World) : Calls Try.prog 91 #[.agg #[.int .i64 x.f0,.int .i64 x.f1],.agg #[.int .i64 y.f0,.int .i64 y.f1]] W fun e w'=>e = .returned (.bool (lt36 x y)) ∧ co_Grew W w':=by
 unfold lt36
 by_cases h1 : x.f0 < y.f0
 ·have b1 : decide (x.f0 < y.f0) = true:=decide_eq_true h1
  rw [decide_eq_true (.inl h1)]
  clear h1
  go_enter Try.func91,Try.ntmps91
  go_wp2
  go_ret
  exact ⟨rfl,((co_Grew.refl _).alloc _).alloc _⟩
 ·have b1 : decide (x.f0 < y.f0) = false:=decide_eq_false h1
  by_cases h2 : x.f0 = y.f0
  ·have b2 : (x.f0 == y.f0) = true:=beq_iff_eq.2 h2
   have b3 : decide (x.f0 < y.f0 ∨ x.f0 = y.f0 ∧ x.f1 < y.f1) = decide (x.f1 < y.f1):=by rw [decide_eq_decide];omega
   rw [b3]
   clear h1 h2 b3
   go_enter Try.func91,Try.ntmps91
   go_wp2
   go_ret
   exact ⟨rfl,((co_Grew.refl _).alloc _).alloc _⟩
  ·have b2 : (x.f0 == y.f0) = false:=beq_eq_false_iff_ne.2 h2
   rw [decide_eq_false (by omega)]
   clear h1 h2
   go_enter Try.func91,Try.ntmps91
   go_wp2
   go_ret
   exact ⟨rfl,((co_Grew.refl _).alloc _).alloc _⟩
theorem co_Grew.by {W W' : World} (h : co_Grew W W') : W.grownBy W' none:=by
 obtain ⟨n,os,rfl⟩:=h
 exact ⟨rfl,rfl,rfl,by simp [Sort.ahead],fun k hk _=>Sort.heap_grow_old (Sort.ahead W n) _ hk⟩
theorem co_Grew.below {w W W' : World} (h : co_Grew W W') (hb : Below w.heap.size w W) : Below w.heap.size w W':=hb.grown h.by hb.size (fun j hj=>by cases hj)

def lt38 (x y : S38) : Bool := decide (x.f0 < y.f0 ∨ x.f0 = y.f0 ∧ (x.f1 < y.f1 ∨ x.f1 = y.f1 ∧ (x.f2.f0 < y.f2.f0 ∨ x.f2.f0 = y.f2.f0 ∧ x.f2.f1 < y.f2.f1)))
set_option maxHeartbeats 4000000 in
theorem co_rowAhead_ (x y : S38) (W : World) : Calls Try.prog 64 #[v38 x,v38 y] W fun e w'=>e = .returned (.bool (lt38 x y)) ∧ co_Grew W w':=by
 unfold v38
 by_cases h0 : x.f0 = y.f0
 ·have b0 : (x.f0 != y.f0) = false:=by simp [h0]
  by_cases h1 : x.f1 = y.f1
  ·have b1 : (x.f1 != y.f1) = false:=by simp [h1]
   have e : lt38 x y = lt36 x.f2 y.f2:=by
    unfold lt38 lt36
    rw [decide_eq_decide];omega
   rw [e]
   clear h0 h1 e
   go_enter Try.func64,Try.ntmps64
   go_wp2_with (go_at_call 91;refine (co_ahead_ x.f2 y.f2 _).mono ?_;rintro e w' ⟨rfl,hG⟩)
   go_ret
   exact ⟨rfl,(((co_Grew.refl _).alloc _).alloc _).trans hG⟩
  ·have b1 : (x.f1 != y.f1) = true:=by simp [h1]
   have e : lt38 x y = decide (x.f1 < y.f1):=by
    unfold lt38
    rw [decide_eq_decide];omega
   rw [e]
   clear h0 h1 e
   go_enter Try.func64,Try.ntmps64
   go_wp2
   go_ret
   exact ⟨rfl,((co_Grew.refl _).alloc _).alloc _⟩
 ·have b0 : (x.f0 != y.f0) = true:=by simp [h0]
  have e : lt38 x y = decide (x.f0 < y.f0):=by
   unfold lt38
   rw [decide_eq_decide];omega
  rw [e]
  clear h0 e
  go_enter Try.func64,Try.ntmps64
  go_wp2
  go_ret
  exact ⟨rfl,((co_Grew.refl _).alloc _).alloc _⟩

set_option maxHeartbeats 4000000 in
set_option maxRecDepth 100000 in
theorem co_less_ (blk c Bs size : Nat) (W : World) (x y : S38) (i j : Nat) (hi : i < size) (hj : j < size) (hs : W.cell? ⟨Bs,0,none⟩ = some (.slice (some ⟨blk,0,none⟩) size c)) (x0 : W.cell? ⟨blk,i * 5,none⟩ = some (.int .i64 x.f0)) (x1 : W.cell? ⟨blk,i * 5 + 1,none⟩ = some (.int .i64 x.f1)) (x2 : W.cell? ⟨blk,i * 5 + 2,none⟩ = some (.int .i64 x.f2.f0)) (x3 : W.cell? ⟨blk,i * 5 + 3,none⟩ = some (.int .i64 x.f2.f1)) (x4 : W.cell? ⟨blk,i * 5 + 4,none⟩ = some (.int .i64 x.f3)) (y0 : W.cell? ⟨blk,j * 5,none⟩ = some (.int .i64 y.f0)) (y1 : W.cell? ⟨blk,j * 5 + 1,none⟩ = some (.int .i64 y.f1)) (y2 : W.cell? ⟨blk,j * 5 + 2,none⟩ = some (.int .i64 y.f2.f0)) (y3 : W.cell? ⟨blk,j * 5 + 3,none⟩ = some (.int .i64 y.f2.f1)) (y4 : W.cell? ⟨blk,j * 5 + 4,none⟩ = some (.int .i64 y.f3)) :
  Calls Try.prog 97 #[.int .i64 i,.int .i64 j,.pointer (some ⟨Bs,0,none⟩)] W fun e w'=>e = .returned (.bool (lt38 x y)) ∧ co_Grew W w':=by
 have pi:=eq_true (show 0 ≤ (i : Int) by omega)
 have qi:=eq_true (show (i : Int) < (size : Int) by omega)
 have pj:=eq_true (show 0 ≤ (j : Int) by omega)
 have qj:=eq_true (show (j : Int) < (size : Int) by omega)
 go_enter Try.func97,Try.ntmps97
 go_wp2_with fail
 refine start_ (n:=10) (ds:=[]) (S:=fun w'=>w'.cell? ⟨Bs,0,none⟩ = some (.slice (some ⟨blk,0,none⟩) size c) ∧ w'.cell? ⟨blk,i * 5,none⟩ = some (.int .i64 x.f0) ∧ w'.cell? ⟨blk,i * 5 + 1,none⟩ = some (.int .i64 x.f1) ∧ w'.cell? ⟨blk,i * 5 + 2,none⟩ = some (.int .i64 x.f2.f0) ∧ w'.cell? ⟨blk,i * 5 + 3,none⟩ = some (.int .i64 x.f2.f1) ∧ w'.cell? ⟨blk,i * 5 + 4,none⟩ = some (.int .i64 x.f3) ∧ w'.cell? ⟨blk,j * 5,none⟩ = some (.int .i64 y.f0) ∧ w'.cell? ⟨blk,j * 5 + 1,none⟩ = some (.int .i64 y.f1) ∧ w'.cell? ⟨blk,j * 5 + 2,none⟩ = some (.int .i64 y.f2.f0) ∧ w'.cell? ⟨blk,j * 5 + 3,none⟩ = some (.int .i64 y.f2.f1) ∧ w'.cell? ⟨blk,j * 5 + 4,none⟩ = some (.int .i64 y.f3)) #[false,false,false,false,false,false,false,false,false,false] (J0_0) rfl rfl ⟨hs,x0,x1,x2,x3,x4,y0,y1,y2,y3,y4⟩ (fun hHeld=>?_)
 refine pure_ (i:=1) (N:=(some 7)) (v:=?_) (a':=?_) #[false,true,false,false,false,false,false,false,false,false] rfl rfl (J0_0) (fun _ _ _ h=>h) (Or.inl ⟨by rfl,?_⟩) ?_ ?_
 rotate_left
 ·intro w'
  go_simp
  with_reducible rfl
 rotate_left
 ·simp only [Act.put,List.setIfInBounds_toArray,List.set_cons_zero,List.set_cons_succ,i64_w,i32_w]
  rfl
 refine pure_ (i:=5) (N:=(some 11)) (v:=?_) (a':=?_) #[false,true,false,false,false,true,false,false,false,false] rfl rfl (J0_0) (fun _ _ _ h=>h) (Or.inl ⟨by rfl,?_⟩) ?_ ?_
 rotate_left
 ·intro w'
  go_simp
  with_reducible rfl
 rotate_left
 ·simp only [Act.put,List.setIfInBounds_toArray,List.set_cons_zero,List.set_cons_succ,i64_w,i32_w]
  rfl
 refine take_ (i:=0) (N:=(some 6)) (v:=?_) (a':=?_) #[true,true,false,false,false,true,false,false,false,false] rfl rfl (J0_0) (fun _ _ _ h=>h) (Or.inl ⟨by rfl,?_⟩) hHeld ?_ ?_
 rotate_left
 ·rintro w' ⟨s0,s1,s2,s3,s4,s5,s6,s7,s8,s9,s10⟩
  go_simp
  with_reducible rfl
 rotate_left
 ·simp only [Act.put,List.setIfInBounds_toArray,List.set_cons_zero,List.set_cons_succ,i64_w,i32_w]
  rfl
 refine pure_ (i:=2) (N:=(some 8)) (v:=?_) (a':=?_) #[true,true,true,false,false,true,false,false,false,false] rfl rfl (J0_0) (fun _ _ _ h=>h) (Or.inl ⟨by rfl,?_⟩) ?_ ?_
 rotate_left
 ·intro w'
  go_simp
  with_reducible rfl
 rotate_left
 ·simp only [Act.put,List.setIfInBounds_toArray,List.set_cons_zero,List.set_cons_succ,i64_w,i32_w]
  rfl
 refine take_ (i:=3) (N:=(some 9)) (v:=?_) (a':=?_) #[true,true,true,true,false,true,false,false,false,false] rfl rfl (J0_0) (fun _ _ _ h=>h) (Or.inl ⟨by rfl,?_⟩) hHeld ?_ ?_
 rotate_left
 ·rintro w' ⟨s0,s1,s2,s3,s4,s5,s6,s7,s8,s9,s10⟩
  go_simp
  with_reducible rfl
 rotate_left
 ·simp only [Act.put,List.setIfInBounds_toArray,List.set_cons_zero,List.set_cons_succ,i64_w,i32_w]
  rfl
 refine take_ (i:=4) (N:=(some 10)) (v:=?_) (a':=?_) #[true,true,true,true,true,true,false,false,false,false] rfl rfl (J0_0) (fun _ _ _ h=>h) (Or.inl ⟨by rfl,?_⟩) hHeld ?_ ?_
 rotate_left
 ·rintro w' ⟨s0,s1,s2,s3,s4,s5,s6,s7,s8,s9,s10⟩
  go_simp
  with_reducible rfl
 rotate_left
 ·simp only [Act.put,List.setIfInBounds_toArray,List.set_cons_zero,List.set_cons_succ,i64_w,i32_w]
  rfl
 refine pure_ (i:=6) (N:=(some 12)) (v:=?_) (a':=?_) #[true,true,true,true,true,true,true,false,false,false] rfl rfl (J0_0) (fun _ _ _ h=>h) (Or.inl ⟨by rfl,?_⟩) ?_ ?_
 rotate_left
 ·intro w'
  go_simp
  with_reducible rfl
 rotate_left
 ·simp only [Act.put,List.setIfInBounds_toArray,List.set_cons_zero,List.set_cons_succ,i64_w,i32_w]
  rfl
 refine take_ (i:=7) (N:=(some 13)) (v:=?_) (a':=?_) #[true,true,true,true,true,true,true,true,false,false] rfl rfl (J0_0) (fun _ _ _ h=>h) (Or.inl ⟨by rfl,?_⟩) hHeld ?_ ?_
 rotate_left
 ·rintro w' ⟨s0,s1,s2,s3,s4,s5,s6,s7,s8,s9,s10⟩
  go_simp
  with_reducible rfl
 rotate_left
 ·simp only [Act.put,List.setIfInBounds_toArray,List.set_cons_zero,List.set_cons_succ,i64_w,i32_w]
  rfl
 refine one_ (i:=8) (N:=some 14) #[true,true,true,true,true,true,true,true,true,false] rfl rfl (J0_0) (by decide) (fun K hK=>?_)
 refine goes_ Try.func64 (J0_0) rfl #[v38 x,v38 y] (by rfl) rfl rfl (by (try simp only [List.map_toArray,List.map_cons,List.map_nil]);first | done | rfl) ?_
 refine (co_rowAhead_ x y _).mono ?_
 rintro e w' ⟨rfl,hG⟩
 refine ⟨_,rfl,?_⟩
 refine hK.out _ _ ⟨hG.cell hHeld.1,hG.cell hHeld.2.1,hG.cell hHeld.2.2.1,hG.cell hHeld.2.2.2.1,hG.cell hHeld.2.2.2.2.1,hG.cell hHeld.2.2.2.2.2.1,hG.cell hHeld.2.2.2.2.2.2.1,hG.cell hHeld.2.2.2.2.2.2.2.1,hG.cell hHeld.2.2.2.2.2.2.2.2.1,hG.cell hHeld.2.2.2.2.2.2.2.2.2.1,hG.cell hHeld.2.2.2.2.2.2.2.2.2.2⟩ (fun hHeld2=>?_)
 clear hK K
 refine norm_ (a':=?_) ?_ ?_
 rotate_left
 ·show Act.put _ (some 14) _ = _
  simp only [Act.put,List.setIfInBounds_toArray,List.set_cons_zero,List.set_cons_succ,i64_w,i32_w]
  rfl
 refine pure_ (i:=9) (N:=(some 5)) (v:=?_) (a':=?_) #[true,true,true,true,true,true,true,true,true,true] rfl rfl (J0_0) (fun _ _ _ h=>h) (Or.inl ⟨by rfl,?_⟩) ?_ ?_
 rotate_left
 ·intro w'
  go_simp
  with_reducible rfl
 rotate_left
 ·simp only [Act.put,List.setIfInBounds_toArray,List.set_cons_zero,List.set_cons_succ,i64_w,i32_w]
  rfl
 refine done_ (J0_0) ?_
 go_wp2
 go_ret
 refine ⟨rfl,?_⟩
 exact ((co_Grew.refl W).drewN 1).trans hG

instance : Inhabited S38 := ⟨z38⟩
theorem swo38 : SWO lt38:=by
 refine ⟨fun x=>?_,fun x y z h k=>?_,fun x y z h k=>?_⟩
 ·simp [lt38]
 ·simp only [lt38,decide_eq_true_eq] at *
  omega
 ·simp only [lt38,decide_eq_false_iff_not] at *
  omega
def enc38 (x : S38) : List Value := [.int .i64 x.f0, .int .i64 x.f1, .int .i64 x.f2.f0, .int .i64 x.f2.f1, .int .i64 x.f3]
noncomputable def sT38 : TypeInfo := (Try.prog.info? 23).get (J0_0)
noncomputable def sE38 : TypeInfo := (Try.prog.info? 38).get (J0_0)
theorem swap38 (n : Nat) (h2 : 2 ≤ n) : Lib.swapperK n sE38 25 = 9:=by
 have a : sE38.hasPointers = false:=by kernel_rfl
 have b : sE38.bytes = 40:=by kernel_rfl
 have c : (n == 0) = false:=by simp;omega
 have d : (n == 1) = false:=by simp;omega
 simp [Lib.swapperK,a,b,c,d]
theorem co_grew_swk {enc : S38 → List Value} {k : Nat} {W W' : World} {g off : Nat} {dk : Array S38} (hH : HoldsK enc k W g off dk) (h : co_Grew W W') : SWK enc k W g off dk W':=by
 obtain ⟨n,os,rfl⟩:=h
 exact ⟨n,os,by unfold sortWorldK;rw [putRowK_self enc k _ g off dk (holdsK_ahead enc k W n g off dk hH)]⟩
theorem lays38 (g c go n : Nat) (xs : List S38) (W : World) {base : Nat} {ok : Nat → Prop} (h : Kd.R k38 38 W base ok (.slice (some ⟨g,0,none⟩) n c) xs) (hgo : W.cell? ⟨go,0,none⟩ = some (.slice (some ⟨g,0,none⟩) n c)) (hlt : go < W.heap.size) (hg : g < W.heap.size) (hne : go ≠ g) :
  Srt.LessLays Try.prog 97 #[.pointer (some ⟨go,0,none⟩)] enc38 5 lt38 g 0 n W:=by
 intro dk W1 hW hs i j hi hj
 have hn : n = xs.length:=(Kd.R_reads' h).1
 have hH : HoldsK enc38 5 W g 0 xs.toArray:=co_own_holds (d:=k38) (fun _=>rfl) (fun h=>k38_openM h) h
 have hH1 : HoldsK enc38 5 W1 g 0 dk:=hW.holds hg hH (by rw [hs];simp [hn])
 have cel:=fun t (ht : t < n) q (hq : q < 5)=>(hH1.cell (i:=t) (c:=q) (by omega) hq).1
 have ho : W1.cell? ⟨go,0,none⟩ = some (.slice (some ⟨g,0,none⟩) n c):=by
  obtain ⟨m,os,rfl⟩:=hW
  rw [cell?_sortWorldK_other enc38 5 W g 0 m dk os ⟨go,0,none⟩ hne hlt];exact hgo
 have a0:=cel i hi 0 (by omega);have a1:=cel i hi 1 (by omega);have a2:=cel i hi 2 (by omega);have a3:=cel i hi 3 (by omega);have a4:=cel i hi 4 (by omega)
 have b0:=cel j hj 0 (by omega);have b1:=cel j hj 1 (by omega);have b2:=cel j hj 2 (by omega);have b3:=cel j hj 3 (by omega);have b4:=cel j hj 4 (by omega)
 simp only [Nat.zero_add,Nat.add_zero] at a0 a1 a2 a3 a4 b0 b1 b2 b3 b4
 exact (co_less_ g c go n _ dk[i]! dk[j]! i j hi hj ho a0 a1 a2 a3 a4 b0 b1 b2 b3 b4).mono fun _ _ ⟨he,hG⟩=>⟨he,co_grew_swk hH1 hG⟩
theorem co_sort_ (g c go n : Nat) (xs : List S38) (W : World) {base : Nat} {ok : Nat → Prop} (h : Kd.R k38 38 W base ok (.slice (some ⟨g,0,none⟩) n c) xs) (hgo : W.cell? ⟨go,0,none⟩ = some (.slice (some ⟨g,0,none⟩) n c)) (hlt : go < W.heap.size) (hg : g < W.heap.size) (hne : go ≠ g) (h2 : 2 ≤ n) (hsz : n < 4611686018427387904) :
  Calls Try.prog 96 #[.iface 23 (.slice (some ⟨g,0,none⟩) n c),.func (.func 97) #[] #[.pointer (some ⟨go,0,none⟩)]] W fun e w' =>
   e = .returned (.tuple #[]) ∧ ∃ d' : Array S38,PermIn 0 n xs.toArray d' ∧ SortedIn lt38 0 n d' ∧ Kd.R k38 38 w' base ok (.slice (some ⟨g,0,none⟩) n c) d'.toList ∧ W.grownBy w' (some g) ∧ w'.cell? ⟨go,0,none⟩ = some (.slice (some ⟨g,0,none⟩) n c):=by
 have hn : n = xs.length:=(Kd.R_reads' h).1
 have hH : HoldsK enc38 5 W g 0 xs.toArray:=co_own_holds (d:=k38) (fun _=>rfl) (fun h=>k38_openM h) h
 have es : xs.toArray.size = n:=by simp [hn]
 have hr:=lays38 g c go n xs W h hgo hlt hg hne
 have:=Srt.sortSlice Try.sv6 23 38 sT38 sE38 (J0_0) (J0_0) (J0_0) (J0_0) 25 (fun _=>by kernel_rfl) enc38 5 (fun _=>rfl) (J0_0) (fun _=>by kernel_rfl)
  (fun x v hv=>by simp [enc38] at hv;rcases hv with rfl | rfl | rfl | rfl | rfl <;> rfl) lt38 swo38 97 _
  (enters_of Try.func97 (J0_0) rfl) g 0 c xs.toArray (by rw [es];exact h2) (by rw [es];exact hsz) 115 (by rw [es,swap38 _ h2];kernel_rfl) false
  (fun args W=>run_callFunc_extern Try.func115 (J0_0) (J0_0) (J0_0) (e:=Extern.ReflectliteSwapper.swap false) (J0_0) args W) W (by rw [es];exact hr) hH hg
 rw [es] at this
 refine this.mono ?_
 rintro e w' ⟨he,d',hp,hso,m,os,rfl⟩
 have hds : d'.size = n:=by rw [hp.1,es]
 refine ⟨he,d',hp,hso,?_,?_,?_⟩
 ·exact co_R_sorted (d:=k38) (fun _=>rfl) (k38_mkM _ _ _ _) h d' hds m os
 ·exact co_grownBy_sortedK (g:=g) (enc:=enc38) (k:=5) (m:=m) (os:=os) d'
 ·rw [cell?_sortWorldK_other enc38 5 W g 0 m d' os ⟨go,0,none⟩ hne hlt];exact hgo
theorem tiny38 (p : Option Addr) (n c : Nat) (h1 : n ≤ 1) (go : Nat) (W : World) : Calls Try.prog 96 #[.iface 23 (.slice p n c),.func (.func 97) #[] #[.pointer (some ⟨go,0,none⟩)]] W fun e w'=>e = .returned (.tuple #[]) ∧ ∃ os,w' = Sort.grow W os:=by
 have hK : Lib.swapperK n sE38 25 = n + 1:=by
  rcases Nat.eq_zero_or_pos n with h | h
  ·subst h;simp [Lib.swapperK]
  ·obtain rfl : n = 1:=by omega
   simp [Lib.swapperK]
 exact Any.sort_Slice_tiny Try.sv6 23 38 sT38 sE38 (J0_0) (J0_0) (J0_0) (J0_0) 25 (fun _=>by kernel_rfl) p n c h1 (107 + n) (by
  rw [hK]
  rcases Nat.eq_zero_or_pos n with h | h
  ·subst h;kernel_rfl
  ·obtain rfl : n = 1:=by omega
   kernel_rfl) (.func 97) #[] #[.pointer (some ⟨go,0,none⟩)] W
theorem co_isMap_put {D : DataW Unit} {k : Lit} {d : DataW Unit} (h : Maps.IsMap D) : Maps.IsMap (D.put k d):=by
 obtain ⟨es,rfl⟩:=h
 exact ⟨_,rfl⟩
theorem co_wf_wrap (n : Int) : (Lit.int .i64 (wrap64 n)).wf = true:=wrap64_wf _
theorem co_cell_setB {W : World} {b g j : Nat} {o : Obj} (h : g ≠ b) : (ChangeMaps.setBlock W b o).cell? ⟨g,j,none⟩ = W.cell? ⟨g,j,none⟩:=by
 unfold World.cell? ChangeMaps.setBlock
 simp [Array.getElem?_setIfInBounds_ne (Ne.symm h)]
theorem co_below_setB {B b : Nat} {w W : World} (h : RowKit.Below B w W) (o : Obj) (hb : B ≤ b) : RowKit.Below B w (ChangeMaps.setBlock W b o):=by
 refine h.trans ⟨rfl,rfl,rfl,by simp [ChangeMaps.setBlock],fun k hk=>?_⟩
 unfold ChangeMaps.setBlock
 exact Array.getElem?_setIfInBounds_ne (by omega)
theorem co_grown_cell (W : World) (b : Nat) (v : Value) : W.grownBy (W.setCell ⟨b,0,none⟩ v) (some b) :=
 ⟨rfl,rfl,rfl,by simp [World.setCell],fun k hk hne=>Below.heap_setCell W ⟨b,0,none⟩ v k (fun e=>hne (by rw [e]))⟩
theorem co_grown_grow (W : World) (os : Array Obj) : W.grownBy (Sort.grow W os) none:=⟨rfl,rfl,rfl,by simp,fun k hk _=>Sort.heap_grow_old _ _ hk⟩
theorem co_row_ne_iterR {α : Type} {d : Kd α} {e base b r n : Nat} {W : World} {ok : Nat → Prop} {v : Value} {xs : List α} {k : TypeId} {R : Value → Option (DataW Unit × List MemPlace)} {D : DataW Unit} {left : Lit → Bool} {cnt : Nat} {P : Program}
  (h : Kd.R d e W base ok v xs) (hr : W.ranges P k R b r n D left cnt) : some r ≠ v.ownBlock:=fun hg=>by
 obtain ⟨cells,hc⟩:=co_own_cells h hg
 obtain ⟨_,_,_,_,_,_,_,_,_,hit,_⟩:=hr
 rw [hit] at hc
 cases hc
theorem co_row_ne_mapR {α : Type} {d : Kd α} {e base b r n : Nat} {W : World} {ok : Nat → Prop} {v : Value} {xs : List α} {k : TypeId} {R : Value → Option (DataW Unit × List MemPlace)} {D : DataW Unit} {left : Lit → Bool} {cnt : Nat} {P : Program}
  (h : Kd.R d e W base ok v xs) (hr : W.ranges P k R b r n D left cnt) : some b ≠ v.ownBlock:=fun hg=>by
 obtain ⟨cells,hc⟩:=co_own_cells h hg
 obtain ⟨_,_,_,_,_,hb,_⟩:=hr
 rw [hb] at hc
 cases hc
noncomputable abbrev co_EL : Value → Option (DataW Unit × List MemPlace) := plainElem Try.prog 3
theorem co_zero3 (w : World) : (zeroValue 3).run Try.prog w = .ok (.int .i64 0) w:=by kernel_rfl

abbrev co_sk (x y : S38) : Prop := x.f0 = y.f0 ∧ x.f1 = y.f1 ∧ x.f2.f0 = y.f2.f0 ∧ x.f2.f1 = y.f2.f1
def co_kI (x : S38) : S38 := ⟨x.f0, x.f1, x.f2, 0⟩
theorem co_sk_kI (x : S38) : co_sk x (co_kI x):=⟨rfl,rfl,rfl,rfl⟩
theorem co_kI_of {x q : S38} (h : co_sk x q) (h0 : q.f3 = 0) : co_kI x = q:=by
 obtain ⟨a,b,⟨c,d⟩,e⟩:=q
 obtain ⟨a',b',⟨c',d'⟩,e'⟩:=x
 obtain ⟨h1,h2,h3,h4⟩:=h
 simp only at h0 h1 h2 h3 h4
 subst h0 h1 h2 h3 h4
 rfl
theorem co_ok_kI {x : S38} (h : ok38 x = true) : ok38 (co_kI x) = true:=by
 obtain ⟨h0,h1,h2,h3,h4⟩:=ok38_iff.1 h
 exact ok38_iff.2 ⟨h0,h1,h2,h3,by show co_wf64 0 = true;decide⟩

def co_Val (D : DataW Unit) (f : S38 → Int) : Prop := Maps.IsMap D ∧ ∀ q, ok38 q = true → D.atKey (lit38 q) (.lit (.int .i64 0)) = .lit (.int .i64 (f q))
def co_vsum (q : S38) (n : Int) : List S38 → Int
 | [] => n
 | x :: r => co_vsum q (if co_sk x q ∧ q.f3 = 0 then wrap64 (n + x.f3) else n) r
theorem co_vsum_snoc (q x : S38) (l : List S38) : ∀ n,co_vsum q n (l ++ [x]) = if co_sk x q ∧ q.f3 = 0 then wrap64 (co_vsum q n l + x.f3) else co_vsum q n l:=by
 induction l with
 | nil=>intro n;rfl
 | cons y r ih=>intro n;exact ih _
theorem co_Val.start : co_Val (.map []) (fun _=>0):=⟨⟨_,rfl⟩,fun q _=>rfl⟩
theorem co_Val.step {D : DataW Unit} {l : List S38} {x : S38} {c : Int} (h : co_Val D fun q=>co_vsum q 0 l) (hx : ok38 x = true) (hc : D.atKey (lit38 (co_kI x)) (.lit (.int .i64 0)) = .lit (.int .i64 c)) :
  co_Val (D.put (lit38 (co_kI x)) (.lit (.int .i64 (wrap64 (c + x.f3))))) fun q=>co_vsum q 0 (l ++ [x]):=by
 have hk:=co_ok_kI hx
 have e:=h.2 _ hk
 rw [hc] at e
 have e' : c = co_vsum (co_kI x) 0 l:=by injection e with e;injection e with _ e
 refine ⟨co_isMap_put h.1,fun q hq=>?_⟩
 show _ = DataW.lit (Lit.int .i64 (co_vsum q 0 (l ++ [x])))
 rw [co_vsum_snoc]
 by_cases hne : lit38 q = lit38 (co_kI x)
 ·have:=lit38_inj hq hk hne
  subst this
  rw [Maps.atKey_put_same h.1 (lit38_key _),if_pos ⟨co_sk_kI x,rfl⟩,← e']
 ·rw [Maps.atKey_put_other hne,h.2 q hq,if_neg]
  rintro ⟨h0,h1⟩
  rw [co_kI_of h0 h1] at hne
  exact hne rfl

structure co_Coll (l : List S38) (D : DataW Unit) (left : Lit → Bool) (ys : List S38) : Prop where
 nod : ys.Pairwise fun x y => ¬ co_sk x y
 gone : ∀ y ∈ ys, left (lit38 (co_kI y)) = false
 vals : ∀ y ∈ ys, ok38 y = true ∧ y.f3 ≠ 0 ∧ y.f3 = co_vsum (co_kI y) 0 l
 all : ∀ q, ok38 q = true → Maps.has D (lit38 q) = true → left (lit38 q) = false → co_vsum q 0 l ≠ 0 → ∃ y ∈ ys, co_sk y q
theorem co_vsum_z (q : S38) (l : List S38) (h : q.f3 ≠ 0) : ∀ n,co_vsum q n l = n:=by
 induction l with
 | nil=>intro n;rfl
 | cons x r ih =>
  intro n
  unfold co_vsum
  rw [if_neg (fun k=>h k.2)]
  exact ih n
theorem co_Coll.start (l : List S38) (D : DataW Unit) : co_Coll l D (Maps.has D) [] :=
 ⟨List.Pairwise.nil,fun y hy=>by simp at hy,fun y hy=>by simp at hy,fun q _ h1 h2=>by rw [h1] at h2;cases h2⟩
theorem co_struck {left : Lit → Bool} {q x : S38} (hx : ok38 x = true) (hq : ok38 q = true) (h : (left (lit38 x) && !(lit38 x).sameKey (lit38 q)) = false) : left (lit38 x) = false ∨ x = q:=by
 simp only [Bool.and_eq_false_iff,Bool.not_eq_false'] at h
 rcases h with h | h
 ·exact .inl h
 ·exact .inr (lit38_inj hx hq (WideAt.sameKey_eq h))
theorem co_Coll.skip {l : List S38} {D : DataW Unit} {left : Lit → Bool} {ys : List S38} (h : co_Coll l D left ys) {q : S38} (hq : ok38 q = true) (hz : co_vsum q 0 l = 0) :
  co_Coll l D (fun z=>left z && !z.sameKey (lit38 q)) ys:=by
 refine ⟨h.nod,fun y hy=>by rw [h.gone y hy];rfl,h.vals,fun x hx h1 h2 h3=>?_⟩
 rcases co_struck hx hq h2 with h2 | rfl
 ·exact h.all x hx h1 h2 h3
 ·exact absurd hz h3
theorem co_Coll.take {l : List S38} {D : DataW Unit} {left : Lit → Bool} {ys : List S38} (h : co_Coll l D left ys) {q : S38} {c : Int} (hq : ok38 q = true) (hl : left (lit38 q) = true) (hc : c = co_vsum q 0 l) (h0 : c ≠ 0) (hw : co_wf64 c = true) :
  co_Coll l D (fun z=>left z && !z.sameKey (lit38 q)) (ys ++ [⟨q.f0,q.f1,⟨q.f2.f0,q.f2.f1⟩,c⟩]):=by
 have h2 : q.f3 = 0:=by
  by_cases h2 : q.f3 = 0
  ·exact h2
  ·exact absurd (hc.trans (co_vsum_z q l h2 0)) h0
 have hk : co_kI ⟨q.f0,q.f1,⟨q.f2.f0,q.f2.f1⟩,c⟩ = q:=co_kI_of ⟨rfl,rfl,rfl,rfl⟩ h2
 refine ⟨List.pairwise_append.2 ⟨h.nod,List.pairwise_singleton _ _,fun x hx y hy=>?_⟩,fun y hy=>?_,fun y hy=>?_,fun x hx h1 h3 h4=>?_⟩
 ·rw [List.mem_singleton.1 hy]
  intro e0
  have hg:=h.gone x hx
  rw [co_kI_of (q:=q) e0 h2,hl] at hg
  cases hg
 ·rcases List.mem_append.1 hy with hy | hy
  ·rw [h.gone y hy];rfl
  ·rw [List.mem_singleton.1 hy,hk,WideAt.sameKey_self (lit38_key q)]
   simp
 ·rcases List.mem_append.1 hy with hy | hy
  ·exact h.vals y hy
  ·rw [List.mem_singleton.1 hy,hk]
   obtain ⟨q0,q1,q2,q3,q4⟩:=ok38_iff.1 hq
   exact ⟨ok38_iff.2 ⟨q0,q1,q2,q3,hw⟩,h0,hc⟩
 ·rcases co_struck hx hq h3 with h3 | rfl
  ·obtain ⟨y,hy,e⟩:=h.all x hx h1 h3 h4
   exact ⟨y,List.mem_append_left _ hy,e⟩
  ·exact ⟨_,List.mem_append_right _ (List.mem_singleton.2 rfl),rfl,rfl,rfl,rfl⟩

structure co_Gath (l ys : List S38) : Prop where
 nod : ys.Pairwise fun x y => ¬ co_sk x y
 vals : ∀ y ∈ ys, ok38 y = true ∧ y.f3 ≠ 0 ∧ y.f3 = co_vsum (co_kI y) 0 l
 all : ∀ q, ok38 q = true → co_vsum q 0 l ≠ 0 → ∃ y ∈ ys, co_sk y q
theorem co_Coll.done {l : List S38} {D : DataW Unit} {left : Lit → Bool} {ys : List S38} (h : co_Coll l D left ys) (hv : co_Val D fun q=>co_vsum q 0 l) (hl : ∀ k,left k = false) : co_Gath l ys:=by
 refine ⟨h.nod,h.vals,fun q hq h0=>?_⟩
 cases hh : Maps.has D (lit38 q) with
 | true=>exact h.all q hq hh (hl _) h0
 | false =>
  have e:=hv.2 q hq
  rw [Maps.atKey_of_not_has hh] at e
  have : (0 : Int) = co_vsum q 0 l:=by injection e with e;injection e
  exact absurd this.symm h0
theorem co_Gath.perm {l ys zs : List S38} (h : co_Gath l ys) (hp : zs.Perm ys) : co_Gath l zs :=
 ⟨(hp.pairwise_iff fun {x y} h k=>h ⟨k.1.symm,k.2.1.symm,k.2.2.1.symm,k.2.2.2.symm⟩).2 h.nod,fun y hy=>h.vals y (hp.mem_iff.1 hy),fun q hq h0=>by
  obtain ⟨y,hy,e⟩:=h.all q hq h0
  exact ⟨y,hp.mem_iff.2 hy,e⟩⟩
abbrev co_SortR (l : List S38) : Prop := l.Pairwise fun x y => lt38 x y = true

theorem co_sorted_of {ys : List S38} {d' : Array S38} (hn : ys.Pairwise fun x y=>¬ co_sk x y) (hp : Go.Sort.PermIn 0 ys.length ys.toArray d') (hs : Go.Sort.SortedIn lt38 0 ys.length d') :
  d'.toList.Perm ys ∧ co_SortR d'.toList:=by
 obtain ⟨h1,_,h3⟩:=hp
 have hsz : d'.size = ys.length:=by simpa using h1
 have e1 : d'.extract 0 ys.length = d':=by rw [← hsz];exact Array.extract_size
 have e2 : ys.toArray.extract 0 ys.length = ys.toArray:=by
  have : ys.length = ys.toArray.size:=by simp
  rw [this];exact Array.extract_size
 rw [e1,e2] at h3
 have hperm : d'.toList.Perm ys:=by simpa using h3
 have hn':=(hperm.pairwise_iff fun {x y} (h : ¬ co_sk x y) (k : co_sk y x)=>h ⟨k.1.symm,k.2.1.symm,k.2.2.1.symm,k.2.2.2.symm⟩).2 hn
 refine ⟨hperm,?_⟩
 unfold co_SortR
 rw [List.pairwise_iff_getElem] at hn' ⊢
 intro i j hi hj hij
 have hi' : i < d'.size:=by simpa using hi
 have hj' : j < d'.size:=by simpa using hj
 have h4:=hs i j (Nat.zero_le _) hij (by omega)
 have h5:=hn' i j hi hj hij
 rw [getElem!_pos d' i hi',getElem!_pos d' j hj'] at h4
 simp only [Array.getElem_toList] at h5 ⊢
 simp only [lt38,decide_eq_false_iff_not,decide_eq_true_eq,co_sk] at h4 h5 ⊢
 omega
theorem co_pair_short {ys : List S38} (h : ¬ 2 ≤ ys.length) : co_SortR ys:=by
 match ys,h with
 | [],_=>exact List.Pairwise.nil
 | [x],_=>exact List.pairwise_singleton _ _
 | x :: y :: r,h=>exact absurd (by simp) h
set_option maxHeartbeats 8000000 in
set_option maxRecDepth 100000 in
theorem co_consol_walk (A0 : Option Addr) (c0 : Nat) (l0 : List S38) (w : World) (hr0 : Kd.C k38 w A0 l0.length l0) (hc0 : l0.length ≤ c0) (hlen : l0.length ≤ 1000000) (hok : ∀ x ∈ l0,ok38 x = true) :
 Calls Try.prog 84 #[.slice A0 l0.length c0] w fun e w'=>∃ v0_ ys,e = .returned v0_ ∧ Kd.R k38 38 w' w.heap.size (fun _=>True) v0_ ys ∧ RowKit.Below w.heap.size w w' ∧ co_Gath l0 ys ∧ ys.Pairwise fun x y=>lt38 x y = true:=by
 have hu38:=Try.underlying38
 have HR0:=Aside0.mk hr0
 have HC0:=Aside0.mk hc0
 have HL:=Aside0.mk hlen
 clear hr0 hc0 hlen
 have hmm:=@run_makeMap Try.prog
 go_enter Try.func84,Try.ntmps84
 go_wp2
 go_loopw [12] (fun i wr=>∃ (kk : Nat) (D : DataW Unit),kk ≤ l0.length ∧ i = .int .i64 kk ∧ wr.ownsMap Try.prog 38 co_EL w.heap.size kk D ∧ co_Val D (fun q=>co_vsum q 0 (l0.take kk)) ∧ RowKit.Below w.heap.size w wr) (fun i _=>l0.length - (intOf i).toNat)
 case atStart=>exact ⟨0,.map [],Nat.zero_le _,rfl,World.ownsMap_made _ _ _ _,co_Val.start,(RowKit.Below.refl _ _).alloc (Nat.le_refl _) _⟩
 case round =>
  obtain ⟨kk,D,hk,rfl,hown,hval,HB⟩:=hrel
  by_cases hlt : kk < l0.length
  ·have c0b : decide ((kk : Int) < (l0.length : Int)) = true:=decide_eq_true (by omega)
   have p114 : 0 ≤ (kk : Int):=by omega
   have q114 : (kk : Int) < (l0.length : Int):=by omega
   obtain ⟨ad,e,hx0,hx1,hx2,hx3,hx4⟩:=at_T38 HR0.out (kk : Int) p114 q114
   cases e
   replace hx0:=(HB.cell (World.block_lt_of_cell? w _ hx0)).trans hx0
   replace hx1:=(HB.cell (World.block_lt_of_cell? w _ hx1)).trans hx1
   replace hx2:=(HB.cell (World.block_lt_of_cell? w _ hx2)).trans hx2
   replace hx3:=(HB.cell (World.block_lt_of_cell? w _ hx3)).trans hx3
   replace hx4:=(HB.cell (World.block_lt_of_cell? w _ hx4)).trans hx4
   simp only [Int.toNat_natCast] at hx0 hx1 hx2 hx3 hx4
   replace p114:=eq_true p114
   replace q114:=eq_true q114
   go_wp2
   generalize hx : rd_T38 l0 (kk : Int) = x at *
   have hxm : l0.take (kk + 1) = l0.take kk ++ [x]:=by
    rw [List.take_succ_eq_append_getElem hlt]
    congr 2
    rw [← hx]
    unfold rd_T38
    rw [List.getD_eq_getElem?_getD,Int.toNat_natCast,List.getElem?_eq_getElem hlt]
    rfl
   have hxo : ok38 x = true:=hok x (by
    have : x ∈ l0.take (kk + 1):=by rw [hxm];simp
    exact List.mem_of_mem_take this)
   have hk : ok38 (co_kI x) = true:=co_ok_kI hxo
   have hbm:=hown.lt
   have hn_ : kk < maxLen:=by have:=HL.out;unfold maxLen;omega
   obtain ⟨W1,hW1⟩ : ∃ W1,W1 = (wr.alloc (.cells #[.int .i64 x.f0,.int .i64 x.f1,.int .i64 x.f2.f0,.int .i64 x.f2.f1,.int .i64 x.f3] 38)).drew:=⟨_,rfl⟩
   have hown1 : W1.ownsMap Try.prog 38 co_EL w.heap.size kk D:=by rw [hW1];exact (hown.alloc _).drew
   have HB1 : RowKit.Below w.heap.size w W1:=by rw [hW1];exact (HB.alloc HB.size _).drew
   have k0 : W1.cell? ⟨wr.heap.size,0,none⟩ = some (.int .i64 x.f0):=by rw [hW1];simp
   have k1 : W1.cell? ⟨wr.heap.size,1,none⟩ = some (.int .i64 x.f1):=by rw [hW1];simp
   have k2 : W1.cell? ⟨wr.heap.size,2,none⟩ = some (.int .i64 x.f2.f0):=by rw [hW1];simp
   have k3 : W1.cell? ⟨wr.heap.size,3,none⟩ = some (.int .i64 x.f2.f1):=by rw [hW1];simp
   have k4 : W1.cell? ⟨wr.heap.size,4,none⟩ = some (.int .i64 x.f3):=by rw [hW1];simp
   obtain ⟨c,st,o1,D1,hl,hat,hme,hownE,hatE,hst⟩:=co_own_entry law38 Try.underlying96 Try.underlying3 co_zero3 hown1 hn_ (key38 hk)
   have hlE : (Instr.lookup 96 (.map (some w.heap.size)) (v38 (co_kI x)) false).run Try.prog (ChangeMaps.setBlock W1 w.heap.size o1) = .ok (.int .i64 c) (ChangeMaps.setBlock W1 w.heap.size o1):=by
    obtain ⟨c',h1,h2,_⟩:=hownE.lookup_int kd38 Try.underlying96 Try.underlying3 (co_zero3 _) (key38 hk)
    rw [hatE] at h2
    have : c = c':=by injection h2 with h2;injection h2
    rw [h1,this]
   have hne : wr.heap.size ≠ w.heap.size:=by omega
   have hb1 : (ChangeMaps.setBlock W1 w.heap.size o1).heap[w.heap.size]? = some o1:=by
    have hlt1 : w.heap.size < W1.heap.size:=hown1.lt
    unfold ChangeMaps.setBlock
    rw [Array.getElem?_setIfInBounds_self_of_lt hlt1]
   obtain ⟨o2,hse,hown3⟩:=hst _ (wrap64 (c + x.f3)) hb1 (co_wf_wrap _)
   rw [show goInt (st : Int) = .int .i64 (st : Int) from rfl] at hse hme
   have hup : wrap64 ((kk : Int) + 1) = ((kk + 1 : Nat) : Int):=by have:=HL.out;unfold wrap64;omega
   have HB3 : RowKit.Below w.heap.size w (ChangeMaps.setBlock (ChangeMaps.setBlock W1 w.heap.size o1) w.heap.size o2):=co_below_setB (co_below_setB HB1 _ (Nat.le_refl _)) _ (Nat.le_refl _)
   have kE : ∀ (j : Nat) (v : Value),W1.cell? ⟨wr.heap.size,j,none⟩ = some v → (ChangeMaps.setBlock W1 w.heap.size o1).cell? ⟨wr.heap.size,j,none⟩ = some v:=fun j v h=>(co_cell_setB hne).trans h
   have e0:=kE 0 _ k0
   have e1:=kE 1 _ k1
   have e2:=kE 2 _ k2
   have e3:=kE 3 _ k3
   have e4:=kE 4 _ k4
   clear kE
   have hval3:=hval.step hxo hat
   rw [← hxm] at hval3
   unfold v38 co_kI at hl hlE hme
   simp only at hl hlE hme
   refine start_ (n:=15) (ds:=[14]) (S:=fun w'=>w'.cell? ⟨wr.heap.size,0,none⟩ = some (.int .i64 x.f0) ∧ w'.cell? ⟨wr.heap.size,1,none⟩ = some (.int .i64 x.f1) ∧ w'.cell? ⟨wr.heap.size,2,none⟩ = some (.int .i64 x.f2.f0) ∧ w'.cell? ⟨wr.heap.size,3,none⟩ = some (.int .i64 x.f2.f1) ∧ w'.cell? ⟨wr.heap.size,4,none⟩ = some (.int .i64 x.f3) ∧ (Instr.lookup 96 (.map (some w.heap.size)) (.agg #[.int .i64 x.f0,.int .i64 x.f1,.int .i64 x.f2.f0,.int .i64 x.f2.f1,.int .i64 0]) false).run Try.prog w' = .ok (.int .i64 c) w') #[false,false,false,false,false,false,false,false,false,false,false,false,false,false,false] (J0_0) rfl rfl ⟨hW1 ▸ k0,hW1 ▸ k1,hW1 ▸ k2,hW1 ▸ k3,hW1 ▸ k4,hW1 ▸ hl⟩ (fun hHeld=>?_)
   rw [← hW1] at hHeld ⊢
   have HW1:=Aside0.mk hW1
   clear hW1
   refine pure_ (i:=0) (N:=(some 16)) (v:=?_) (a':=?_) #[true,false,false,false,false,false,false,false,false,false,false,false,false,false,false] rfl rfl (J0_0) (fun _ _ _ h=>h) (Or.inl ⟨by rfl,?_⟩) ?_ ?_
   rotate_left
   ·intro w'
    go_simp
    with_reducible rfl
   rotate_left
   ·simp only [Act.put,List.setIfInBounds_toArray,List.set_cons_zero,List.set_cons_succ,i64_w,i32_w]
    rfl
   refine pure_ (i:=1) (N:=(some 17)) (v:=?_) (a':=?_) #[true,true,false,false,false,false,false,false,false,false,false,false,false,false,false] rfl rfl (J0_0) (fun _ _ _ h=>h) (Or.inl ⟨by rfl,?_⟩) ?_ ?_
   rotate_left
   ·intro w'
    go_simp
    with_reducible rfl
   rotate_left
   ·simp only [Act.put,List.setIfInBounds_toArray,List.set_cons_zero,List.set_cons_succ,i64_w,i32_w]
    rfl
   refine pure_ (i:=3) (N:=(some 19)) (v:=?_) (a':=?_) #[true,true,false,true,false,false,false,false,false,false,false,false,false,false,false] rfl rfl (J0_0) (fun _ _ _ h=>h) (Or.inl ⟨by rfl,?_⟩) ?_ ?_
   rotate_left
   ·intro w'
    go_simp
    with_reducible rfl
   rotate_left
   ·simp only [Act.put,List.setIfInBounds_toArray,List.set_cons_zero,List.set_cons_succ,i64_w,i32_w]
    rfl
   refine pure_ (i:=5) (N:=(some 21)) (v:=?_) (a':=?_) #[true,true,false,true,false,true,false,false,false,false,false,false,false,false,false] rfl rfl (J0_0) (fun _ _ _ h=>h) (Or.inl ⟨by rfl,?_⟩) ?_ ?_
   rotate_left
   ·intro w'
    go_simp
    with_reducible rfl
   rotate_left
   ·simp only [Act.put,List.setIfInBounds_toArray,List.set_cons_zero,List.set_cons_succ,i64_w,i32_w]
    rfl
   refine pure_ (i:=9) (N:=(some 25)) (v:=?_) (a':=?_) #[true,true,false,true,false,true,false,false,false,true,false,false,false,false,false] rfl rfl (J0_0) (fun _ _ _ h=>h) (Or.inl ⟨by rfl,?_⟩) ?_ ?_
   rotate_left
   ·intro w'
    go_simp
    with_reducible rfl
   rotate_left
   ·simp only [Act.put,List.setIfInBounds_toArray,List.set_cons_zero,List.set_cons_succ,i64_w,i32_w]
    rfl
   refine take_ (i:=2) (N:=(some 18)) (v:=?_) (a':=?_) #[true,true,true,true,false,true,false,false,false,true,false,false,false,false,false] rfl rfl (J0_0) (fun _ _ _ h=>h) (Or.inl ⟨by rfl,?_⟩) hHeld ?_ ?_
   rotate_left
   ·rintro w' ⟨s0,s1,s2,s3,s4,s5⟩
    go_simp
    with_reducible rfl
   rotate_left
   ·simp only [Act.put,List.setIfInBounds_toArray,List.set_cons_zero,List.set_cons_succ,i64_w,i32_w]
    rfl
   refine take_ (i:=4) (N:=(some 20)) (v:=?_) (a':=?_) #[true,true,true,true,true,true,false,false,false,true,false,false,false,false,false] rfl rfl (J0_0) (fun _ _ _ h=>h) (Or.inl ⟨by rfl,?_⟩) hHeld ?_ ?_
   rotate_left
   ·rintro w' ⟨s0,s1,s2,s3,s4,s5⟩
    go_simp
    with_reducible rfl
   rotate_left
   ·simp only [Act.put,List.setIfInBounds_toArray,List.set_cons_zero,List.set_cons_succ,i64_w,i32_w]
    rfl
   refine take_ (i:=6) (N:=(some 22)) (v:=?_) (a':=?_) #[true,true,true,true,true,true,true,false,false,true,false,false,false,false,false] rfl rfl (J0_0) (fun _ _ _ h=>h) (Or.inl ⟨by rfl,?_⟩) hHeld ?_ ?_
   rotate_left
   ·rintro w' ⟨s0,s1,s2,s3,s4,s5⟩
    go_simp
    with_reducible rfl
   rotate_left
   ·simp only [Act.put,List.setIfInBounds_toArray,List.set_cons_zero,List.set_cons_succ,i64_w,i32_w]
    rfl
   refine take_ (i:=10) (N:=(some 26)) (v:=?_) (a':=?_) #[true,true,true,true,true,true,true,false,false,true,true,false,false,false,false] rfl rfl (J0_0) (fun _ _ _ h=>h) (Or.inl ⟨by rfl,?_⟩) hHeld ?_ ?_
   rotate_left
   ·rintro w' ⟨s0,s1,s2,s3,s4,s5⟩
    go_simp
    with_reducible rfl
   rotate_left
   ·simp only [Act.put,List.setIfInBounds_toArray,List.set_cons_zero,List.set_cons_succ,i64_w,i32_w]
    rfl
   refine pure_ (i:=7) (N:=(some 23)) (v:=?_) (a':=?_) #[true,true,true,true,true,true,true,true,false,true,true,false,false,false,false] rfl rfl (J0_0) (fun _ _ _ h=>h) (Or.inl ⟨by rfl,?_⟩) ?_ ?_
   rotate_left
   ·intro w'
    go_simp
    with_reducible rfl
   rotate_left
   ·simp only [Act.put,List.setIfInBounds_toArray,List.set_cons_zero,List.set_cons_succ,i64_w,i32_w]
    rfl
   refine two_ (i:=8) (j:=12) (Ni:=some 24) (Nj:=some 28) #[true,true,true,true,true,true,true,true,true,true,true,false,false,false,false] #[true,true,true,true,true,true,true,true,false,true,true,false,true,false,false] rfl rfl rfl rfl (J0_0) (by decide) (by decide) (fun K hK=>?_) (fun K hK=>?_)
   ·refine value_ (by rfl) rfl (w1:=W1) (v:=.int .i64 c) ?_ ?_
    ·go_simp
    refine hK.out _ _ ⟨k0,k1,k2,k3,k4,hl⟩ (fun hHeld=>?_)
    clear hK K
    refine norm_ (a':=?_) ?_ ?_
    rotate_left
    ·show Act.put _ (some 24) _ = _
     simp only [Act.put,List.setIfInBounds_toArray,List.set_cons_zero,List.set_cons_succ,i64_w,i32_w]
     rfl
    refine pure_ (i:=11) (N:=(some 27)) (v:=?_) (a':=?_) #[true,true,true,true,true,true,true,true,true,true,true,true,false,false,false] rfl rfl (J0_0) (fun _ _ _ h=>h) (Or.inl ⟨by rfl,?_⟩) ?_ ?_
    rotate_left
    ·intro w'
     go_simp
     with_reducible rfl
    rotate_left
    ·simp only [Act.put,List.setIfInBounds_toArray,List.set_cons_zero,List.set_cons_succ,i64_w,i32_w]
     rfl
    refine one_ (i:=12) (N:=some 28) #[true,true,true,true,true,true,true,true,true,true,true,true,true,false,false] rfl rfl (J0_0) (by decide) (fun K hK=>?_)
    refine value_ (by rfl) rfl (w1:=ChangeMaps.setBlock W1 w.heap.size o1) (v:=.tuple #[.int .i64 c,.int .i64 (st : Int)]) ?_ ?_
    ·go_simp
    refine hK.out _ _ ⟨e0,e1,e2,e3,e4,hlE⟩ (fun hHeld=>?_)
    clear hK K
    refine norm_ (a':=?_) ?_ ?_
    rotate_left
    ·show Act.put _ (some 28) _ = _
     simp only [Act.put,List.setIfInBounds_toArray,List.set_cons_zero,List.set_cons_succ,i64_w,i32_w]
     rfl
    refine pure_ (i:=13) (N:=(some 29)) (v:=?_) (a':=?_) #[true,true,true,true,true,true,true,true,true,true,true,true,true,true,false] rfl rfl (J0_0) (fun _ _ _ h=>h) (Or.inl ⟨by rfl,?_⟩) ?_ ?_
    rotate_left
    ·intro w'
     go_simp
     with_reducible rfl
    rotate_left
    ·simp only [Act.put,List.setIfInBounds_toArray,List.set_cons_zero,List.set_cons_succ,i64_w,i32_w]
     rfl
    refine last_ (i:=14) (N:=none) #[true,true,true,true,true,true,true,true,true,true,true,true,true,true,true] rfl rfl (J0_0) (by decide) (fun K hK=>?_)
    refine skip_ (by rfl) rfl (w1:=(ChangeMaps.setBlock (ChangeMaps.setBlock W1 w.heap.size o1) w.heap.size o2)) ?_ ?_
    ·go_simp
    refine hK.out _ _ ?_
    clear hK K
    refine done_ (J0_0) ?_
    generalize ChangeMaps.setBlock (ChangeMaps.setBlock W1 w.heap.size o1) w.heap.size o2 = w3 at hown3 HB3 ⊢
    clear e0 e1 e2 e3 e4 hlE hme hl hst hatE hownE k0 k1 k2 k3 k4 hHeld hse hb1
    go_wp2
    go_roundw
    case rel=>exact ⟨kk + 1,_,by omega,by rw [hup],hown3,hval3,HB3⟩
    case measure=>rw [hup];simp [intOf];omega
   ·refine value_ (by rfl) rfl (w1:=ChangeMaps.setBlock W1 w.heap.size o1) (v:=.tuple #[.int .i64 c,.int .i64 (st : Int)]) ?_ ?_
    ·go_simp
    refine hK.out _ _ ⟨e0,e1,e2,e3,e4,hlE⟩ (fun hHeld=>?_)
    clear hK K
    refine norm_ (a':=?_) ?_ ?_
    rotate_left
    ·show Act.put _ (some 28) _ = _
     simp only [Act.put,List.setIfInBounds_toArray,List.set_cons_zero,List.set_cons_succ,i64_w,i32_w]
     rfl
    refine pure_ (i:=13) (N:=(some 29)) (v:=?_) (a':=?_) #[true,true,true,true,true,true,true,true,false,true,true,false,true,true,false] rfl rfl (J0_0) (fun _ _ _ h=>h) (Or.inl ⟨by rfl,?_⟩) ?_ ?_
    rotate_left
    ·intro w'
     go_simp
     with_reducible rfl
    rotate_left
    ·simp only [Act.put,List.setIfInBounds_toArray,List.set_cons_zero,List.set_cons_succ,i64_w,i32_w]
     rfl
    refine one_ (i:=8) (N:=some 24) #[true,true,true,true,true,true,true,true,true,true,true,false,true,true,false] rfl rfl (J0_0) (by decide) (fun K hK=>?_)
    refine value_ (by rfl) rfl (w1:=ChangeMaps.setBlock W1 w.heap.size o1) (v:=.int .i64 c) ?_ ?_
    ·go_simp
    refine hK.out _ _ ⟨e0,e1,e2,e3,e4,hlE⟩ (fun hHeld=>?_)
    clear hK K
    refine norm_ (a':=?_) ?_ ?_
    rotate_left
    ·show Act.put _ (some 24) _ = _
     simp only [Act.put,List.setIfInBounds_toArray,List.set_cons_zero,List.set_cons_succ,i64_w,i32_w]
     rfl
    refine pure_ (i:=11) (N:=(some 27)) (v:=?_) (a':=?_) #[true,true,true,true,true,true,true,true,true,true,true,true,true,true,false] rfl rfl (J0_0) (fun _ _ _ h=>h) (Or.inl ⟨by rfl,?_⟩) ?_ ?_
    rotate_left
    ·intro w'
     go_simp
     with_reducible rfl
    rotate_left
    ·simp only [Act.put,List.setIfInBounds_toArray,List.set_cons_zero,List.set_cons_succ,i64_w,i32_w]
     rfl
    refine last_ (i:=14) (N:=none) #[true,true,true,true,true,true,true,true,true,true,true,true,true,true,true] rfl rfl (J0_0) (by decide) (fun K hK=>?_)
    refine skip_ (by rfl) rfl (w1:=(ChangeMaps.setBlock (ChangeMaps.setBlock W1 w.heap.size o1) w.heap.size o2)) ?_ ?_
    ·go_simp
    refine hK.out _ _ ?_
    clear hK K
    refine done_ (J0_0) ?_
    generalize ChangeMaps.setBlock (ChangeMaps.setBlock W1 w.heap.size o1) w.heap.size o2 = w3 at hown3 HB3 ⊢
    clear e0 e1 e2 e3 e4 hlE hme hl hst hatE hownE k0 k1 k2 k3 k4 hHeld hse hb1
    go_wp2
    go_roundw
    case rel=>exact ⟨kk + 1,_,by omega,by rw [hup],hown3,hval3,HB3⟩
    case measure=>rw [hup];simp [intOf];omega
  ·have hkl : kk = l0.length:=by omega
   subst hkl
   have c0b : decide ((l0.length : Int) < (l0.length : Int)) = false:=decide_eq_false (by omega)
   clear hlt hk
   rw [List.take_length] at hval
   go_wp2_with (first
    | ((with_reducible refine gate_dst (N:=31) rfl ?_);refine Kd.R_lit k38 _ 38 ?hg (N:=31) ?hd (xs:=([] : List S38)) (inner:=[]) (ok:=fun _=>True) (okp:=fun _=>True) ?hr ?hp (fun _ hk=>hk) trivial (RowKit.Below.refl _ _) (Nat.le_refl _) (by simp) ?_;(case hd=>rfl);(case hg=>rfl);(case hr=>first | (go_simp;done) | (go_simp;rfl));(case hp=>exact (Reps.none _ _));intro v31_ w29 hO hb29 hgr hnew;clear hgr hnew;obtain ⟨A29,c29,e29⟩:=Kd.R_slice hO;subst e29;simp only [List.length_nil] at hO ⊢)
    | (at_range;refine wpList_range_own _ rfl _ 96 rfl 38 3 kd38 Try.underlying96 _ w.heap.size l0.length D rfl ((hown.kept (grown_of_below hb29 none) (by simp)).alloc _) ?_;intro w0 hrg0 hg0 hs0)
    | go_in)
   try go_frame
   have e1 : (w29.alloc (.cells #[.slice A29 0 c29] 23)).heap.size = w29.heap.size + 1:=by simp
   rw [e1] at hrg0 hs0 ⊢
   have hsz29 : wr.heap.size ≤ w29.heap.size:=hb29.size
   have hbx : (w29.alloc (.cells #[.slice A29 0 c29] 23)).heap[w29.heap.size]? = some (.cells #[.slice A29 0 c29] 23 (0,0)):=by simpa using heap_alloc_new w29 _
   have hbx0 : w0.heap[w29.heap.size]? = some (.cells #[.slice A29 0 c29] 23 (0,0)):=(hg0.block _ (by rw [e1];omega) (by simp)).trans hbx
   have hO0 : Kd.R k38 38 w0 wr.heap.size (fun _=>True) (.slice A29 0 c29) []:=Kd.R_grown (Kd.R_alloc hO _) hg0 (fun _ _=>by simp)
   have HBB : RowKit.Below w.heap.size w w0:=((below_weaken HB HB.size hb29).alloc (by have:=HB.size;omega) _).grown hg0 (by rw [e1];have:=HB.size;omega) (fun j hj=>by cases hj)
   have hsD : Maps.size D ≤ l0.length:=by
    obtain ⟨es,clock,_,_,h1,rfl⟩:=hown
    simpa [Maps.size,length_sorted] using h1
   have hbm:=hown.lt
   have hw0:=HB.size
   generalize w29.heap.size = gb at *
   clear hO hbx hg0 hb29 hs0 e1 hown HB
   generalize wr.heap.size = B0 at *
   go_loopw [] (fun wr2=>∃ (left : Lit → Bool) (cnt : Nat) (ys : List S38) (A : Option Addr) (cc : Nat),wr2.ranges Try.prog 38 co_EL w.heap.size (gb + 1) l0.length D left cnt ∧ ys.length + cnt ≤ l0.length ∧ Kd.R k38 38 wr2 B0 (fun _=>True) (.slice A ys.length cc) ys ∧
    wr2.heap[gb]? = some (.cells #[.slice A ys.length cc] 23 (0,0)) ∧ co_Coll l0 D left ys ∧ RowKit.Below w.heap.size w wr2) (fun wr2=>wr2.rangeLeft w.heap.size (gb + 1))
   case atStart=>exact ⟨_,_,[],A29,c29,hrg0,by simpa using hsD,hO0,hbx0,co_Coll.start _ _,HBB⟩
   case round =>
    obtain ⟨left,cnt,ys,A,cc,hrg,hcs,hO,hbx,hC,HB2⟩:=hrel
    go_wp2_with (first
     | (at_next;refine wpList_next_ranges _ rfl _ rfl 38 kd38 co_EL v38 (Value.int .i64) (fun key kl hk=>by obtain ⟨x,hx,_⟩:=key38_inv hk;exact ⟨x,hx⟩) (fun v y hv=>by obtain ⟨c,rfl,_⟩:=plainElem_int_inv Try.underlying3 hv;exact ⟨c,rfl⟩) w.heap.size (gb + 1) l0.length _ _ _ rfl hrg ?_ ?_)
     | go_in)
    ·
     intro hcnt hl
     have hG:=hC.done hval hl
     have hcg : wr.cell? ⟨gb,0,none⟩ = some (.slice A ys.length cc):=(blk_cell hbx 0).trans rfl
     have hgb : gb < wr.heap.size:=(Array.getElem?_eq_some_iff.1 hbx).1
     have hlen : ys.length ≤ 1000000:=by have:=HL.out;omega
     by_cases h2 : 2 ≤ ys.length
     ·obtain ⟨g,cap,ev,hBg,hgl,cells,hgc⟩:=Kd.R_form hO (by omega)
      have eA : A = some ⟨g,0,none⟩:=by injection ev
      have ec : cc = cap:=by injection ev
      subst eA
      subst ec
      have hne : gb ≠ g:=fun e=>by rw [e,hgc] at hbx;cases hbx
      have hS:=co_sort_ g cc gb ys.length ys wr hO hcg hgb hgl hne h2 (by omega)
      clear h2 hgc ev hC hl hrg hcs
      go_wp2_with (first
       | (go_at_call 96;refine hS.mono ?_;rintro e w' ⟨rfl,d',hp,hso,hOs,hgs,hcz⟩;have hBs:=HB2.grown hgs HB2.size (fun k hk=>by injection hk;omega);obtain ⟨hpm,hpw⟩:=co_sorted_of hG.nod hp hso)
       | go_in)
      go_ret
      exact ⟨_,d'.toList,rfl,Kd.R_lower hOs (by omega),hBs,hG.perm hpm,hpw⟩
     ·have hS:=tiny38 A ys.length cc (by omega) gb wr
      have hGt : ys.Pairwise fun x y=>lt38 x y = true:=co_pair_short h2
      clear h2 hC hl hrg hcs
      go_wp2_with (first
       | (go_at_call 96;refine hS.mono ?_;rintro e w' ⟨rfl,os,rfl⟩;have hcz : (Sort.grow wr os).cell? ⟨gb,0,none⟩ = some (.slice A ys.length cc):=(by rw [Sort.cell?_grow _ _ _ hgb];exact hcg);have hgr : wr.grownBy (Sort.grow wr os) none:=co_grown_grow wr os)
       | go_in)
      go_ret
      exact ⟨_,ys,rfl,Kd.R_lower (Kd.R_grown hO hgr (fun _ _=>by simp)) (by omega),HB2.grown hgr HB2.size (fun k hk=>by cases hk),hG,hGt⟩
    ·
     intro q c kl yd yp w2 cnt2 hkey hlk hv hat hrg2 hlt2 hg2 hs2 hen
     obtain ⟨q',eq',hq,rfl⟩:=key38_inv hkey
     obtain rfl : q = q':=by
      obtain ⟨a,b,⟨d,f⟩,g⟩:=q
      obtain ⟨a',b',⟨d',f'⟩,g'⟩:=q'
      simp only [v38] at eq'
      injection eq' with eq'
      simp at eq'
      obtain ⟨rfl,rfl,rfl,rfl,rfl⟩:=eq'
      rfl
     obtain ⟨c',ec,ey,hwc⟩:=plainElem_int_inv Try.underlying3 hv
     obtain rfl : c = c':=by injection ec
     have hcv : c = co_vsum q 0 l0:=by
      have h1:=hat (.lit (.int .i64 0))
      rw [hval.2 q hq] at h1
      have e2 : yd = .lit (.int .i64 c):=congrArg Prod.fst ey
      rw [e2] at h1
      injection h1 with h1
      injection h1 with _ h1
      exact h1.symm
     clear hkey hat hv ey ec eq'
     have hO2 : Kd.R k38 38 w2 B0 (fun _=>True) (.slice A ys.length cc) ys:=Kd.R_mono (Kd.R_grown (Kd.R_tight rfl hO) hg2 (fun k hk e=>co_row_ne_iterR hO hrg (by rw [← e];exact hk))) (fun _ _=>trivial)
     have hbx2 : w2.heap[gb]? = some (.cells #[.slice A ys.length cc] 23 (0,0)):=(hg2.block gb (Array.getElem?_eq_some_iff.1 hbx).1 (by simp)).trans hbx
     have HB3 : RowKit.Below w.heap.size w w2:=HB2.grown hg2 HB2.size (fun j hj=>by cases hj;omega)
     have hszx : w.heap.size < w2.heap.size:=by rw [hs2];exact hrg.owns.lt
     have hBg : B0 ≤ gb:=hsz29
     have hgb2 : gb < w2.heap.size:=(Array.getElem?_eq_some_iff.1 hbx2).1
     have hleft:=hrg.left_eq
     clear hs2 hbx hO hrg hg2
     unfold v38 at hen ⊢
     by_cases hc0 : c = 0
     ·have b0 : (c != 0) = false:=by simp [hc0]
      have hC2:=hC.skip hq (by rw [← hcv];exact hc0)
      clear hcv hc0 hwc
      go_wp2
      go_roundw
      case rel=>exact ⟨_,cnt2,ys,A,cc,hrg2.alloc _,by omega,Kd.R_alloc hO2 _,blk_alloc hbx2 _,hC2,HB3.alloc (by omega) _⟩
      case measure=>rw [(hrg2.alloc _).left_eq,hleft];exact hlt2
     ·have b0 : (c != 0) = true:=by simp [hc0]
      have hC2:=hC.take hq hlk hcv hc0 hwc
      clear hcv hc0 hwc
      have hcg : (w2.alloc (.cells #[.int .i64 q.f0,.int .i64 q.f1,.int .i64 q.f2.f0,.int .i64 q.f2.f1,.int .i64 c] 38)).cell? ⟨gb,0,none⟩ = some (.slice A ys.length cc):=(World.cell?_alloc_lt _ _ _ hgb2).trans ((blk_cell hbx2 0).trans rfl)
      go_wp2_with (first
       | ((with_reducible refine gate_builtin (b:=.append) (xs:=#[.tmp 43,.tmp 45]) rfl ?_);at_builtin;refine Kd.R_append k38 (w0:=w2) B0 rfl (.tmp 43) (.tmp 45) 23 38 (.agg #[(.int .i64 0),(.int .i64 0),(.int .i64 0),(.int .i64 0),(.int .i64 0)]) 40 rfl Try.underlying23 info38 rfl (by decide) (by omega) (.slice A ys.length cc) ys (⟨q.f0,q.f1,⟨q.f2.f0,q.f2.f1⟩,c⟩ : S38) [.int .i64 q.f0,.int .i64 q.f1,.int .i64 q.f2.f0,.int .i64 q.f2.f1,.int .i64 c] (fun _=>True) (fun _=>False) rfl (by first | (go_simp;done) | (go_simp;rfl)) ?aP (fun _ hk=>hk.elim) ?aF ?aO ?aB ?aS ?aL ?_;(case aP=>exact k38_mkM _ _ _ (⟨q.f0,q.f1,⟨q.f2.f0,q.f2.f1⟩,c⟩ : S38));(case aF=>exact fun _ _=>trivial);(case aO=>exact Kd.R_alloc hO2 _);(case aB=>exact (RowKit.Below.refl _ _).alloc (show B0 ≤ w2.heap.size by omega) _);(case aS=>simp;omega);(case aL=>have:=HL.out;omega);intro v1 w1 hO1 hb1 hg1 hat1;clear hat1 hb1;obtain ⟨A1,c1,e1⟩:=Kd.R_slice hO1;subst e1;have hgbn : some gb ≠ (Value.slice A ys.length cc).ownBlock:=(fun hg=>by obtain ⟨cells,hc⟩:=co_own_cells hO2 hg;rw [hbx2] at hc;cases hc);have hbx3:=blk_grown (by simpa using blk_alloc hbx2 _) hg1 hgbn;have hcg3 : w1.cell? ⟨gb,0,none⟩ = some (.slice A ys.length cc):=(blk_cell hbx3 0).trans rfl;have hfz3:=blk_frozen hbx3 0)
       | go_in)
      have hl2 : (ys ++ [(⟨q.f0,q.f1,⟨q.f2.f0,q.f2.f1⟩,c⟩ : S38)]).length = ys.length + 1:=by simp
      rw [← hl2]
      have n1:=co_row_ne_mapR hO2 hrg2
      have n2:=co_row_ne_iterR hO2 hrg2
      have hrg3:=((hrg2.alloc (.cells #[.int .i64 q.f0,.int .i64 q.f1,.int .i64 q.f2.f0,.int .i64 q.f2.f1,.int .i64 c] 38)).kept hg1 n1 n2).kept (co_grown_cell w1 gb (.slice A1 (ys ++ [(⟨q.f0,q.f1,⟨q.f2.f0,q.f2.f1⟩,c⟩ : S38)]).length c1)) (fun e=>by injection e;omega) (fun e=>by injection e;omega)
      have hgb3 : some gb ≠ (Value.slice A1 (ys ++ [(⟨q.f0,q.f1,⟨q.f2.f0,q.f2.f1⟩,c⟩ : S38)]).length c1).ownBlock:=fun hg=>by
       obtain ⟨cells,hc⟩:=co_own_cells hO1 hg
       rw [hbx3] at hc
       cases hc
      go_roundw
      case rel =>
       refine ⟨_,cnt2,ys ++ [(⟨q.f0,q.f1,⟨q.f2.f0,q.f2.f1⟩,c⟩ : S38)],A1,c1,hrg3,by rw [hl2];omega,Kd.R_mono (Kd.R_grown (Kd.R_tight rfl hO1) (co_grown_cell w1 gb _) (fun k hk e=>hgb3 (by rw [← e];exact hk))) (fun _ _=>trivial),blk_put hbx3 0 _ rfl,hC2,?_⟩
       have hs1:=hg1.size
       have hsa : (w2.alloc (.cells #[.int .i64 q.f0,.int .i64 q.f1,.int .i64 q.f2.f0,.int .i64 q.f2.f1,.int .i64 c] 38)).heap.size = w2.heap.size + 1:=by simp
       exact ((HB3.alloc (by omega) _).grown hg1 (by omega) (fun k hk=>by have:=co_own_ge hO2 hk;omega)).grown (co_grown_cell w1 gb _) (by omega) (fun k hk=>by injection hk;omega)
      case measure=>rw [hrg3.left_eq,hleft];exact hlt2
theorem co_Gath.mem {l ys : List S38} (h : co_Gath l ys) (y : S38) : y ∈ ys ↔ ok38 y = true ∧ y.f3 ≠ 0 ∧ y.f3 = co_vsum (co_kI y) 0 l:=by
 constructor
 ·exact h.vals y
 ·rintro ⟨h1,h2,h3⟩
  obtain ⟨z,hz,e⟩:=h.all (co_kI y) (co_ok_kI h1) (by rw [← h3];exact h2)
  have e1 : co_kI z = co_kI y:=co_kI_of e rfl
  have e2:=(h.vals z hz).2.2
  rw [e1,← h3] at e2
  obtain ⟨s0,s1,s2,s3⟩:=e
  have : z = y:=by
   obtain ⟨a,b,⟨c,d⟩,f⟩:=z
   obtain ⟨a',b',⟨c',d'⟩,f'⟩:=y
   simp only [co_kI] at s0 s1 s2 s3 e2
   subst s0 s1 s2 s3 e2
   rfl
  rw [← this]
  exact hz
theorem co_sortR_uniq : ∀ {a b : List S38},co_SortR a → co_SortR b → (∀ t,t ∈ a ↔ t ∈ b) → a = b
 | [],[],_,_,_=>rfl
 | [],y :: s,_,_,h=>by have:=(h y).2 List.mem_cons_self;simp at this
 | x :: r,[],_,_,h=>by have:=(h x).1 List.mem_cons_self;simp at this
 | x :: r,y :: s,ha,hb,h=>by
  obtain ⟨a1,a2⟩:=List.pairwise_cons.1 ha
  obtain ⟨b1,b2⟩:=List.pairwise_cons.1 hb
  have e : x = y:=by
   rcases List.mem_cons.1 ((h x).1 List.mem_cons_self) with e | hx
   ·exact e
   ·rcases List.mem_cons.1 ((h y).2 List.mem_cons_self) with e | hy
    ·exact e.symm
    ·have h1:=a1 y hy;have h2:=b1 x hx
     rw [swo38.asymmA h1] at h2
     cases h2
  subst e
  rw [co_sortR_uniq a2 b2 fun t=>?_]
  constructor
  ·intro ht
   rcases List.mem_cons.1 ((h t).1 (List.mem_cons_of_mem _ ht)) with e | ht'
   ·subst e;have:=a1 t ht;rw [swo38.irrefl] at this;cases this
   ·exact ht'
  ·intro ht
   rcases List.mem_cons.1 ((h t).2 (List.mem_cons_of_mem _ ht)) with e | ht'
   ·subst e;have:=b1 t ht;rw [swo38.irrefl] at this;cases this
   ·exact ht'
noncomputable def co_res (l : List S38) : List S38 := open Classical in if h : ∃ ys, co_Gath l ys ∧ co_SortR ys then Classical.choose h else []
theorem co_res_eq {l ys : List S38} (h : co_Gath l ys) (hs : co_SortR ys) : ys = co_res l:=by
 have hex : ∃ ys,co_Gath l ys ∧ co_SortR ys:=⟨ys,h,hs⟩
 unfold co_res
 rw [dif_pos hex]
 have hc:=Classical.choose_spec hex
 exact co_sortR_uniq hs hc.2 fun t=>by rw [h.mem,hc.1.mem]
noncomputable def impl_consolidated.f (l0 : List S38) : Option (List S38) := if l0.length ≤ 1000000 ∧ (l0.all ok38) = true then some (co_res l0) else none
theorem impl_consolidated.calls (A0 : Option Addr) (c0 : Nat) (l0 : List S38) (r : List S38) (w : World) (hr0 : Kd.C k38 w A0 l0.length l0) (hc0 : l0.length ≤ c0) (h : impl_consolidated.f l0 = some r) :
  Calls Try.prog 84 #[.slice A0 l0.length c0] w fun e w'=>∃ v0_ : Value,e = .returned (v0_) ∧ Kd.R k38 38 w' w.heap.size (fun _=>True) v0_ r ∧ RowKit.Below w.heap.size w w':=by
 unfold impl_consolidated.f at h
 split at h
 ·rename_i hk
  have hok : ∀ x ∈ l0,ok38 x = true:=fun x hx=>List.all_eq_true.1 hk.2 x hx
  obtain rfl:=Option.some.inj h
  refine (co_consol_walk A0 c0 l0 w hr0 hc0 hk.1 hok).mono ?_
  rintro e w' ⟨v,ys,he,hR,hB,hG,hs⟩
  rw [co_res_eq hG hs] at hR
  exact ⟨v,he,hR,hB⟩
 ·cases h

end Go.Proofs.Ytjlkffmdmifahaa.PFnBatchMove
