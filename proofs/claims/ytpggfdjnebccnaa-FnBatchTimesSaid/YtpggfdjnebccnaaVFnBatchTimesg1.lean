/- A function of the program with a map and a sort: as a plain Lean function, with its contract. -/
import Derived.Test.YtpggfdjnebccnaaSrt6
import Derived.Test.YtpggfdjnebccnaaShp
import Derived.Shelf.GgSortFunc.Tiny
import Derived.Lib.RowBridge
import Derived.Lib.SortBridge
import Derived.Test.YtpggfdjnebccnaaVFnBatchTimesw
import Derived.Test.YtpggfdjnebccnaaVFnBatchTimesp0
namespace Go.Proofs.Ytpggfdjnebccnaa.PFnBatchTimes
open Go.RowKit Go.Proofs.YtpggfdjnebccnaaW.PrintWords Go.Proofs.YtpggfdjnebccnaaW.PrintLast Go.Proofs.YtpggfdjnebccnaaW.PrintMore
open Go.Sort Go.Shelf Go.Lib Go.ChangeMaps Go.ChangeShapes Go.WideShapes
attribute [local go_sem] max2_int min2_int max_two min_two max_three min_three max_four min_four
set_option linter.unusedVariables false
set_option linter.unusedSimpArgs false
theorem J1_0 {p : Prop} (h : p := by kernel_rfl) : p := h
theorem J1_1 {p : Prop} (h : p := by repeat (first | exact HB4.out | apply below_alloc | apply pw_below_drewN | apply below_drew1)) : p := h
theorem J1_2 {p : Prop} (h : p := by (with_reducible repeat (first | apply Kd.R_alloc | apply Kd.R_drewN | apply Kd.R_drew)); exact HO4.out) : p := h

def Grew (W W' : World) : Prop := ∃ n os, W' = Sort.grow (Sort.ahead W n) os
theorem Grew.refl (W : World) : Grew W W := ⟨0, #[], by rw [Sort.grow_empty]; rfl⟩
theorem Grew.drewN {W W' : World} (h : Grew W W') (q : Nat) : Grew W (W'.drewN q) := by
 obtain ⟨n, os, rfl⟩ := h
 exact ⟨n + q, os, by rw [← Sort.ahead_ahead]; rfl⟩
theorem Grew.alloc {W W' : World} (h : Grew W W') (o : Obj) : Grew W (W'.alloc o) := by
 obtain ⟨n, os, rfl⟩ := h
 exact ⟨n, os ++ #[o], by rw [Sort.alloc_eq_grow, Sort.grow_grow]⟩
theorem Grew.trans {W X Y : World} (h : Grew W X) (h' : Grew X Y) : Grew W Y := by
 obtain ⟨n, os, rfl⟩ := h; obtain ⟨n', os', rfl⟩ := h'
 exact ⟨n + n', os ++ os', by rw [Sort.ahead_grow, Sort.grow_grow, Sort.ahead_ahead]⟩
theorem Grew.cell {W W' : World} (h : Grew W W') {p : Addr} {v : Value} (hv : W.cell? p = some v) : W'.cell? p = some v := by
 obtain ⟨n, os, rfl⟩ := h
 rw [Sort.cell?_grow _ _ _ (show p.block < (Sort.ahead W n).heap.size from World.block_lt_of_cell? W _ hv)]; exact hv
def lt36 (x y : S36) : Bool := decide (x.f0 < y.f0 ∨ x.f0 = y.f0 ∧ x.f1 < y.f1)
set_option maxHeartbeats 2000000 in
theorem fo_ahead_ (x y : S36) (W : World) : Calls Try.prog 64 #[.agg #[.int .i64 x.f0, .int .i64 x.f1], .agg #[.int .i64 y.f0, .int .i64 y.f1]] W fun e w' => e = .returned (.bool (lt36 x y)) ∧ Grew W w' := by
 unfold lt36
 by_cases h1 : x.f0 < y.f0
 ·have b1 : decide (x.f0 < y.f0) = true := decide_eq_true h1
  rw [decide_eq_true (.inl h1)]
  clear h1
  go_enter Try.func64, Try.ntmps64
  go_wp2
  go_ret
  exact ⟨rfl, ((Grew.refl _).alloc _).alloc _⟩
 ·have b1 : decide (x.f0 < y.f0) = false := decide_eq_false h1
  by_cases h2 : x.f0 = y.f0
  ·have b2 : (x.f0 == y.f0) = true := beq_iff_eq.2 h2
   have b3 : decide (x.f0 < y.f0 ∨ x.f0 = y.f0 ∧ x.f1 < y.f1) = decide (x.f1 < y.f1) := by rw [decide_eq_decide]; omega
   rw [b3]
   clear h1 h2 b3
   go_enter Try.func64, Try.ntmps64
   go_wp2
   go_ret
   exact ⟨rfl, ((Grew.refl _).alloc _).alloc _⟩
  ·have b2 : (x.f0 == y.f0) = false := beq_eq_false_iff_ne.2 h2
   rw [decide_eq_false (by omega)]
   clear h1 h2
   go_enter Try.func64, Try.ntmps64
   go_wp2
   go_ret
   exact ⟨rfl, ((Grew.refl _).alloc _).alloc _⟩
set_option maxHeartbeats 2000000 in
set_option maxRecDepth 100000 in
theorem fo_less_ (blk c Bs size : Nat) (W : World) (x y : S36) (i j : Nat) (hi : i < size) (hj : j < size) (hs : W.cell? ⟨Bs, 0, none⟩ = some (.slice (some ⟨blk, 0, none⟩) size c))
  (x0 : W.cell? ⟨blk, i * 2, none⟩ = some (.int .i64 x.f0)) (x1 : W.cell? ⟨blk, i * 2 + 1, none⟩ = some (.int .i64 x.f1))
  (y0 : W.cell? ⟨blk, j * 2, none⟩ = some (.int .i64 y.f0)) (y1 : W.cell? ⟨blk, j * 2 + 1, none⟩ = some (.int .i64 y.f1)) :
  Calls Try.prog 63 #[.int .i64 i, .int .i64 j, .pointer (some ⟨Bs, 0, none⟩)] W fun e w' => e = .returned (.bool (lt36 x y)) ∧ Grew W w' := by
 have pi := eq_true (show 0 ≤ (i : Int) by omega)
 have qi := eq_true (show (i : Int) < (size : Int) by omega)
 have pj := eq_true (show 0 ≤ (j : Int) by omega)
 have qj := eq_true (show (j : Int) < (size : Int) by omega)
 go_enter Try.func63, Try.ntmps63
 go_wp2_with fail
 refine start_ (n := 10) (ds := []) (S := fun w' => w'.cell? ⟨Bs, 0, none⟩ = some (.slice (some ⟨blk, 0, none⟩) size c) ∧ w'.cell? ⟨blk, i * 2, none⟩ = some (.int .i64 x.f0) ∧ w'.cell? ⟨blk, i * 2 + 1, none⟩ = some (.int .i64 x.f1) ∧ w'.cell? ⟨blk, j * 2, none⟩ = some (.int .i64 y.f0) ∧ w'.cell? ⟨blk, j * 2 + 1, none⟩ = some (.int .i64 y.f1)) #[false, false, false, false, false, false, false, false, false, false] (J1_0) rfl rfl ⟨hs, x0, x1, y0, y1⟩ (fun hHeld => ?_)
 refine pure_ (i := 1) (N := (some 7)) (v := ?_) (a' := ?_) #[false, true, false, false, false, false, false, false, false, false] rfl rfl (J1_0) (fun _ _ _ h => h) (Or.inl ⟨by rfl, ?_⟩) ?_ ?_
 rotate_left
 ·intro w'
  go_simp
  with_reducible rfl
 rotate_left
 ·simp only [Act.put, List.setIfInBounds_toArray, List.set_cons_zero, List.set_cons_succ, i64_w, i32_w]
  rfl
 refine pure_ (i := 5) (N := (some 11)) (v := ?_) (a' := ?_) #[false, true, false, false, false, true, false, false, false, false] rfl rfl (J1_0) (fun _ _ _ h => h) (Or.inl ⟨by rfl, ?_⟩) ?_ ?_
 rotate_left
 ·intro w'
  go_simp
  with_reducible rfl
 rotate_left
 ·simp only [Act.put, List.setIfInBounds_toArray, List.set_cons_zero, List.set_cons_succ, i64_w, i32_w]
  rfl
 refine take_ (i := 0) (N := (some 6)) (v := ?_) (a' := ?_) #[true, true, false, false, false, true, false, false, false, false] rfl rfl (J1_0) (fun _ _ _ h => h) (Or.inl ⟨by rfl, ?_⟩) hHeld ?_ ?_
 rotate_left
 ·rintro w' ⟨s0, s1, s2, s3, s4⟩
  go_simp
  with_reducible rfl
 rotate_left
 ·simp only [Act.put, List.setIfInBounds_toArray, List.set_cons_zero, List.set_cons_succ, i64_w, i32_w]
  rfl
 refine pure_ (i := 2) (N := (some 8)) (v := ?_) (a' := ?_) #[true, true, true, false, false, true, false, false, false, false] rfl rfl (J1_0) (fun _ _ _ h => h) (Or.inl ⟨by rfl, ?_⟩) ?_ ?_
 rotate_left
 ·intro w'
  go_simp
  with_reducible rfl
 rotate_left
 ·simp only [Act.put, List.setIfInBounds_toArray, List.set_cons_zero, List.set_cons_succ, i64_w, i32_w]
  rfl
 refine take_ (i := 3) (N := (some 9)) (v := ?_) (a' := ?_) #[true, true, true, true, false, true, false, false, false, false] rfl rfl (J1_0) (fun _ _ _ h => h) (Or.inl ⟨by rfl, ?_⟩) hHeld ?_ ?_
 rotate_left
 ·rintro w' ⟨s0, s1, s2, s3, s4⟩
  go_simp
  with_reducible rfl
 rotate_left
 ·simp only [Act.put, List.setIfInBounds_toArray, List.set_cons_zero, List.set_cons_succ, i64_w, i32_w]
  rfl
 refine take_ (i := 4) (N := (some 10)) (v := ?_) (a' := ?_) #[true, true, true, true, true, true, false, false, false, false] rfl rfl (J1_0) (fun _ _ _ h => h) (Or.inl ⟨by rfl, ?_⟩) hHeld ?_ ?_
 rotate_left
 ·rintro w' ⟨s0, s1, s2, s3, s4⟩
  go_simp
  with_reducible rfl
 rotate_left
 ·simp only [Act.put, List.setIfInBounds_toArray, List.set_cons_zero, List.set_cons_succ, i64_w, i32_w]
  rfl
 refine pure_ (i := 6) (N := (some 12)) (v := ?_) (a' := ?_) #[true, true, true, true, true, true, true, false, false, false] rfl rfl (J1_0) (fun _ _ _ h => h) (Or.inl ⟨by rfl, ?_⟩) ?_ ?_
 rotate_left
 ·intro w'
  go_simp
  with_reducible rfl
 rotate_left
 ·simp only [Act.put, List.setIfInBounds_toArray, List.set_cons_zero, List.set_cons_succ, i64_w, i32_w]
  rfl
 refine take_ (i := 7) (N := (some 13)) (v := ?_) (a' := ?_) #[true, true, true, true, true, true, true, true, false, false] rfl rfl (J1_0) (fun _ _ _ h => h) (Or.inl ⟨by rfl, ?_⟩) hHeld ?_ ?_
 rotate_left
 ·rintro w' ⟨s0, s1, s2, s3, s4⟩
  go_simp
  with_reducible rfl
 rotate_left
 ·simp only [Act.put, List.setIfInBounds_toArray, List.set_cons_zero, List.set_cons_succ, i64_w, i32_w]
  rfl
 refine one_ (i := 8) (N := some 14) #[true, true, true, true, true, true, true, true, true, false] rfl rfl (J1_0) (by decide) (fun K hK => ?_)
 refine goes_ Try.func64 (J1_0) rfl #[.agg #[.int .i64 x.f0, .int .i64 x.f1], .agg #[.int .i64 y.f0, .int .i64 y.f1]] (by rfl) rfl rfl (by (try simp only [List.map_toArray, List.map_cons, List.map_nil]); first | done | rfl) ?_
 refine (fo_ahead_ x y _).mono ?_
 rintro e w' ⟨rfl, hG⟩
 refine ⟨_, rfl, ?_⟩
 refine hK.out _ _ ⟨hG.cell hHeld.1, hG.cell hHeld.2.1, hG.cell hHeld.2.2.1, hG.cell hHeld.2.2.2.1, hG.cell hHeld.2.2.2.2⟩ (fun hHeld2 => ?_)
 clear hK K
 refine norm_ (a' := ?_) ?_ ?_
 rotate_left
 ·show Act.put _ (some 14) _ = _
  simp only [Act.put, List.setIfInBounds_toArray, List.set_cons_zero, List.set_cons_succ, i64_w, i32_w]
  rfl
 refine pure_ (i := 9) (N := (some 5)) (v := ?_) (a' := ?_) #[true, true, true, true, true, true, true, true, true, true] rfl rfl (J1_0) (fun _ _ _ h => h) (Or.inl ⟨by rfl, ?_⟩) ?_ ?_
 rotate_left
 ·intro w'
  go_simp
  with_reducible rfl
 rotate_left
 ·simp only [Act.put, List.setIfInBounds_toArray, List.set_cons_zero, List.set_cons_succ, i64_w, i32_w]
  rfl
 refine done_ (J1_0) ?_
 go_wp2
 go_ret
 refine ⟨rfl, ?_⟩
 exact ((Grew.refl W).drewN 1).trans hG
theorem Grew.by {W W' : World} (h : Grew W W') : W.grownBy W' none := by
 obtain ⟨n, os, rfl⟩ := h
 exact ⟨rfl, rfl, rfl, by simp [Sort.ahead], fun k hk _ => Sort.heap_grow_old (Sort.ahead W n) _ hk⟩
theorem Grew.below {w W W' : World} (h : Grew W W') (hb : Below w.heap.size w W) : Below w.heap.size w W' := hb.grown h.by hb.size (fun j hj => by cases hj)
def fo_tok (x : S36) : Bool := decide (0 ≤ x.f0) && (decide (x.f0 ≤ 7) && (decide (0 ≤ x.f1) && decide (x.f1 ≤ 7)))
set_option maxHeartbeats 2000000 in
theorem fo_tok_ (x : S36) (W : World) : Calls Try.prog 61 #[.agg #[.int .i64 x.f0, .int .i64 x.f1]] W fun e w' => e = .returned (.bool (fo_tok x)) ∧ Grew W w' := by
 unfold fo_tok
 cases h1 : decide (0 ≤ x.f0) <;> cases h2 : decide (x.f0 ≤ 7) <;> cases h3 : decide (0 ≤ x.f1) <;> cases h4 : decide (x.f1 ≤ 7) <;>
 ·go_enter Try.func61, Try.ntmps61
  go_wp2
  go_ret
  exact ⟨rfl, (Grew.refl _).alloc _⟩
def frS (out : List S36) : List S36 → List S36
 | [] => out
 | t :: r => frS (if out.length = 0 then out ++ [t] else if t.f1 < (rd_T36 out ((out.length : Int) - 1)).f1 then out ++ [t] else out) r
theorem frS_snoc (l : List S36) (t : S36) : ∀ out, frS out (l ++ [t]) = if (frS out l).length = 0 then frS out l ++ [t] else if t.f1 < (rd_T36 (frS out l) (((frS out l).length : Int) - 1)).f1 then frS out l ++ [t] else frS out l := by
 induction l with
 | nil => intro out; rfl
 | cons x r ih => intro out; exact ih _
theorem frS_len (l : List S36) : ∀ out, (frS out l).length ≤ out.length + l.length := by
 induction l with
 | nil => intro out; simp [frS]
 | cons x r ih =>
  intro out
  refine Nat.le_trans (ih _) ?_
  split
  ·simp; omega
  ·split <;> simp <;> omega
def frontI (l : List S36) : List S36 := frS [] (l.mergeSort fun x y => !lt36 y x)
theorem swo36 : SWO lt36 := by
 refine ⟨fun x => ?_, fun x y z h k => ?_, fun x y z h k => ?_⟩
 ·simp [lt36]
 ·simp only [lt36, decide_eq_true_eq] at *
  omega
 ·simp only [lt36, decide_eq_false_iff_not] at *
  omega
instance : Inhabited S36 := ⟨z36⟩
theorem sorted36 {ys : List S36} {d' : Array S36} (hp : PermIn 0 ys.length ys.toArray d') (hs : SortedIn lt36 0 ys.length d') : d'.toList = ys.mergeSort fun x y => !lt36 y x := by
 have := sorted_unique_holds (lt := lt36) swo36 (fun x y h k => by
  obtain ⟨a, b⟩ := x; obtain ⟨c, d⟩ := y
  simp only [lt36, decide_eq_false_iff_not] at h k
  have h1 : a = c := by omega
  have h2 : b = d := by omega
  rw [h1, h2]) ys.toArray d' (by simpa using hp) (by simpa using hs)
 simpa using this

section
variable {α : Type} [Inhabited α] {d : Kd α} {enc : α → List Value} {e g n cap base : Nat} {ok : Nat → Prop} {W : World} {xs : List α}
theorem fo_own_holds (hk : ∀ x, (enc x).length = d.sz) (hM : ∀ {W base ok x cs}, d.M W base ok x cs → cs = enc x) (h : d.R e W base ok (.slice (some ⟨g, 0, none⟩) n cap) xs) : HoldsK enc d.sz W g 0 xs.toArray := by
 intro j hj
 have hn : n = xs.length := (Kd.R_reads' h).1
 rw [size_flatK] at hj
 have hj' : j < xs.length * d.sz := by simpa using hj
 have hs : 0 < d.sz := by
  rcases Nat.eq_zero_or_pos d.sz with h0 | h0
  ·rw [h0] at hj'; simp at hj'
  ·exact h0
 have hq : j / d.sz < xs.length := (Nat.div_lt_iff_lt_mul hs).2 hj'
 obtain ⟨c, hc, hm, hcc, hfr⟩ := Kd.R_elem h default ((j / d.sz : Nat) : Int) (Int.natCast_nonneg _) (Int.ofNat_lt.2 (hn ▸ hq))
 obtain rfl := hM hm
 have hr : j % d.sz < d.sz := Nat.mod_lt _ hs
 have ej : j / d.sz * d.sz + j % d.sz = j := by rw [Nat.mul_comm]; exact Nat.div_add_mod j d.sz
 have hx : xs.getD (j / d.sz) default = xs.toArray[j / d.sz]! := by
  rw [List.getD_eq_getElem?_getD, List.getElem?_eq_getElem hq]
  simp [hq]
 rw [get_flatK _ _ _ _ (by simpa using hj')]
 rw [Int.toNat_natCast, hx] at hcc
 generalize xs.toArray[j / d.sz]! = y at *
 have e1 := hcc (j % d.sz) ((enc y)[j % d.sz]!) (by
  rw [getElem!_pos _ _ (by rw [hk]; exact hr), List.getElem?_eq_getElem (by rw [hk]; exact hr)])
 have e2 := hfr (j % d.sz)
 rw [Int.toNat_natCast, ej] at e2
 rw [ej] at e1
 rw [Nat.zero_add]
 exact ⟨e1, e2⟩
theorem fo_heap_sortedK {w : World} {k m : Nat} {os : Array Obj} {cur : Array Value} {t : TypeId} {fr : Nat × Nat} (d' : Array α) (hb : w.heap[g]? = some (.cells cur t fr)) :
  (grow (putRowK enc k (Sort.ahead w m) g 0 d') os).heap[g]? = some (.cells (putCells id 0 (flatK enc k d') cur) t fr) := by
 have hg : g < w.heap.size := (Array.getElem?_eq_some_iff.1 hb).1
 rw [heap_grow_old _ _ (by simpa [putRowK] using hg)]
 simp [putRowK, putRow, mapBlock, Sort.ahead, Array.getElem?_modify, hb, onCells]
theorem fo_grownBy_sortedK {w : World} {k m : Nat} {os : Array Obj} (d' : Array α) : w.grownBy (grow (putRowK enc k (Sort.ahead w m) g 0 d') os) (some g) := by
 refine ⟨rfl, rfl, rfl, by simp [putRowK], fun k hk hne => ?_⟩
 rw [heap_grow_old _ _ (by simpa [putRowK] using hk)]
 have : g ≠ k := fun e => hne (by rw [e])
 simp [putRowK, putRow, mapBlock, Sort.ahead, Array.getElem?_modify, this]
theorem fo_R_sorted (hk : ∀ x, (enc x).length = d.sz) (hM : ∀ {W base ok x}, d.M W base ok x (enc x)) (h : d.R e W base ok (.slice (some ⟨g, 0, none⟩) n cap) xs) (d' : Array α) (hs : d'.size = n) (m : Nat) (os : Array Obj) :
  d.R e (grow (putRowK enc d.sz (Sort.ahead W m) g 0 d') os) base ok (.slice (some ⟨g, 0, none⟩) n cap) d'.toList := by
 have hn : n = xs.length := (Kd.R_reads' h).1
 subst hn
 obtain ⟨h0, inner, ho, hr⟩ := h
 obtain ⟨h1, h2⟩ := ho
 rcases h2 with ⟨h2, _⟩ | ⟨g', cap', cur, hv, hg, hh, hc1, hc2, hc3, hc4⟩
 ·cases h2
 cases hv
 have hlen : d'.toList.length = xs.length := by simpa using hs
 have hle : xs.length * d.sz ≤ cur.size := by rw [hc3]; exact Nat.mul_le_mul_right _ hc1
 have hfl : (flatK enc d.sz d').size = xs.length * d.sz := by rw [size_flatK, hs]
 refine ⟨h0, (flatK enc d.sz d').toList, ⟨by simp [hs], .inr ⟨g, cap, _, by rw [hlen], hg, fo_heap_sortedK d' hh, by rw [hlen]; omega, hc2, by simp [putCells, hc3], ?_⟩⟩, by simp, fun j p hj => ?_⟩
 ·rw [hlen]
  apply List.ext_getElem?
  intro j
  by_cases hj : j < xs.length * d.sz
  ·rw [List.getElem?_take_of_lt hj, Array.getElem?_toList]
   simp [putCells, hfl, hj, show j < cur.size by omega]
  ·rw [List.getElem?_take_eq_none (by omega), List.getElem?_eq_none (by simp [hs]; omega)]
 ·have hjl : j < d'.size := by
   have := (List.getElem?_eq_some_iff.1 hj).1
   simpa using this
  have hp : d'[j]! = p := by
   rw [Array.getElem?_toList, Array.getElem?_eq_getElem hjl] at hj
   rw [getElem!_pos d' j hjl]
   exact Option.some.inj hj
  have : ((flatK enc d.sz d').toList.drop (j * d.sz)).take d.sz = enc p := by
   apply List.ext_getElem?
   intro r
   by_cases hr : r < d.sz
   ·have hb : j * d.sz + r < d'.size * d.sz := by
     have := Nat.mul_le_mul_right d.sz (show j + 1 ≤ d'.size from hjl)
     rw [Nat.add_mul, Nat.one_mul] at this
     omega
    have e1 : (j * d.sz + r) / d.sz = j := (blk_iff d.sz j _ (by omega)).1 ⟨by omega, by omega⟩
    have e2 : (j * d.sz + r) % d.sz = r := by rw [Nat.mod_eq_sub_div_mul, e1]; omega
    rw [List.getElem?_take_of_lt hr, List.getElem?_drop, Array.getElem?_toList]
    have := get_flatK enc d.sz d' (j * d.sz + r) hb
    rw [e1, e2, hp] at this
    rw [Array.getElem?_eq_getElem (by rw [size_flatK]; exact hb), List.getElem?_eq_getElem (by rw [hk]; exact hr)]
    rw [getElem!_pos _ _ (by rw [size_flatK]; exact hb), getElem!_pos _ _ (by rw [hk]; exact hr)] at this
    rw [this]
   ·rw [List.getElem?_take_eq_none (by omega), List.getElem?_eq_none (by rw [hk]; omega)]
  rw [this]
  exact hM
end
theorem fo_own_cells {α : Type} {d : Kd α} {e base g : Nat} {W : World} {ok : Nat → Prop} {v : Value} {xs : List α} (h : Kd.R d e W base ok v xs) (hg : some g = v.ownBlock) : ∃ cells, W.heap[g]? = some (.cells cells e (0, 0)) := by
 obtain ⟨_, inner, ho, _⟩ := h
 exact own_typed ho g hg.symm
theorem fo_own_ge {α : Type} {d : Kd α} {e base g : Nat} {W : World} {ok : Nat → Prop} {v : Value} {xs : List α} (h : Kd.R d e W base ok v xs) (hg : v.ownBlock = some g) : base ≤ g := by
 obtain ⟨_, inner, ho, _⟩ := h
 exact own_base ho g hg

def enc36 (x : S36) : List Value := [.int .i64 x.f0, .int .i64 x.f1]
noncomputable def sT36 : TypeInfo := (Try.prog.info? 24).get (J1_0)
noncomputable def sE36 : TypeInfo := (Try.prog.info? 36).get (J1_0)
theorem swap36 (n : Nat) (h2 : 2 ≤ n) : Lib.swapperK n sE36 25 = 9 := by
 have a : sE36.hasPointers = false := by kernel_rfl
 have b : sE36.bytes = 16 := by kernel_rfl
 have c : (n == 0) = false := by simp; omega
 have d : (n == 1) = false := by simp; omega
 simp [Lib.swapperK, a, b, c, d]
theorem grew_swk {enc : S36 → List Value} {k : Nat} {W W' : World} {g off : Nat} {dk : Array S36} (hH : HoldsK enc k W g off dk) (h : Grew W W') : SWK enc k W g off dk W' := by
 obtain ⟨n, os, rfl⟩ := h
 exact ⟨n, os, by unfold sortWorldK; rw [putRowK_self enc k _ g off dk (holdsK_ahead enc k W n g off dk hH)]⟩
theorem lays36 (g c go n : Nat) (xs : List S36) (W : World) {base : Nat} {ok : Nat → Prop} (h : Kd.R k36 36 W base ok (.slice (some ⟨g, 0, none⟩) n c) xs) (hgo : W.cell? ⟨go, 0, none⟩ = some (.slice (some ⟨g, 0, none⟩) n c)) (hlt : go < W.heap.size) (hg : g < W.heap.size) (hne : go ≠ g) :
  Srt.LessLays Try.prog 63 #[.pointer (some ⟨go, 0, none⟩)] enc36 2 lt36 g 0 n W := by
 intro dk W1 hW hs i j hi hj
 have hn : n = xs.length := (Kd.R_reads' h).1
 have hH : HoldsK enc36 2 W g 0 xs.toArray := fo_own_holds (d := k36) (fun _ => rfl) (fun h => k36_openM h) h
 have hH1 : HoldsK enc36 2 W1 g 0 dk := hW.holds hg hH (by rw [hs]; simp [hn])
 have cel := fun t (ht : t < n) q (hq : q < 2) => (hH1.cell (i := t) (c := q) (by omega) hq).1
 have ho : W1.cell? ⟨go, 0, none⟩ = some (.slice (some ⟨g, 0, none⟩) n c) := by
  obtain ⟨m, os, rfl⟩ := hW
  rw [cell?_sortWorldK_other enc36 2 W g 0 m dk os ⟨go, 0, none⟩ hne hlt]; exact hgo
 have a0 := cel i hi 0 (by omega)
 have a1 := cel i hi 1 (by omega)
 have b0 := cel j hj 0 (by omega)
 have b1 := cel j hj 1 (by omega)
 simp only [Nat.zero_add, Nat.add_zero] at a0 a1 b0 b1
 exact (fo_less_ g c go n _ dk[i]! dk[j]! i j hi hj ho a0 a1 b0 b1).mono fun _ _ ⟨he, hG⟩ => ⟨he, grew_swk hH1 hG⟩
theorem fo_sort_ (g c go n : Nat) (xs : List S36) (W : World) {base : Nat} {ok : Nat → Prop} (h : Kd.R k36 36 W base ok (.slice (some ⟨g, 0, none⟩) n c) xs) (hgo : W.cell? ⟨go, 0, none⟩ = some (.slice (some ⟨g, 0, none⟩) n c)) (hlt : go < W.heap.size) (hg : g < W.heap.size) (hne : go ≠ g) (h2 : 2 ≤ n) (hsz : n < 4611686018427387904) :
  Calls Try.prog 62 #[.iface 24 (.slice (some ⟨g, 0, none⟩) n c), .func (.func 63) #[] #[.pointer (some ⟨go, 0, none⟩)]] W fun e w' =>
   e = .returned (.tuple #[]) ∧ Kd.R k36 36 w' base ok (.slice (some ⟨g, 0, none⟩) n c) (xs.mergeSort fun x y => !lt36 y x) ∧ W.grownBy w' (some g) ∧ w'.cell? ⟨go, 0, none⟩ = some (.slice (some ⟨g, 0, none⟩) n c) := by
 have hn : n = xs.length := (Kd.R_reads' h).1
 have hH : HoldsK enc36 2 W g 0 xs.toArray := fo_own_holds (d := k36) (fun _ => rfl) (fun h => k36_openM h) h
 have es : xs.toArray.size = n := by simp [hn]
 have hr := lays36 g c go n xs W h hgo hlt hg hne
 have := Srt.sortSlice Try.sv6 24 36 sT36 sE36 (J1_0) (J1_0) (J1_0) (J1_0) 25 (fun _ => by kernel_rfl) enc36 2 (fun _ => rfl) (J1_0) (fun _ => by kernel_rfl)
  (fun x v hv => by simp [enc36] at hv; rcases hv with rfl | rfl <;> rfl) lt36 swo36 63 _
  (enters_of Try.func63 (J1_0) rfl) g 0 c xs.toArray (by rw [es]; exact h2) (by rw [es]; exact hsz) 113 (by rw [es, swap36 _ h2]; kernel_rfl) false
  (fun args W => run_callFunc_extern Try.func113 (J1_0) (J1_0) (J1_0) (e := Extern.ReflectliteSwapper.swap false) (J1_0) args W) W (by rw [es]; exact hr) hH hg
 rw [es] at this
 refine this.mono ?_
 rintro e w' ⟨he, d', hp, hso, m, os, rfl⟩
 have hds : d'.size = n := by rw [hp.1, es]
 have hsd := sorted36 (ys := xs) (by rw [← hn]; exact hp) (by rw [← hn]; exact hso)
 refine ⟨he, ?_, ?_, ?_⟩
 ·rw [← hsd]; exact fo_R_sorted (d := k36) (fun _ => rfl) (k36_mkM _ _ _ _) h d' hds m os
 ·exact fo_grownBy_sortedK (g := g) (enc := enc36) (k := 2) (m := m) (os := os) d'
 ·rw [cell?_sortWorldK_other enc36 2 W g 0 m d' os ⟨go, 0, none⟩ hne hlt]; exact hgo
theorem tiny36 (p : Option Addr) (n c : Nat) (h1 : n ≤ 1) (go : Nat) (W : World) : Calls Try.prog 62 #[.iface 24 (.slice p n c), .func (.func 63) #[] #[.pointer (some ⟨go, 0, none⟩)]] W fun e w' => e = .returned (.tuple #[]) ∧ ∃ os, w' = Sort.grow W os := by
 have hK : Lib.swapperK n sE36 25 = n + 1 := by
  rcases Nat.eq_zero_or_pos n with h | h
  ·subst h; simp [Lib.swapperK]
  ·obtain rfl : n = 1 := by omega
   simp [Lib.swapperK]
 exact Any.sort_Slice_tiny Try.sv6 24 36 sT36 sE36 (J1_0) (J1_0) (J1_0) (J1_0) 25 (fun _ => by kernel_rfl) p n c h1 (105 + n) (by
  rw [hK]
  rcases Nat.eq_zero_or_pos n with h | h
  ·subst h; kernel_rfl
  ·obtain rfl : n = 1 := by omega
   kernel_rfl) (.func 63) #[] #[.pointer (some ⟨go, 0, none⟩)] W
theorem fo_sort_short {xs : List S36} (h : ¬ 2 ≤ xs.length) : (xs.mergeSort fun x y => !lt36 y x) = xs := by
 match xs, h with
 | [], _ => simp
 | [x], _ => simp
 | x :: y :: r, h => exact absurd (by simp) h

theorem sort36 (A : Option Addr) (c go n : Nat) (xs : List S36) (W : World) {base : Nat} {ok : Nat → Prop} (h : Kd.R k36 36 W base ok (.slice A n c) xs) (hbx : W.heap[go]? = some (.cells #[.slice A n c] 24 (0, 0))) (hbase : base ≤ W.heap.size) (hsz : n < 4611686018427387904) :
  Calls Try.prog 62 #[.iface 24 (.slice A n c), .func (.func 63) #[] #[.pointer (some ⟨go, 0, none⟩)]] W fun e w' =>
   e = .returned (.tuple #[]) ∧ w'.cell? ⟨go, 0, none⟩ = some (.slice A n c) ∧ Aside0 (Kd.R k36 36 w' base (fun _ => True) (.slice A n c) (xs.mergeSort fun x y => !lt36 y x) ∧ (∀ w : World, w.heap.size ≤ base → RowKit.Below w.heap.size w W → RowKit.Below w.heap.size w w')) := by
 have hn : n = xs.length := (Kd.R_reads' h).1
 have hcg : W.cell? ⟨go, 0, none⟩ = some (.slice A n c) := (blk_cell hbx 0).trans rfl
 have hgb : go < W.heap.size := (Array.getElem?_eq_some_iff.1 hbx).1
 by_cases h2 : 2 ≤ n
 ·obtain ⟨g, cap, ev, hBg, hgl, cells, hgc⟩ := Kd.R_form h (by omega)
  have eA : A = some ⟨g, 0, none⟩ := by injection ev
  have ec : c = cap := by injection ev
  subst eA
  subst ec
  have hne : go ≠ g := fun e => by rw [e, hgc] at hbx; cases hbx
  refine (fo_sort_ g c go n xs W h hcg hgb hgl hne h2 hsz).mono ?_
  rintro e w' ⟨he, hR, hg, hc⟩
  exact ⟨he, hc, ⟨Kd.R_mono hR (fun _ _ => trivial), fun w hw hB => hB.grown hg (Nat.le_trans hw hbase) (fun k hk => by injection hk; omega)⟩⟩
 ·refine (tiny36 A n c (by omega) go W).mono ?_
  rintro e w' ⟨he, os, rfl⟩
  have hG : Grew W (Sort.grow W os) := ⟨0, os, rfl⟩
  refine ⟨he, hG.cell hcg, ⟨?_, fun w hw hB => hG.below hB⟩⟩
  rw [fo_sort_short (by omega)]
  exact Kd.R_mono (Kd.R_grown (Kd.R_tight rfl h) hG.by (fun k hk e => by cases e)) (fun _ _ => trivial)
theorem fr_take (zs : List S36) {kk : Nat} (hlt : kk < zs.length) : zs.take (kk + 1) = zs.take kk ++ [rd_T36 zs (kk : Int)] := by
 rw [List.take_succ_eq_append_getElem hlt]
 congr 2
 unfold rd_T36
 rw [List.getD_eq_getElem?_getD, Int.toNat_natCast, List.getElem?_eq_getElem hlt]
 rfl
set_option maxHeartbeats 8000000 in
set_option maxRecDepth 100000 in
theorem frontOf_walk (A0 : Option Addr) (c0 : Nat) (l0 : List S36) (w : World) (r : List S36) (hr : r = if l0.all fo_tok = true then frontI l0 else []) (hr0 : Kd.C k36 w A0 l0.length l0) (hc0 : l0.length ≤ c0) (hlen : l0.length ≤ 2000000) :
 Calls Try.prog 18 #[.slice A0 l0.length c0] w fun e w' => ∃ v0_ : Value, e = .returned v0_ ∧ Kd.R k36 36 w' w.heap.size (fun _ => True) v0_ r ∧ RowKit.Below w.heap.size w w' := by
 have hu36 := Try.underlying36
 have HR0 := Aside0.mk hr0
 have HC0 := Aside0.mk hc0
 have HL := Aside0.mk hlen
 have HRR := Aside0.mk hr
 clear hr0 hc0 hlen hr
 go_enter Try.func18, Try.ntmps18
 go_wp2
 go_loopw [11] (fun i wr => ∃ kk : Nat, kk ≤ l0.length ∧ i = .int .i64 kk ∧ Aside0 (∀ x ∈ l0.take kk, fo_tok x = true) ∧ Aside0 (RowKit.Below w.heap.size w wr)) (fun i _ => l0.length - (intOf i).toNat)
 case atStart => exact ⟨0, Nat.zero_le _, rfl, ⟨by simp⟩, ⟨RowKit.Below.refl _ _⟩⟩
 case round =>
  obtain ⟨kk, hk, rfl, hall, HB⟩ := hrel
  by_cases hlt : kk < l0.length
  ·have c0b : decide ((kk : Int) < (l0.length : Int)) = true := decide_eq_true (by omega)
   have p114 : 0 ≤ (kk : Int) := by omega
   have q114 : (kk : Int) < (l0.length : Int) := by omega
   obtain ⟨ad, e, hx0, hx1⟩ := at_T36 HR0.out (kk : Int) p114 q114
   cases e
   replace hx0 := (HB.out.cell (World.block_lt_of_cell? w _ hx0)).trans hx0
   replace hx1 := (HB.out.cell (World.block_lt_of_cell? w _ hx1)).trans hx1
   simp only [Int.toNat_natCast] at hx0 hx1
   replace p114 := eq_true p114
   replace q114 := eq_true q114
   have HX := Aside0.mk (fr_take l0 hlt)
   have HI := Aside0.mk (List.mem_of_mem_take (by rw [HX.out]; simp : rd_T36 l0 (kk : Int) ∈ l0.take (kk + 1)))
   have hup : wrap64 ((kk : Int) + 1) = ((kk + 1 : Nat) : Int) := by have := HL.out; unfold wrap64; omega
   cases htk : fo_tok (rd_T36 l0 (kk : Int))
   ·have hr0 : r = [] := by
     rw [HRR.out, if_neg]
     intro h
     have := List.all_eq_true.1 h _ HI.out
     rw [htk] at this; cases this
    subst hr0
    go_wp2_with (go_at_call 61; refine (fo_tok_ (rd_T36 l0 (kk : Int)) _).mono ?_; rw [htk]; rintro e w1 ⟨rfl, hG⟩; have HB1 := Aside0.mk (hG.below (HB.out.alloc HB.out.size _)))
    go_ret
    exact ⟨_, rfl, Kd.R_nil _ _ _ _ _, HB1.out⟩
   ·go_wp2_with (go_at_call 61; refine (fo_tok_ (rd_T36 l0 (kk : Int)) _).mono ?_; rw [htk]; rintro e w1 ⟨rfl, hG⟩; have HB1 := Aside0.mk (hG.below (HB.out.alloc HB.out.size _)))
    go_roundw
    case rel => exact ⟨kk + 1, by omega, by rw [hup], ⟨by rw [HX.out]; intro x hx; rcases List.mem_append.1 hx with hx | hx; exact hall.out x hx; rw [List.mem_singleton.1 hx]; exact htk⟩, HB1⟩
    case measure => rw [hup]; simp [intOf]; omega
  ·obtain rfl : kk = l0.length := by omega
   have hr1 : r = frontI l0 := by
    rw [HRR.out, if_pos]
    have := hall.out
    rw [List.take_length] at this
    exact List.all_eq_true.2 this
   have c0b : decide ((l0.length : Int) < (l0.length : Int)) = false := decide_eq_false (by omega)
   have HR1 := Aside0.mk hr1
   clear hall HRR hr1
   go_wp2_with (first
    | ((with_reducible refine gate_dst (N := 19) rfl ?_); refine Kd.R_lit k36 _ 36 ?hg (N := 19) ?hd (xs := ([] : List S36)) (inner := []) (ok := fun _ => True) (okp := fun _ => True) ?hr ?hp (fun _ hk => hk) trivial (RowKit.Below.refl _ _) (Nat.le_refl _) (by simp) ?_; (case hd => rfl); (case hg => rfl); (case hr => first | (go_simp; done) | (go_simp; rfl)); (case hp => exact (Reps.none _ _)); intro v20 w20 ho20 hb20 hg20 hnew20; clear hg20 hnew20; have HO20 := Aside0.mk ho20; have HB20 := Aside0.mk hb20; clear ho20 hb20)
    | ((with_reducible refine gate_builtin (b := .append) (xs := #[.tmp 19, .tmp 20]) rfl ?_); at_builtin; refine Kd.R_append_rows k36 (w0 := wr) wr.heap.size rfl (.tmp 19) (.tmp 20) 24 36 (.agg #[(.int .i64 0), (.int .i64 0)]) 16 rfl Try.underlying24 info36 rfl (by decide) (by omega) v20 [] l0 _ _ _ (fun _ => True) (fun _ => False) rfl rfl ?aO ?aR (fun _ _ h => h) (fun _ h => h.elim) ?aF ?aB ?aS ?aL ?_; (case aR => exact Kd.C_below HR0.out (below_weaken HB.out HB.out.size HB20.out)); (case aB => exact HB20.out); (case aF => exact fun _ _ => trivial); (case aO => exact HO20.out); (case aS => exact HB20.out.size); (case aL => have := HL.out; simp; omega); intro v21 w21 ho hb hg hat; obtain ⟨A21, c21, e21⟩ := Kd.R_slice ho; subst e21; rw [List.nil_append] at ho; have HO21 := Aside0.mk ho; have HB21 := Aside0.mk hb; clear ho hb hg hat HO20 HB20))
   have hbx : (w21.alloc (.cells #[.slice A21 l0.length c21] 24)).heap[w21.heap.size]? = some (.cells #[.slice A21 l0.length c21] 24 (0, 0)) := by simpa using heap_alloc_new w21 _
   have hS := sort36 A21 c21 w21.heap.size l0.length l0 _ (Kd.R_alloc HO21.out _) hbx (by have := HB21.out.size; simp; omega) (by have := HL.out; omega)
   have HB22 := Aside0.mk ((below_weaken HB.out HB.out.size HB21.out).alloc (by have := HB21.out.size; have := HB.out.size; omega) (.cells #[.slice A21 l0.length c21] 24))
   obtain ⟨zs, hzs⟩ : ∃ zs, zs = l0.mergeSort fun x y => !lt36 y x := ⟨_, rfl⟩
   have hzl : zs.length = l0.length := by rw [hzs, List.length_mergeSort]
   rw [← hzs] at hS
   have hr2 : r = frS [] zs := by rw [HR1.out, hzs]; rfl
   have HR2 := Aside0.mk hr2
   clear hr2 hzs HR1 hbx
   refine hS.mono ?_
   rintro e w3 ⟨rfl, hcz, HS⟩
   have HB3 := Aside0.mk (HS.out.2 w HB.out.size HB22.out)
   have HC3 := Aside0.mk (Kd.R_reads' HS.out.1).2.2
   clear hS HB22 HB21 HO21
   generalize w21.heap.size = gb at *
   rw [← hzl] at hcz
   go_wp2_with (first
    | ((with_reducible refine gate_dst (N := 26) rfl ?_); refine Kd.R_lit k36 _ 36 ?hg (N := 26) ?hd (xs := ([] : List S36)) (inner := []) (ok := fun _ => True) (okp := fun _ => True) ?hr ?hp (fun _ hk => hk) trivial (RowKit.Below.refl _ _) (Nat.le_refl _) (by simp) ?_; (case hd => rfl); (case hg => rfl); (case hr => first | (go_simp; done) | (go_simp; rfl)); (case hp => exact (Reps.none _ _)); intro v26 w26 ho26 hb26 hg26 hnew26; clear hg26 hnew26; replace hcz := (hb26.cell (World.block_lt_of_cell? w3 _ hcz)).trans hcz; obtain ⟨A26, c26, e26⟩ := Kd.R_slice ho26; subst e26; have HO26 := Aside0.mk ho26; have HB26 := Aside0.mk hb26; clear ho26 hb26))
   go_loopw [6, 29] (fun v6 v29 wr3 => ∃ (kk : Nat) (ys : List S36) (A : Option Addr) (c : Nat), v6 = .slice A ys.length c ∧ v29 = .int .i64 kk ∧ kk ≤ zs.length ∧ Aside0 (ys = frS [] (zs.take kk)) ∧ Aside0 (Kd.R k36 36 wr3 w3.heap.size (fun _ => True) (.slice A ys.length c) ys) ∧ Aside0 (RowKit.Below w3.heap.size w3 wr3)) (fun _ v29 _ => zs.length - (intOf v29).toNat)
   case atStart => exact ⟨0, [], A26, c26, rfl, rfl, Nat.zero_le _, ⟨by simp [frS]⟩, HO26, HB26⟩
   case round =>
    clear hcz HO26 HB26
    obtain ⟨kk, ys, A, c, rfl, rfl, hk, hys, HO4, HB4⟩ := hrel
    by_cases hlt2 : kk < zs.length
    ·have d0b : decide ((kk : Int) < (zs.length : Int)) = true := decide_eq_true (by omega)
     have p114 : 0 ≤ (kk : Int) := by omega
     have q114 : (kk : Int) < (zs.length : Int) := by omega
     obtain ⟨ad, e, hx0, hx1⟩ := at_T36 HC3.out (kk : Int) p114 q114
     cases e
     replace hx0 := (HB4.out.cell (World.block_lt_of_cell? w3 _ hx0)).trans hx0
     replace hx1 := (HB4.out.cell (World.block_lt_of_cell? w3 _ hx1)).trans hx1
     simp only [Int.toNat_natCast] at hx0 hx1
     replace p114 := eq_true p114
     replace q114 := eq_true q114
     have HZ := Aside0.mk (fr_take zs hlt2)
     have hup : wrap64 ((kk : Int) + 1) = ((kk + 1 : Nat) : Int) := by have := HL.out; unfold wrap64; omega
     have HLy : Aside0 (ys.length ≤ 2000000) := ⟨by have h1 := frS_len (zs.take kk) []; rw [← hys.out] at h1; have := HL.out; simp at h1; omega⟩
     have hn0 : 0 ≤ (ys.length : Int) := by omega
     generalize hx : rd_T36 zs (kk : Int) = x at *
     by_cases hz : ys.length = 0
     ·have z0 : ((ys.length : Int) == 0) = true := beq_iff_eq.2 (by omega)
      have HZ0 := Aside0.mk hz
      clear hz
      go_wp2_with fail
      go_quiet (fail)
      go_wp2_with ((with_reducible refine gate_builtin (b := .append) (xs := #[.tmp 48, .tmp 50]) rfl ?_); at_builtin; refine Kd.R_append k36 (w0 := w3) w3.heap.size rfl (.tmp 48) (.tmp 50) 24 36 (.agg #[(.int .i64 0), (.int .i64 0)]) 16 rfl Try.underlying24 info36 rfl (by decide) (by omega) (.slice A ys.length c) ys x [.int .i64 x.f0, .int .i64 x.f1] (fun _ => True) (fun _ => False) rfl (by first | (go_simp; done) | (go_simp; rfl)) ?aP (fun _ hk => hk.elim) ?aF ?aO ?aB ?aS ?aL ?_; (case aP => exact k36_mkM _ _ _ x); (case aF => exact fun _ _ => trivial); (case aO => exact (J1_2)); (case aB => exact (J1_1)); (case aS => exact below_size (J1_1)); (case aL => have := HLy.out; omega); intro v5 w5 hO5 hb5 hg5 hat5; clear hg5 hat5; obtain ⟨A5, c5, e5⟩ := Kd.R_slice hO5; subst e5; have HO5 := Aside0.mk hO5; have HB5 := Aside0.mk hb5; clear hO5 hb5)
      go_roundw
      case rel => exact ⟨kk + 1, ys ++ [x], A5, c5, by first | rfl | simp, by rw [hup], by omega, ⟨by rw [HZ.out, frS_snoc, ← hys.out, if_pos HZ0.out]⟩, HO5, HB5⟩
      case measure => rw [hup]; simp [intOf]; omega
     ·have z0 : ((ys.length : Int) == 0) = false := beq_eq_false_iff_ne.2 (by omega)
      obtain ⟨jj, hjj⟩ : ∃ jj : Int, jj = (ys.length : Int) - 1 := ⟨_, rfl⟩
      have hw : IntKind.i64.wrap ((ys.length : Int) - 1) = jj := by
       have := HLy.out
       rw [i64_w]; unfold wrap64; omega
      have p193 : 0 ≤ jj := by omega
      have q193 : jj < (ys.length : Int) := by omega
      obtain ⟨ad2, e2, hy0, hy1⟩ := at_T36 (Kd.R_reads' HO4.out).2.2 jj p193 q193
      cases e2
      have hy0' := (World.cell?_alloc_lt wr (.cells #[.int .i64 x.f0, .int .i64 x.f1] 36) _ (World.block_lt_of_cell? wr _ hy0)).trans hy0
      have hy1' := (World.cell?_alloc_lt wr (.cells #[.int .i64 x.f0, .int .i64 x.f1] 36) _ (World.block_lt_of_cell? wr _ hy1)).trans hy1
      clear hy0 hy1
      have HZ0 := Aside0.mk hz
      clear hz
      replace p193 := eq_true p193
      replace q193 := eq_true q193
      have HJ := Aside0.mk hjj
      clear hjj
      cases hb : decide (x.f1 < (rd_T36 ys jj).f1)
      ·go_wp2_with fail
       go_quiet (fail)
       go_wp2_with fail
       go_roundw
       case rel => exact ⟨kk + 1, ys, _, c, rfl, by rw [hup], by omega, ⟨by rw [HZ.out, frS_snoc, ← hys.out, if_neg HZ0.out, ← HJ.out, if_neg (of_decide_eq_false hb)]⟩, ⟨J1_2⟩, ⟨J1_1⟩⟩
       case measure => rw [hup]; simp [intOf]; omega
      ·go_wp2_with fail
       go_quiet (fail)
       go_wp2_with ((with_reducible refine gate_builtin (b := .append) (xs := #[.tmp 48, .tmp 50]) rfl ?_); at_builtin; refine Kd.R_append k36 (w0 := w3) w3.heap.size rfl (.tmp 48) (.tmp 50) 24 36 (.agg #[(.int .i64 0), (.int .i64 0)]) 16 rfl Try.underlying24 info36 rfl (by decide) (by omega) (.slice (some ad2) ys.length c) ys x [.int .i64 x.f0, .int .i64 x.f1] (fun _ => True) (fun _ => False) rfl (by first | (go_simp; done) | (go_simp; rfl)) ?aP (fun _ hk => hk.elim) ?aF ?aO ?aB ?aS ?aL ?_; (case aP => exact k36_mkM _ _ _ x); (case aF => exact fun _ _ => trivial); (case aO => exact (J1_2)); (case aB => exact (J1_1)); (case aS => exact below_size (J1_1)); (case aL => have := HLy.out; omega); intro v5 w5 hO5 hb5 hg5 hat5; clear hg5 hat5; obtain ⟨A5, c5, e5⟩ := Kd.R_slice hO5; subst e5; have HO5 := Aside0.mk hO5; have HB5 := Aside0.mk hb5; clear hO5 hb5)
       go_roundw
       case rel => exact ⟨kk + 1, ys ++ [x], A5, c5, by first | rfl | simp, by rw [hup], by omega, ⟨by rw [HZ.out, frS_snoc, ← hys.out, if_neg HZ0.out, ← HJ.out, if_pos (of_decide_eq_true hb)]⟩, HO5, HB5⟩
       case measure => rw [hup]; simp [intOf]; omega
    ·obtain rfl : kk = zs.length := by omega
     have d0b : decide ((zs.length : Int) < (zs.length : Int)) = false := decide_eq_false (by omega)
     go_wp2
     go_ret
     refine ⟨_, rfl, ?_, below_weaken HB3.out HB3.out.size HB4.out⟩
     have := hys.out
     rw [List.take_length] at this
     rw [HR2.out, ← this]
     exact Kd.R_lower HO4.out HB3.out.size
def impl_FrontOf.f (l0 : List S36) : Option (List S36) := if l0.length ≤ 2000000 then some (if l0.all fo_tok = true then frontI l0 else []) else none
theorem impl_FrontOf.calls (A0 : Option Addr) (c0 : Nat) (l0 : List S36) (r : List S36) (w : World) (hr0 : Kd.C k36 w A0 l0.length l0) (hc0 : l0.length ≤ c0) (h : impl_FrontOf.f l0 = some r) :
  Calls Try.prog 18 #[.slice A0 l0.length c0] w fun e w' => ∃ v0_ : Value, e = .returned (v0_) ∧ Kd.R k36 36 w' w.heap.size (fun _ => True) v0_ r ∧ RowKit.Below w.heap.size w w' := by
 unfold impl_FrontOf.f at h
 split at h
 ·rename_i hk
  exact frontOf_walk A0 c0 l0 w r (Option.some.inj h).symm hr0 hc0 hk
 ·cases h

end Go.Proofs.Ytpggfdjnebccnaa.PFnBatchTimes
