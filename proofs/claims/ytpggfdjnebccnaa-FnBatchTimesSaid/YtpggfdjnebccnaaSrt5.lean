/- The pivot's family (order2_func, median_func, medianAdjacent_func, choosePivot_func) with a 'less' that may lay blocks. Over any program. -/
import Derived.Test.YtpggfdjnebccnaaSrt0
namespace Go.Proofs.Ytpggfdjnebccnaa.Srt
open Go Go.Proofs Go.Shelf Go.RowKit Go.Lib Go.Sort
set_option linter.unusedVariables false
set_option linter.unusedSimpArgs false
variable {P : Program} {ρ : Ren} {α : Type} [Inhabited α]

/-- X is W with the counter at s; new blocks. -/
def CW (W : World) (cb co s : Nat) (X : World) : Prop := ∃ n os, X = sortWorld (Value.int .i64) W cb co n (one s) os
section
variable {W X Y : World} {cb co s t : Nat}
theorem CW.start (hS : Holds (Value.int .i64) W cb co (one s)) : CW W cb co s W := ⟨0, #[], (sortWorld_start _ _ cb co _ hS).symm⟩
theorem CW.trans (h : CW W cb co s X) (h' : CW X cb co t Y) (hcb : cb < W.heap.size) : CW W cb co t Y := by
  obtain ⟨n, os, rfl⟩ := h; obtain ⟨n', os', rfl⟩ := h'
  exact ⟨_, _, sortWorld_on _ _ cb co n n' _ _ os os' hcb rfl⟩
theorem CW.holds (h : CW W cb co s X) (hS : Holds (Value.int .i64) W cb co (one t)) (hcb : cb < W.heap.size) : Holds (Value.int .i64) X cb co (one s) := by
  obtain ⟨n, os, rfl⟩ := h; exact holds_sortWorld _ _ cb co n (one t) _ os hcb hS rfl
theorem CW.lt (h : CW W cb co s X) (hcb : cb < W.heap.size) : cb < X.heap.size := by
  obtain ⟨n, os, rfl⟩ := h; exact lt_sortWorld _ _ cb co n _ os hcb
theorem CW.swk {enc : α → List Value} {k : Nat} {w0 : World} {blk off : Nat} {d : Array α} (h : CW W cb co s X) (hW : SWK enc k w0 blk off d W) (hcb : w0.heap.size ≤ cb) : SWK enc k w0 blk off d X := by
  obtain ⟨n, os, rfl⟩ := h; exact hW.counter cb co n _ os hcb
theorem CW.cell (h : CW W cb co s X) {p : Addr} {v : Value} (hne : p.block ≠ cb) (hl : p.block < W.heap.size) (hv : W.cell? p = some v) : X.cell? p = some v := by
  obtain ⟨n, os, rfl⟩ := h
  unfold sortWorld
  rw [cell?_grow _ _ _ (by rw [size_putRow]; exact hl), cell?_putRow_other _ _ cb co _ _ (Or.inl hne)]; exact hv
theorem CW.alloc {o : Obj} (h : CW (W.alloc o) cb co s X) (hcb : cb < W.heap.size) : CW W cb co s X := by
  obtain ⟨n, os, rfl⟩ := h; exact ⟨_, _, sortWorld_alloc _ W _ cb co _ _ _ hcb⟩
/-- Behind a call that lays blocks alone: the counter as it was, or set. -/
theorem CW.grown (hS : Holds (Value.int .i64) W cb co (one s)) (hcb : cb < W.heap.size) {o : Obj} (h : ∃ n os, X = grow (Sort.ahead (W.alloc o) n) os) : CW W cb co s X ∧ ∀ t : Nat, CW W cb co t (X.setCell ⟨cb, co, none⟩ (.int .i64 t)) := by
  obtain ⟨n, os, rfl⟩ := h
  rw [alloc_eq_grow, ahead_grow, grow_grow]
  refine ⟨⟨n, #[o] ++ os, ?_⟩, fun t => ⟨n, #[o] ++ os, ?_⟩⟩
  · unfold sortWorld; rw [putRow_self _ _ _ _ _ (holds_ahead _ W n cb co _ hS)]
  · unfold sortWorld; rw [← one_set (holds_ahead _ W n cb co _ hS) t, setCell_eq, setCell_eq]
    exact mapBlock_grow (Sort.ahead W n) _ cb _ hcb
end

/-- 'less' where the row holds what it answers for: the world grows. -/
theorem less_grows {g : Nat} {lb : Array Value} {enc : α → List Value} {k : Nat} {lt : α → α → Bool} {blk off size : Nat} {w W : World} {d d0 : Array α} (hL : LessLays P g lb enc k lt blk off size w) (hblk : blk < w.heap.size) (hH : HoldsK enc k w blk off d0) (hs0 : d0.size = size) (hW : SWK enc k w blk off d W) (hs : d.size = size) (i j : Nat) (hi : i < size) (hj : j < size) {v : Bool} (hv : lt d[i]! d[j]! = v) :
    Calls P g (#[.int .i64 i, .int .i64 j] ++ lb) W fun e w' => e = .returned (.bool v) ∧ ∃ n os, w' = grow (Sort.ahead W n) os :=
  (hL d W hW hs i j hi hj).mono fun _ _ ⟨he, n, os, h⟩ => ⟨by rw [he, hv], n, os, by
    rw [h]; unfold sortWorldK; rw [putRowK_self enc k _ blk off d (holdsK_ahead enc k W n blk off d (hW.holds hblk hH (hs.trans hs0.symm)))]⟩

set_option maxHeartbeats 2000000 in
set_option maxRecDepth 100000 in
theorem order2c (L : LaysGg.n39 P ρ) (enc : α → List Value) (k : Nat) (hk : ∀ x, (enc x).length = k) (lt : α → α → Bool) (g : Nat) (lb : Array Value) (sfn : Fn) (sa sb : Array Value) (blk off : Nat) (w0 W : World) (d d0 : Array α) (a b cb co s : Nat)
    (eg : ∀ args w, (callFunc g args).run P w = .ok (.enter g args) w) (hL : LessLays P g lb enc k lt blk off d.size w0) (hblk : blk < w0.heap.size) (hH : HoldsK enc k w0 blk off d0) (hd0 : d0.size = d.size) (hW : SWK enc k w0 blk off d W) (ha : a < d.size) (hb : b < d.size)
    (hS : Holds (Value.int .i64) W cb co (one s)) (hcb : cb < W.heap.size) (hs : s < 4611686018427387904) :
    Calls P (ρ.f 39) #[.agg #[.func (.func g) #[] lb, .func sfn sa sb], .int .i64 a, .int .i64 b, .pointer (some ⟨cb, co, none⟩)] W fun e w' =>
      e = .returned (.tuple #[.int .i64 (order2 lt d a b s).1, .int .i64 (order2 lt d a b s).2.1]) ∧ CW W cb co (order2 lt d a b s).2.2 w' := by
  have mixed := L.mixed; have t0 := L.t0; have a0 := L.a0; have z0 := L.z0; have v0 := L.v0; have t3 := L.t3; have a3 := L.a3; have z3 := L.z3; have v3 := L.v3; have t4 := L.t4; have a4 := L.a4; have z4 := L.z4; have v4 := L.v4; have t26 := L.t26; have a26 := L.a26; have z26 := L.z26; have v26 := L.v26; have t37 := L.t37; have a37 := L.a37; have z37 := L.z37; have v37 := L.v37; have t44 := L.t44; have a44 := L.a44; have z44 := L.z44; have v44 := L.v44; have t64 := L.t64; have a64 := L.a64; have z64 := L.z64; have v64 := L.v64
  have u44 := run_underlying L.t44
  cases hlv : lt d[b]! d[a]! with
  | true =>
    have e2 : order2 lt d a b s = (b, a, s + 1) := by simp [order2, hlv]
    have hl : Calls P g (#[.int .i64 (b : Int), .int .i64 (a : Int)] ++ lb) (W.alloc (.cells #[.func (.func g) #[] lb, .func sfn sa sb] (ρ.t 44))) fun e w' => e = .returned (.bool true) ∧ w'.cell? ⟨cb, co, none⟩ = some (.int .i64 s) ∧ w'.frozen? ⟨cb, co, none⟩ = false ∧ Aside (CW W cb co s w' ∧ ∀ t : Nat, CW W cb co t (w'.setCell ⟨cb, co, none⟩ (.int .i64 t))) :=
      (less_grows hL hblk hH hd0 (hW.alloc _) rfl b a hb ha hlv).mono fun _ _ ⟨he, h⟩ => have C := CW.grown hS hcb h; have hc := one_cell (C.1.holds hS hcb); ⟨he, hc.1, hc.2, C⟩
    rw [e2]
    clear hL hH hW hS hlv
    go_enter L.f39, BodyGg.n39_ntmps ρ
    go_wp2_with (go_at_fn g; refine hl.mono ?_; rintro e w1 ⟨rfl, cs, fs, C⟩)
    go_ret2
    exact ⟨rfl, by have := C.out.2 (s + 1); simpa using this⟩
  | false =>
    have e2 : order2 lt d a b s = (a, b, s) := by simp [order2, hlv]
    have hl : Calls P g (#[.int .i64 (b : Int), .int .i64 (a : Int)] ++ lb) (W.alloc (.cells #[.func (.func g) #[] lb, .func sfn sa sb] (ρ.t 44))) fun e w' => e = .returned (.bool false) ∧ Aside (CW W cb co s w') :=
      (less_grows hL hblk hH hd0 (hW.alloc _) rfl b a hb ha hlv).mono fun _ _ ⟨he, h⟩ => ⟨he, (CW.grown hS hcb h).1⟩
    rw [e2]
    clear hL hH hW hS hlv
    go_enter L.f39, BodyGg.n39_ntmps ρ
    go_wp2_with (go_at_fn g; refine hl.mono ?_; rintro e w1 ⟨rfl, C⟩)
    go_ret2
    exact ⟨rfl, C.out⟩

set_option maxHeartbeats 2000000 in
set_option maxRecDepth 100000 in
theorem medianc (L : LaysGg.n38 P ρ) (enc : α → List Value) (k : Nat) (hk : ∀ x, (enc x).length = k) (lt : α → α → Bool) (g : Nat) (lb : Array Value) (sfn : Fn) (sa sb : Array Value) (blk off : Nat) (w0 W : World) (d d0 : Array α) (a b c cb co s : Nat)
    (eg : ∀ args w, (callFunc g args).run P w = .ok (.enter g args) w) (hL : LessLays P g lb enc k lt blk off d.size w0) (hblk : blk < w0.heap.size) (hH : HoldsK enc k w0 blk off d0) (hd0 : d0.size = d.size) (hW : SWK enc k w0 blk off d W) (ha : a < d.size) (hb : b < d.size) (hc : c < d.size)
    (hS : Holds (Value.int .i64) W cb co (one s)) (hcb0 : w0.heap.size ≤ cb) (hcb : cb < W.heap.size) (hs : s + 3 < 4611686018427387904) :
    Calls P (ρ.f 38) #[.agg #[.func (.func g) #[] lb, .func sfn sa sb], .int .i64 a, .int .i64 b, .int .i64 c, .pointer (some ⟨cb, co, none⟩)] W fun e w' =>
      e = .returned (.int .i64 (median lt d a b c s).1) ∧ CW W cb co (median lt d a b c s).2 w' := by
  have mixed := L.mixed; have t0 := L.t0; have a0 := L.a0; have z0 := L.z0; have v0 := L.v0; have t3 := L.t3; have a3 := L.a3; have z3 := L.z3; have v3 := L.v3; have t4 := L.t4; have a4 := L.a4; have z4 := L.z4; have v4 := L.v4; have t26 := L.t26; have a26 := L.a26; have z26 := L.z26; have v26 := L.v26; have t37 := L.t37; have a37 := L.a37; have z37 := L.z37; have v37 := L.v37; have t44 := L.t44; have a44 := L.a44; have z44 := L.z44; have v44 := L.v44; have t64 := L.t64; have a64 := L.a64; have z64 := L.z64; have v64 := L.v64; have t67 := L.t67; have a67 := L.a67; have z67 := L.z67; have v67 := L.v67
  have u44 := run_underlying L.t44
  have e39 : ∀ args w, (callFunc (ρ.f 39) args).run P w = .ok (.enter (ρ.f 39) args) w := enters_of L.f39 (by kernel_rfl) rfl
  obtain ⟨W1, hW1⟩ : ∃ W1, W1 = W.alloc (.cells #[.func (.func g) #[] lb, .func sfn sa sb] (ρ.t 44)) := ⟨_, rfl⟩
  have hB0 : W1.cell? ⟨W.heap.size, 0, none⟩ = some (.func (.func g) #[] lb) := by rw [hW1]; simp
  have hB1 : W1.cell? ⟨W.heap.size, 1, none⟩ = some (.func sfn sa sb) := by rw [hW1]; simp
  have hc1 : cb < W1.heap.size := by rw [hW1, alloc_eq_grow, size_grow]; omega
  have hBl : W.heap.size < W1.heap.size := by rw [hW1]; simp
  have hS1 : Holds (Value.int .i64) W1 cb co (one s) := by rw [hW1, alloc_eq_grow]; exact holds_grow _ W _ cb co _ hcb hS
  have hsw1 : SWK enc k w0 blk off d W1 := by rw [hW1]; exact hW.alloc _
  have hne : W.heap.size ≠ cb := by omega
  have step : ∀ (X : World) (t a' b' : Nat) (x y : Nat) (u : Nat), CW W1 cb co t X → a' < d.size → b' < d.size → t < 4611686018427387904 → order2 lt d a' b' t = (x, y, u) →
      Calls P (ρ.f 39) #[.agg #[.func (.func g) #[] lb, .func sfn sa sb], .int .i64 a', .int .i64 b', .pointer (some ⟨cb, co, none⟩)] X fun e w' =>
        e = .returned (.tuple #[.int .i64 x, .int .i64 y]) ∧ w'.cell? ⟨W.heap.size, 0, none⟩ = some (.func (.func g) #[] lb) ∧ w'.cell? ⟨W.heap.size, 1, none⟩ = some (.func sfn sa sb) ∧ Aside (CW W1 cb co u w') := fun X t a' b' x y u C h1 h2 h3 he =>
    (order2c (P := P) (ρ := ρ) { L with } enc k hk lt g lb sfn sa sb blk off w0 X d d0 a' b' cb co t eg hL hblk hH hd0 (C.swk hsw1 hcb0) h1 h2 (C.holds hS1 hc1) (C.lt hc1) h3).mono
      fun _ _ ⟨h, C'⟩ => by rw [he] at h C'; have T := C.trans C' hc1; exact ⟨h, T.cell hne hBl hB0, T.cell hne hBl hB1, T⟩
  obtain ⟨x1, y1, u1, h1⟩ : ∃ x y u, order2 lt d a b s = (x, y, u) := ⟨_, _, _, rfl⟩
  obtain ⟨x2, y2, u2, h2⟩ : ∃ x y u, order2 lt d y1 c u1 = (x, y, u) := ⟨_, _, _, rfl⟩
  obtain ⟨x3, y3, u3, h3⟩ : ∃ x y u, order2 lt d x1 x2 u2 = (x, y, u) := ⟨_, _, _, rfl⟩
  have l1 := order2_lt' lt d s ha hb; have n1 := order2_swaps' lt d a b s; rw [h1] at l1 n1
  have l2 := order2_lt' lt d u1 l1.2 hc; have n2 := order2_swaps' lt d y1 c u1; rw [h2] at l2 n2
  simp only [] at l1 l2 n1 n2
  have hm : median lt d a b c s = (y3, u3) := by simp only [median, h1, h2, h3]
  rw [hm]
  have c1 := step (W.alloc (.cells #[.func (.func g) #[] lb, .func sfn sa sb] (ρ.t 44))) s a b x1 y1 u1 (by rw [← hW1]; exact CW.start hS1) ha hb (by omega) h1
  have ST : Aside _ := step
  have R : Aside (∀ X, CW W1 cb co u3 X → CW W cb co u3 X) := fun X h => by rw [hW1] at h; exact h.alloc hcb
  clear step hL hH hW hS hS1 hsw1 hc1 hBl hB0 hB1 hm hW1
  go_enter L.f38, BodyGg.n38_ntmps ρ
  go_wp2_with (first
    | (go_at_fn (ρ.f 39); refine c1.mono ?_; rintro e w1 ⟨rfl, d0_, d1_, C1⟩; have c2 := ST.out _ _ _ _ _ _ _ C1.out l1.2 hc (by omega) h2; clear c1)
    | (go_at_fn (ρ.f 39); refine c2.mono ?_; rintro e w2 ⟨rfl, e0_, e1_, C2⟩; have c3 := ST.out _ _ _ _ _ _ _ C2.out l1.1 l2.1 (by omega) h3; clear c2)
    | (go_at_fn (ρ.f 39); refine c3.mono ?_; rintro e w3 ⟨rfl, f0_, f1_, C3⟩))
  go_ret
  exact ⟨rfl, R.out _ C3.out⟩

set_option maxHeartbeats 2000000 in
set_option maxRecDepth 100000 in
theorem medianAdjc (L : LaysGg.n37 P ρ) (enc : α → List Value) (k : Nat) (hk : ∀ x, (enc x).length = k) (lt : α → α → Bool) (g : Nat) (lb : Array Value) (sfn : Fn) (sa sb : Array Value) (blk off : Nat) (w0 W : World) (d d0 : Array α) (a cb co s : Nat)
    (eg : ∀ args w, (callFunc g args).run P w = .ok (.enter g args) w) (hL : LessLays P g lb enc k lt blk off d.size w0) (hblk : blk < w0.heap.size) (hH : HoldsK enc k w0 blk off d0) (hd0 : d0.size = d.size) (hW : SWK enc k w0 blk off d W) (ha1 : 1 ≤ a) (ha2 : a + 1 < d.size) (hsz : d.size < 4611686018427387904)
    (hS : Holds (Value.int .i64) W cb co (one s)) (hcb0 : w0.heap.size ≤ cb) (hcb : cb < W.heap.size) (hs : s + 3 < 4611686018427387904) :
    Calls P (ρ.f 37) #[.agg #[.func (.func g) #[] lb, .func sfn sa sb], .int .i64 a, .pointer (some ⟨cb, co, none⟩)] W fun e w' =>
      e = .returned (.int .i64 (medianAdjacent lt d a s).1) ∧ CW W cb co (medianAdjacent lt d a s).2 w' := by
  have mixed := L.mixed; have t0 := L.t0; have a0 := L.a0; have z0 := L.z0; have v0 := L.v0; have t3 := L.t3; have a3 := L.a3; have z3 := L.z3; have v3 := L.v3; have t4 := L.t4; have a4 := L.a4; have z4 := L.z4; have v4 := L.v4; have t26 := L.t26; have a26 := L.a26; have z26 := L.z26; have v26 := L.v26; have t37 := L.t37; have a37 := L.a37; have z37 := L.z37; have v37 := L.v37; have t44 := L.t44; have a44 := L.a44; have z44 := L.z44; have v44 := L.v44; have t64 := L.t64; have a64 := L.a64; have z64 := L.z64; have v64 := L.v64; have t67 := L.t67; have a67 := L.a67; have z67 := L.z67; have v67 := L.v67
  have u44 := run_underlying L.t44
  have e38 : ∀ args w, (callFunc (ρ.f 38) args).run P w = .ok (.enter (ρ.f 38) args) w := enters_of L.f38 (by kernel_rfl) rfl
  have hm := medianc (P := P) (ρ := ρ) { L with } enc k hk lt g lb sfn sa sb blk off w0 _ d d0 (a - 1) a (a + 1) cb co s eg hL hblk hH hd0 (hW.alloc (.cells #[.func (.func g) #[] lb, .func sfn sa sb] (ρ.t 44))) (by omega) (by omega) ha2
    (by rw [alloc_eq_grow]; exact holds_grow _ W _ cb co _ hcb hS) hcb0 (by rw [alloc_eq_grow, size_grow]; omega) hs
  rw [show ((a - 1 : Nat) : Int) = (a : Int) - 1 by omega, show ((a + 1 : Nat) : Int) = (a : Int) + 1 by omega] at hm
  clear hS hL hW hH
  go_enter L.f37, BodyGg.n37_ntmps ρ
  go_wp2_with (go_at_fn (ρ.f 38); refine hm.mono ?_; rintro e w' ⟨rfl, C⟩)
  go_ret
  exact ⟨rfl, C.alloc hcb⟩

set_option maxHeartbeats 4000000 in
set_option maxRecDepth 100000 in
theorem pivotc (L : LaysGg.n29 P ρ) (enc : α → List Value) (k : Nat) (hk : ∀ x, (enc x).length = k) (lt : α → α → Bool) (g : Nat) (lb : Array Value) (sfn : Fn) (sa sb : Array Value) (blk off a b : Nat) (W : World) (d : Array α)
    (eg : ∀ args w, (callFunc g args).run P w = .ok (.enter g args) w) (hL : LessLays P g lb enc k lt blk off d.size W) (hblk : blk < W.heap.size) (hH : HoldsK enc k W blk off d) (hab : a < b) (hb : b ≤ d.size) (hsz : d.size < 4611686018427387904) :
    Calls P (ρ.f 29) #[.agg #[.func (.func g) #[] lb, .func sfn sa sb], .int .i64 a, .int .i64 b] W fun e w' =>
      e = .returned (.tuple #[.int .i64 (choosePivot lt d a b).1, .int .i64 (hintCode (choosePivot lt d a b).2)]) ∧ ∃ n os, w' = grow (Sort.ahead W n) os := by
  obtain ⟨W2, hW2⟩ : ∃ W2, W2 = (W.alloc (.cells #[.func (.func g) #[] lb, .func sfn sa sb] (ρ.t 44))).alloc (.cells #[.int .i64 0] (ρ.t 3)) := ⟨_, rfl⟩
  have hS2 : Holds (Value.int .i64) W2 (W.heap.size + 1) 0 (one 0) := fun j hj => by
    have : j = 0 := by simp at hj; omega
    subst this
    rw [hW2]
    exact ⟨by rw [World.cell?_alloc_at _ _ _ _ (by simp)]; rfl, World.frozen?_alloc_at _ _ _ _ (by simp)⟩
  have hc2 : W.heap.size + 1 < W2.heap.size := by rw [hW2]; simp
  have hsw2 : SWK enc k W blk off d W2 := by rw [hW2]; exact ((SWK.start hH).alloc _).alloc _
  have hB0 : W2.cell? ⟨W.heap.size, 0, none⟩ = some (.func (.func g) #[] lb) := by rw [hW2, World.cell?_alloc_past _ _ _ (by simp)]; simp
  have hB1 : W2.cell? ⟨W.heap.size, 1, none⟩ = some (.func sfn sa sb) := by rw [hW2, World.cell?_alloc_past _ _ _ (by simp)]; simp
  have hC2 := CW.start hS2
  have cel : ∀ {X : World} {t : Nat}, CW W2 (W.heap.size + 1) 0 t X → X.cell? ⟨W.heap.size, 0, none⟩ = some (.func (.func g) #[] lb) ∧ X.cell? ⟨W.heap.size, 1, none⟩ = some (.func sfn sa sb) ∧ X.cell? ⟨W.heap.size + 1, 0, none⟩ = some (.int .i64 t) := fun {X t} C =>
    ⟨C.cell (by show W.heap.size ≠ W.heap.size + 1; omega) (by show W.heap.size < W2.heap.size; omega) hB0, C.cell (by show W.heap.size ≠ W.heap.size + 1; omega) (by show W.heap.size < W2.heap.size; omega) hB1, (one_cell (C.holds hS2 hc2)).1⟩
  have MA : ∀ (X : World) (x t p u : Nat), CW W2 (W.heap.size + 1) 0 t X → 1 ≤ x → x + 1 < d.size → t + 3 < 4611686018427387904 → medianAdjacent lt d x t = (p, u) → Calls P (ρ.f 37) #[.agg #[.func (.func g) #[] lb, .func sfn sa sb], .int .i64 x, .pointer (some ⟨W.heap.size + 1, 0, none⟩)] X fun e w' =>
      e = .returned (.int .i64 p) ∧ w'.cell? ⟨W.heap.size, 0, none⟩ = some (.func (.func g) #[] lb) ∧ w'.cell? ⟨W.heap.size, 1, none⟩ = some (.func sfn sa sb) ∧ w'.cell? ⟨W.heap.size + 1, 0, none⟩ = some (.int .i64 u) ∧ Aside (CW W2 (W.heap.size + 1) 0 u w') := fun X x t p u C h1 h2 h3 he =>
    (medianAdjc (P := P) (ρ := ρ) { L with } enc k hk lt g lb sfn sa sb blk off W X d d x (W.heap.size + 1) 0 t eg hL hblk hH rfl (C.swk hsw2 (by omega)) h1 h2 hsz (C.holds hS2 hc2) (by omega) (C.lt hc2) h3).mono
      fun _ _ ⟨h, C'⟩ => by rw [he] at h C'; have T := C.trans C' hc2; exact ⟨h, (cel T).1, (cel T).2.1, (cel T).2.2, T⟩
  have MD : ∀ (X : World) (x y z t p u : Nat), CW W2 (W.heap.size + 1) 0 t X → x < d.size → y < d.size → z < d.size → t + 3 < 4611686018427387904 → median lt d x y z t = (p, u) → Calls P (ρ.f 38) #[.agg #[.func (.func g) #[] lb, .func sfn sa sb], .int .i64 x, .int .i64 y, .int .i64 z, .pointer (some ⟨W.heap.size + 1, 0, none⟩)] X fun e w' =>
      e = .returned (.int .i64 p) ∧ w'.cell? ⟨W.heap.size, 0, none⟩ = some (.func (.func g) #[] lb) ∧ w'.cell? ⟨W.heap.size, 1, none⟩ = some (.func sfn sa sb) ∧ w'.cell? ⟨W.heap.size + 1, 0, none⟩ = some (.int .i64 u) ∧ Aside (CW W2 (W.heap.size + 1) 0 u w') := fun X x y z t p u C hx hy hz h3 he =>
    (medianc (P := P) (ρ := ρ) { L with } enc k hk lt g lb sfn sa sb blk off W X d d x y z (W.heap.size + 1) 0 t eg hL hblk hH rfl (C.swk hsw2 (by omega)) hx hy hz (C.holds hS2 hc2) (by omega) (C.lt hc2) h3).mono
      fun _ _ ⟨h, C'⟩ => by rw [he] at h C'; have T := C.trans C' hc2; exact ⟨h, (cel T).1, (cel T).2.1, (cel T).2.2, T⟩
  have R : Aside (∀ (X : World) (t : Nat), CW W2 (W.heap.size + 1) 0 t X → ∃ n os, X = grow (Sort.ahead W n) os) := fun X t ⟨n, os, h⟩ => by
    rw [h, hW2]; unfold sortWorld
    rw [alloc_eq_grow, alloc_eq_grow, grow_grow, ahead_grow]
    obtain ⟨os', _, e⟩ := putRow_grow_new (Value.int .i64) (Sort.ahead W n) (#[.cells #[.func (.func g) #[] lb, .func sfn sa sb] (ρ.t 44)] ++ #[.cells #[.int .i64 0] (ρ.t 3)]) (W.heap.size + 1) 0 (one t) (by show W.heap.size ≤ _; omega)
    exact ⟨n, _, by rw [e, grow_grow]⟩
  have mixed := L.mixed; have t0 := L.t0; have a0 := L.a0; have z0 := L.z0; have v0 := L.v0; have t3 := L.t3; have a3 := L.a3; have z3 := L.z3; have v3 := L.v3; have t4 := L.t4; have a4 := L.a4; have z4 := L.z4; have v4 := L.v4; have t26 := L.t26; have a26 := L.a26; have z26 := L.z26; have v26 := L.v26; have t37 := L.t37; have a37 := L.a37; have z37 := L.z37; have v37 := L.v37; have t44 := L.t44; have a44 := L.a44; have z44 := L.z44; have v44 := L.v44; have t53 := L.t53; have a53 := L.a53; have z53 := L.z53; have v53 := L.v53; have t64 := L.t64; have a64 := L.a64; have z64 := L.z64; have v64 := L.v64; have t67 := L.t67; have a67 := L.a67; have z67 := L.z67; have v67 := L.v67
  have u44 := run_underlying L.t44
  have e37 : ∀ args w, (callFunc (ρ.f 37) args).run P w = .ok (.enter (ρ.f 37) args) w := enters_of L.f37 (by kernel_rfl) rfl
  have e38 : ∀ args w, (callFunc (ρ.f 38) args).run P w = .ok (.enter (ρ.f 38) args) w := enters_of L.f38 (by kernel_rfl) rfl
  rw [choosePivot_eq]
  obtain ⟨I, hI⟩ : ∃ I : Nat, I = a + (b - a) / 4 * 1 := ⟨_, rfl⟩
  obtain ⟨J, hJ⟩ : ∃ J : Nat, J = a + (b - a) / 4 * 2 := ⟨_, rfl⟩
  obtain ⟨K, hK⟩ : ∃ K : Nat, K = a + (b - a) / 4 * 3 := ⟨_, rfl⟩
  have eI : ((a : Int) + ((b : Int) - (a : Int)) / 4) = (I : Int) := by omega
  have eJ : ((a : Int) + ((b : Int) - (a : Int)) / 4 * 2) = (J : Int) := by omega
  have eK : ((a : Int) + ((b : Int) - (a : Int)) / 4 * 3) = (K : Int) := by omega
  have MA' : Aside _ := MA; have MD' : Aside _ := MD
  have fin : Aside (∀ (X : World) (p s : Nat), rawPivot lt d a b = (p, s) → CW W2 (W.heap.size + 1) 0 s X → ∀ c : Int, (s = 0 → c = 1) → (s = 12 → c = 2) → (s ≠ 0 → s ≠ 12 → c = 0) →
      (Ending.returned (.tuple #[.int .i64 (p : Int), .int .i64 c]) = Ending.returned (.tuple #[.int .i64 ((rawPivot lt d a b).1 : Int), .int .i64 (hintCode (hintOf (rawPivot lt d a b).2))]) ∧ ∃ n os, X = grow (Sort.ahead W n) os)) := fun X p s hr C c h0 h12 hx => by
    rw [hr]; refine ⟨?_, R.out X s C⟩
    have : hintCode (hintOf s) = c := by
      unfold hintOf
      by_cases s0 : s = 0
      · rw [if_pos s0, h0 s0]; rfl
      · by_cases s12 : s = 12
        · rw [if_neg s0, if_pos s12, h12 s12]; rfl
        · rw [if_neg s0, if_neg s12, hx s0 s12]; rfl
    rw [this]
  clear R
  by_cases h8 : b - a ≥ 8
  · by_cases h50 : b - a ≥ 50
    · obtain ⟨i1, s1, h1⟩ : ∃ i1 s1, medianAdjacent lt d I 0 = (i1, s1) := ⟨_, _, rfl⟩
      obtain ⟨j1, s2, h2⟩ : ∃ j1 s2, medianAdjacent lt d J s1 = (j1, s2) := ⟨_, _, rfl⟩
      obtain ⟨k1, s3, h3⟩ : ∃ k1 s3, medianAdjacent lt d K s2 = (k1, s3) := ⟨_, _, rfl⟩
      obtain ⟨p, s, h4⟩ : ∃ p s, median lt d i1 j1 k1 s3 = (p, s) := ⟨_, _, rfl⟩
      have hraw : Hid (rawPivot lt d a b = (p, s)) := by show _ = _; simp only [rawPivot, if_pos h8, if_pos h50, ← hI, ← hJ, ← hK, h1, h2, h3, h4]
      have m1 := medianAdjacent_mem lt d I 0; rw [h1] at m1
      have m2 := medianAdjacent_mem lt d J s1; rw [h2] at m2
      have m3 := medianAdjacent_mem lt d K s2; rw [h3] at m3
      have n1 := medianAdjacent_count lt d I 0; rw [h1] at n1
      have n2 := medianAdjacent_count lt d J s1; rw [h2] at n2
      have n3 := medianAdjacent_count lt d K s2; rw [h3] at n3
      simp only [] at m1 m2 m3 n1 n2 n3
      have c1 := MA ((W.alloc (.cells #[.func (.func g) #[] lb, .func sfn sa sb] (ρ.t 44))).alloc (.cells #[.int .i64 0] (ρ.t 3))) I 0 i1 s1 (by rw [← hW2]; exact hC2) (by omega) (by omega) (by omega) h1
      have h2' : Hid (_ = _) := h2; have h3' : Hid (_ = _) := h3; have h4' : Hid (_ = _) := h4
      have q1 : i1 < d.size := by omega
      have q2 : j1 < d.size := by omega
      have q3 : k1 < d.size := by omega
      have q4 : 1 ≤ J ∧ J + 1 < d.size := by omega
      have q5 : 1 ≤ K ∧ K + 1 < d.size := by omega
      have q6 : s1 + 3 < 4611686018427387904 := by omega
      have q7 : s2 + 3 < 4611686018427387904 := by omega
      have q8 : s3 + 3 < 4611686018427387904 := by omega
      clear MA MD cel hB0 hB1 hS2 hsw2 hC2 hc2 hW2 hH hL h1 h2 h3 h4 hI hJ hK m1 m2 m3 n1 n2 n3
      go_enter L.f29, BodyGg.n29_ntmps ρ
      go_wp2_with (first
        | (go_at_fn (ρ.f 37); refine c1.mono ?_; rintro e w1 ⟨rfl, d0, d1, d2, C1⟩; have c2 := MA'.out _ _ _ _ _ C1.out q4.1 q4.2 q6 h2'.out; clear c1)
        | (go_at_fn (ρ.f 37); refine c2.mono ?_; rintro e w2 ⟨rfl, d0, d1, d2, C2⟩; have c3 := MA'.out _ _ _ _ _ C2.out q5.1 q5.2 q7 h3'.out; clear c2)
        | (go_at_fn (ρ.f 37); refine c3.mono ?_; rintro e w3 ⟨rfl, d0, d1, d2, C3⟩; have c4 := MD'.out _ _ _ _ _ _ _ C3.out q1 q2 q3 q8 h4'.out; clear c3)
        | (go_at_fn (ρ.f 38); refine c4.mono ?_; rintro e w4 ⟨rfl, d0, d1, d2, C4⟩))
      all_goals
        go_ret2
        refine fin.out _ p s hraw.out C4.out _ (fun h => ?_) (fun h => ?_) (fun h h' => ?_)
        all_goals first
          | rfl
          | (exfalso; have e0 : (s : Int) = 0 := of_beq_int (by assumption); omega)
          | (exfalso; have e1 : (s : Int) = 12 := of_beq_int (by assumption); omega)
          | (exfalso; have e0 : (s : Int) ≠ 0 := of_bne_int (by assumption); omega)
          | (exfalso; have e1 : (s : Int) ≠ 12 := of_bne_int (by assumption); omega)
    · obtain ⟨p, s, h4⟩ : ∃ p s, median lt d I J K 0 = (p, s) := ⟨_, _, rfl⟩
      have hraw : Hid (rawPivot lt d a b = (p, s)) := by show _ = _; simp only [rawPivot, if_pos h8, if_neg h50, ← hI, ← hJ, ← hK, h4]
      have c4 := MD ((W.alloc (.cells #[.func (.func g) #[] lb, .func sfn sa sb] (ρ.t 44))).alloc (.cells #[.int .i64 0] (ρ.t 3))) I J K 0 p s (by rw [← hW2]; exact hC2) (by omega) (by omega) (by omega) (by omega) h4
      clear MA MD cel hB0 hB1 hS2 hsw2 hC2 hc2 hW2 hH hL h4 hI hJ hK
      go_enter L.f29, BodyGg.n29_ntmps ρ
      go_wp2_with (go_at_fn (ρ.f 38); refine c4.mono ?_; rintro e w4 ⟨rfl, d0, d1, d2, C4⟩)
      all_goals
        go_ret2
        refine fin.out _ p s hraw.out C4.out _ (fun h => ?_) (fun h => ?_) (fun h h' => ?_)
        all_goals first
          | rfl
          | (exfalso; have e0 : (s : Int) = 0 := of_beq_int (by assumption); omega)
          | (exfalso; have e1 : (s : Int) = 12 := of_beq_int (by assumption); omega)
          | (exfalso; have e0 : (s : Int) ≠ 0 := of_bne_int (by assumption); omega)
          | (exfalso; have e1 : (s : Int) ≠ 12 := of_bne_int (by assumption); omega)
  · obtain ⟨p, hp⟩ : ∃ p : Nat, p = J := ⟨_, rfl⟩
    have hraw : Hid (rawPivot lt d a b = (J, 0)) := by show _ = _; simp only [rawPivot, if_neg h8, ← hJ]
    have C4 : Aside (CW W2 (W.heap.size + 1) 0 0 ((W.alloc (.cells #[.func (.func g) #[] lb, .func sfn sa sb] (ρ.t 44))).alloc (.cells #[.int .i64 0] (ρ.t 3)))) := by show CW _ _ _ _ _; rw [← hW2]; exact hC2
    clear MA MD cel hB0 hB1 hS2 hsw2 hC2 hc2 hW2 hH hL hI hJ hK
    go_enter L.f29, BodyGg.n29_ntmps ρ
    go_wp2
    all_goals
      go_ret2
      exact fin.out _ J 0 hraw.out C4.out _ (fun _ => rfl) (fun h => absurd h (by decide)) (fun h => absurd rfl h)
end Go.Proofs.Ytpggfdjnebccnaa.Srt
