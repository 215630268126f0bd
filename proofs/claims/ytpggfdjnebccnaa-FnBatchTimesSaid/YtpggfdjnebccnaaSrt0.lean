/- Sorting with a 'less' that may lay blocks: what is asked of it, and what is kept from step to step. Over any program. -/
import Derived.Shelf.SlSortFuncK.WholeK
import Derived.Sort.WalkA6
import Derived.Deep.LoopGhost
namespace Go.Proofs.Ytpggfdjnebccnaa.Srt
open Go Go.Proofs Go.Shelf Go.RowKit Go.Lib Go.Sort
set_option linter.unusedVariables false
set_option linter.unusedSimpArgs false
variable {P : Program} {ρ : Ren} {α : Type} [Inhabited α]

theorem swk_trans {enc : α → List Value} {k : Nat} {w W W' : World} {blk off : Nat} {d d' : Array α} (h : SWK enc k w blk off d W) (h' : SWK enc k W blk off d' W') (hblk : blk < w.heap.size) (hs : d'.size = d.size) : SWK enc k w blk off d' W' := by
  obtain ⟨n, os, rfl⟩ := h'
  exact h.on hblk n d' os hs

/-- WHAT IS ASKED OF 'less': in every world that the sort passes through it answers 'lt'; the row stays as it is; new blocks may be laid. -/
def LessLays (P : Program) (g : Nat) (lb : Array Value) (enc : α → List Value) (k : Nat) (lt : α → α → Bool) (blk off size : Nat) (w : World) : Prop :=
  ∀ (dk : Array α) (W : World), SWK enc k w blk off dk W → dk.size = size → ∀ i j : Nat, i < size → j < size →
    Calls P g (#[.int .i64 i, .int .i64 j] ++ lb) W fun e w' => e = .returned (.bool (lt dk[i]! dk[j]!)) ∧ SWK enc k W blk off dk w'

theorem LessLays.at {g : Nat} {lb : Array Value} {enc : α → List Value} {k : Nat} {lt : α → α → Bool} {blk off size : Nat} {w W : World} {d : Array α} (h : LessLays P g lb enc k lt blk off size w) (hblk : blk < w.heap.size) (hW : SWK enc k w blk off d W) (hs : d.size = size) : LessLays P g lb enc k lt blk off size W :=
  fun dk X hX hd => h dk X (swk_trans hW hX hblk (hd.trans hs.symm)) hd

/-- The state between two steps: the row, and the two cells of the function's own box. -/
structure St (enc : α → List Value) (k : Nat) (w : World) (blk off B : Nat) (x y : Value) (d : Array α) (W : World) : Prop where
  sw : SWK enc k w blk off d W
  c0 : W.cell? ⟨B, 0, none⟩ = some x
  c1 : W.cell? ⟨B, 1, none⟩ = some y
  lt : B < W.heap.size

variable {enc : α → List Value} {k : Nat} {w W W' : World} {blk off B : Nat} {x y : Value} {d d' : Array α}

theorem St.step (S : St enc k w blk off B x y d W) (h : SWK enc k W blk off d' W') (hs : d'.size = d.size) (hne : B ≠ blk) (hblk : blk < w.heap.size) : St enc k w blk off B x y d' W' := by
  refine ⟨swk_trans S.sw h hblk hs, ?_, ?_, Nat.lt_of_lt_of_le S.lt h.le⟩ <;> obtain ⟨n, os, rfl⟩ := h
  · exact (cell?_sortWorldK_other enc k W blk off n d' os ⟨B, 0, none⟩ hne S.lt).trans S.c0
  · exact (cell?_sortWorldK_other enc k W blk off n d' os ⟨B, 1, none⟩ hne S.lt).trans S.c1
theorem St.box (hH : HoldsK enc k w blk off d) (x y : Value) (t : TypeId) : St enc k w blk off w.heap.size x y d (w.alloc (.cells #[x, y] t)) := ⟨(SWK.start hH).alloc _, by simp, by simp, by simp⟩
theorem St.holds (S : St enc k w blk off B x y d W) (hH : HoldsK enc k w blk off d') (hblk : blk < w.heap.size) (hs : d.size = d'.size) : HoldsK enc k W blk off d := S.sw.holds hblk hH hs
theorem St.inb (S : St enc k w blk off B x y d W) (hblk : blk < w.heap.size) : blk < W.heap.size := S.sw.lt hblk

/-- 'less'. -/
theorem St.less {g : Nat} {lb : Array Value} {lt : α → α → Bool} {size : Nat} (S : St enc k w blk off B x y d W) (hL : LessLays P g lb enc k lt blk off size w) (hs : d.size = size) (hne : B ≠ blk) (hblk : blk < w.heap.size) (i j : Nat) (hi : i < size) (hj : j < size) {v : Bool} (hv : lt d[i]! d[j]! = v) :
    Calls P g (#[.int .i64 i, .int .i64 j] ++ lb) W fun e w' => e = .returned (.bool v) ∧ w'.cell? ⟨B, 0, none⟩ = some x ∧ w'.cell? ⟨B, 1, none⟩ = some y ∧ Aside (St enc k w blk off B x y d w') :=
  (hL d W S.sw hs i j hi hj).mono fun _ _ ⟨he, h⟩ => have T := S.step h rfl hne hblk; ⟨by rw [he, hv], T.c0, T.c1, T⟩

/-- 'swap'. -/
theorem St.swap {sf : Nat} {sb : Array Value} {size : Nat} (S : St enc k w blk off B x y d W) (hsw : SwapSwapsK P sf sb enc k blk off size) (hk : ∀ x, (enc x).length = k) (hH : HoldsK enc k w blk off d') (hs' : d'.size = size) (hs : d.size = size) (hne : B ≠ blk) (hblk : blk < w.heap.size) (i j : Nat) (hi : i < size) (hj : j < size) :
    ∃ w', (callFunc sf (#[.int .i64 i, .int .i64 j] ++ sb)).run P W = .ok (.value (.tuple #[])) w' ∧ w'.cell? ⟨B, 0, none⟩ = some x ∧ w'.cell? ⟨B, 1, none⟩ = some y ∧ Aside (St enc k w blk off B x y (swp d i j) w') := by
  have T := S.step (((SWK.start (S.holds hH hblk (hs.trans hs'.symm))).swap hk (S.inb hblk) i j (by omega) (by omega))) (size_swp ..) hne hblk
  exact ⟨_, hsw W d (S.holds hH hblk (hs.trans hs'.symm)) hs i j hi hj, T.c0, T.c1, T⟩
end Go.Proofs.Ytpggfdjnebccnaa.Srt
