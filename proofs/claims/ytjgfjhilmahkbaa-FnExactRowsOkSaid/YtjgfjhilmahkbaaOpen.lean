/- An argument that is a slice of structs, or a struct by value: from its reading as data to the rows that the contracts speak of. Over any program. -/
import Derived.Test.YtjgfjhilmahkbaaWWords
import Derived.Deep.Slices
import Derived.ChangeSame
import Derived.SizedLaws
import Derived.Test.YtjgfjhilmahkbaaWSized
namespace Go.Proofs.Ytjgfjhilmahkbaa.Open
open Go.RowKit Go.ChangeShapes Go.WideShapes Go.Deep Go.Proofs.YtjgfjhilmahkbaaW.PrintWords
/-- Whatever reads at type e is a value of the kind d. -/
def Opens {α : Type} (P : Program) (e : TypeId) (d : Kd α) (good : α → Prop) : Prop :=
  ∀ {H : Type} {enc : TypeId × Value → H} {w : World} {base : Nat} {spare : Nat → Bool} {held : Bool} {fuel : Nat} {cs : List Value} {x : DataW H × List MemPlace}, DataW.trod enc P w base spare held fuel e cs = some x → ∃ v : α, d.K w v cs ∧ good v
theorem opens_row {α : Type} {P : Program} {t e : TypeId} {d : Kd α} {good : α → Prop} {H : Type} {enc : TypeId × Value → H} {w : World} {base : Nat} {spare : Nat → Bool} {held : Bool} {v : DataW H} {ps : List MemPlace} {a : Option Addr} {len cap : Nat}
    (ht : P.underlying t = some (.slice e)) (hs : P.cellsOf e = d.sz) (ho : Opens P e d good) (z : α) (h : DataW.Trod enc P w base spare held t (.slice a len cap) v ps) :
    ∃ xs : List α, xs.length = len ∧ d.C w a len xs ∧ len ≤ cap ∧ len ≤ maxLen ∧ ∀ x ∈ xs, good x := by
  obtain ⟨fuel, hf⟩ := h
  rcases open_slice ht hf with ⟨hcs, _⟩ | ⟨a', len', cap', m, n, D, Pl, hcs, _, hl, hm, hmm, _, hx⟩
  · simp [Value.cells] at hcs
    obtain ⟨rfl, rfl, rfl⟩ := hcs
    exact ⟨[], rfl, ⟨rfl, by simp, fun h => absurd h (Nat.lt_irrefl 0)⟩, Nat.le_refl _, Nat.zero_le _, fun x hx => by simp at hx⟩
  · simp [Value.cells] at hcs
    obtain ⟨rfl, rfl, rfl⟩ := hcs
    have hle : len ≤ m := by rw [hmm]; split <;> omega
    have : Inhabited α := ⟨z⟩
    obtain ⟨V, hV⟩ := choose_lt (α := α) (n := len) (p := fun i v => (∃ cs, w.cells? base (a'.add (i * P.cellsOf e)) (P.cellsOf e) = some cs ∧ d.K w v cs) ∧ good v) (fun i hi => by
      obtain ⟨cs, h1, h2⟩ := hx i (by omega)
      obtain ⟨v, hv, hg⟩ := ho h2
      exact ⟨v, ⟨cs, h1, hv⟩, hg⟩)
    refine ⟨(List.range len).map V, by simp, ⟨by simp, by unfold maxLen at hm; omega, fun _ => ⟨a', rfl, fun j p hj => ?_⟩⟩, hl, by omega, fun x hx => ?_⟩
    · have hjl : j < len := by
        have := (List.getElem?_eq_some_iff.1 hj).1
        simpa using this
      have hp : V j = p := by simpa [hjl] using hj
      obtain ⟨⟨cs, h1, h2⟩, _⟩ := hV j hjl
      obtain ⟨_, hcl, hat⟩ := World.cells?_some h1
      refine ⟨cs, by rw [hcl, hs], hp ▸ h2, fun i u hi => ?_⟩
      have hil : i < P.cellsOf e := by rw [← hcl]; exact (List.getElem?_eq_some_iff.1 hi).1
      rw [← hs, ← Go.Deep.add_add, hat i hil, hi]
    · obtain ⟨i, hi, rfl⟩ := List.mem_map.1 hx
      exact (hV i (by simpa using hi)).2
/-- A field of one cell that is a whole number. -/
theorem opens_int {P : Program} {e : TypeId} {k : IntKind} {H : Type} {enc : TypeId × Value → H} {w : World} {base : Nat} {spare : Nat → Bool} {held : Bool} {fuel : Nat} {cs : List Value} {x : Option (DataW H × List MemPlace)}
    (he : P.underlying e = some (.int k)) (h : DataW.trod enc P w base spare held fuel e cs = x) (hx : x.isSome = true) : ∃ n, cs = [.int k n] ∧ (Lit.int k n).wf = true := by
  obtain ⟨y, rfl⟩ := Option.isSome_iff_exists.1 hx
  obtain ⟨n, h1, _, h2⟩ := DataW.trod_int he h
  exact ⟨n, h1, h2⟩
/-- A slice of bytes is no longer than its weight allows. -/
theorem sized_bytes {H : Type} {enc : TypeId × Value → H} {P : Program} {W : World} {base : Nat} {spare : Nat → Bool} {held : Bool} {t e : TypeId} {k : IntKind} {a : Option Addr} {len cap : Nat} {d : DataW H} {ps : List MemPlace} {ts : List TypeId} {ds : List (DataW H)} {j : Nat}
    (hsz : (DataW.weightsEach P ts ds).all (· ≤ reachBytes) = true) (ht : ts[j]? = some t) (hd : ds[j]? = some d) (hu : P.underlying t = some (.slice e)) (he : P.underlying e = some (.int k)) (hc : P.cellsOf e = 1) {B : Nat} (hB : P.bytesOf e = B)
    (h : DataW.Trod enc P W base spare held t (.slice a len cap) d ps) : len * B ≤ 140737488351232 := sized_ints hsz ht hd hu he hc hB h
theorem some_at {β : Type} {xs : List β} {n i : Nat} (h : xs.length = n) (hi : i < n) : (xs[i]?).isSome = true := by
  rw [List.getElem?_eq_getElem (by omega)]
  rfl
end Go.Proofs.Ytjgfjhilmahkbaa.Open
