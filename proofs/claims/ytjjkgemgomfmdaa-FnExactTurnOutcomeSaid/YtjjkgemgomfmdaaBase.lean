/-
  Words for memory that all proofs of this seat share: plain theorems over worlds; nothing here speaks of the program. No conditions.
-/
import Derived.Below
import Derived.Laws.OwnMore
import Derived.Deep.Draws
import Derived.Laws.Rows
import Derived.Laws.MakeOwn
import Derived.Laws.Entries
import Derived.Lib.Hide
namespace Go.Proofs.Ytjjkgemgomfmdaa
open Go.RowKit

/-! ### blocks known whole -/
def Blk (w : World) (g : Nat) (t : TypeId) (cs : Array Value) : Prop := w.heap[g]? = some (.cells cs t (0, 0))

section
variable {w w' : World} {g : Nat} {t : TypeId} {cs : Array Value}
theorem Blk.lt (h : Blk w g t cs) : g < w.heap.size := by
  rcases Nat.lt_or_ge g w.heap.size with hlt | hge
  · exact hlt
  · unfold Blk at h; rw [Array.getElem?_eq_none hge] at h; cases h
theorem Blk.cell (h : Blk w g t cs) (i : Nat) : w.cell? ⟨g, i, none⟩ = cs[i]? := cell_of_row w g i cs t (0, 0) h
theorem Blk.frozen (h : Blk w g t cs) (i : Nat) : w.frozen? ⟨g, i, none⟩ = false := by
  unfold Blk at h
  simp [World.frozen?, h]
theorem Blk.new (w : World) (t : TypeId) (cs : Array Value) : Blk (w.alloc (.cells cs t)) w.heap.size t cs := heap_alloc_new w _
theorem Blk.at_ {n : Nat} (h : w.heap.size = n) : Blk (w.alloc (.cells cs t)) n t cs := h ▸ Blk.new _ _ _
theorem Blk.drew (h : Blk w g t cs) : Blk w.drew g t cs := h
theorem Blk.drewN (h : Blk w g t cs) (n : Nat) : Blk (w.drewN n) g t cs := h
theorem Blk.alloc (h : Blk w g t cs) (o : Obj) : Blk (w.alloc o) g t cs := (Below.heap_alloc w o g h.lt).trans h
theorem Blk.set_ (h : Blk w g t cs) (i : Nat) (u : Value) : Blk (w.setCell ⟨g, i, none⟩ u) g t (cs.setIfInBounds i u) := by
  unfold Blk at h ⊢
  simp [World.setCell, Array.getElem?_modify, h]
theorem Blk.far (h : Blk w g t cs) {p : Addr} (hp : g ≠ p.block) (u : Value) : Blk (w.setCell p u) g t cs := (Below.heap_setCell w p u g hp).trans h
theorem Blk.below {B : Nat} (h : Blk w g t cs) (hb : Below B w w') (hg : g < B) : Blk w' g t cs := (hb.block g hg).trans h
theorem Blk.inj {t' : TypeId} {cs' : Array Value} (h : Blk w g t cs) (h' : Blk w g t' cs') : t = t' ∧ cs = cs' := by
  unfold Blk at h h'
  rw [h] at h'
  injection h' with h'
  injection h' with h1 h2
  exact ⟨h2, h1⟩
end

/-! ### frames: blocks outside an interval are as they were -/
structure Fr (lo hi : Nat) (w w' : World) : Prop where
  os : w'.os = w.os
  tape : w'.tape = w.tape
  output : w'.output = w.output
  size : w.heap.size ≤ w'.heap.size
  block : ∀ k, k < w.heap.size → (k < lo ∨ hi ≤ k) → w'.heap[k]? = w.heap[k]?

section
variable {a w w' : World} {lo hi l h B : Nat}
theorem Fr.refl (lo hi : Nat) (w : World) : Fr lo hi w w := ⟨rfl, rfl, rfl, Nat.le_refl _, fun _ _ _ => rfl⟩
theorem Fr.trans {b c : World} (h : Fr lo hi a b) (k : Fr lo hi b c) : Fr lo hi a c :=
  ⟨k.os.trans h.os, k.tape.trans h.tape, k.output.trans h.output, Nat.le_trans h.size k.size, fun i hi hn => (k.block i (Nat.lt_of_lt_of_le hi h.size) hn).trans (h.block i hi hn)⟩
theorem Fr.mono (f : Fr lo hi w w') (h1 : l ≤ lo) (h2 : hi ≤ h) : Fr l h w w' :=
  ⟨f.os, f.tape, f.output, f.size, fun k hk hn => f.block k hk (by omega)⟩
theorem Fr.drew (f : Fr lo hi a w) : Fr lo hi a w.drew := ⟨f.os, f.tape, f.output, f.size, f.block⟩
theorem Fr.drewN (f : Fr lo hi a w) (n : Nat) : Fr lo hi a (w.drewN n) := ⟨f.os, f.tape, f.output, f.size, f.block⟩
theorem Fr.alloc (f : Fr lo hi a w) (o : Obj) : Fr lo hi a (w.alloc o) :=
  f.trans ⟨rfl, rfl, rfl, by simp, fun k hk _ => Below.heap_alloc _ _ _ hk⟩
theorem Fr.setCell (f : Fr lo hi a w) {p : Addr} (hp : (lo ≤ p.block ∧ p.block < hi)) (u : Value) : Fr lo hi a (w.setCell p u) :=
  f.trans ⟨rfl, rfl, rfl, by simp [World.setCell], fun k _ hn => Below.heap_setCell _ _ _ _ (by omega)⟩
theorem Fr.of_below (b : Below B w w') (hB : w.heap.size ≤ B) : Fr lo hi w w' := ⟨b.os, b.tape, b.output, b.size, fun k hk _ => b.block k (by omega)⟩
theorem Fr.below (f : Fr lo hi w w') (hB : B ≤ lo) (hs : B ≤ w.heap.size) : Below B w w' := ⟨f.os, f.tape, f.output, f.size, fun k hk => f.block k (by omega) (by omega)⟩
theorem Blk.fr {g : Nat} {t : TypeId} {cs : Array Value} (b : Blk w g t cs) (f : Fr lo hi w w') (hg : g < lo ∨ hi ≤ g) : Blk w' g t cs := (f.block g b.lt hg).trans b
theorem Fr.cell (f : Fr lo hi w w') {p : Addr} (hp : p.block < w.heap.size) (hn : p.block < lo ∨ hi ≤ p.block) : w'.cell? p = w.cell? p := World.cell?_of_block (w := w) (f.block p.block hp hn)
theorem below_drewN (b : Below B a w) (n : Nat) : Below B a (w.drewN n) := ⟨b.os, b.tape, b.output, b.size, b.block⟩
end

/-! ### slices that read as lists (nil let in); slices that lie in a block of their own -/
section
variable {α : Type} (f : α → List Value) (s : Nat)
def Sl (w : World) (lo hi : Nat) (v : Value) (xs : List α) : Prop :=
  ∃ A c, v = .slice A xs.length c ∧ xs.length ≤ c ∧ c ≤ 9223372036854775807 ∧ (0 < xs.length → ∃ b o, A = some ⟨b, o, none⟩ ∧ lo ≤ b ∧ b < hi ∧ b < w.heap.size ∧
    ∀ (k : Nat) (h : k < xs.length) (j : Nat) (u : Value), (f xs[k])[j]? = some u → w.cell? ⟨b, o + k * s + j, none⟩ = some u)
def Ow (t : TypeId) (w : World) (lo hi : Nat) (v : Value) (xs : List α) : Prop :=
  ∃ A c, v = .slice A xs.length c ∧ xs.length ≤ c ∧ c ≤ 9223372036854775807 ∧ (0 < xs.length → ∃ g cur, A = some ⟨g, 0, none⟩ ∧ lo ≤ g ∧ g < hi ∧ Blk w g t cur ∧ cur.size = c * s ∧
    ∀ (k : Nat) (h : k < xs.length) (j : Nat) (u : Value), (f xs[k])[j]? = some u → cur[k * s + j]? = some u)
end

section
variable {α : Type} {f : α → List Value} {s : Nat} {t : TypeId} {w w' : World} {lo hi l h B : Nat} {v : Value} {xs : List α}
theorem Sl.nil_ (c : Nat) (A : Option Addr) (hc : c ≤ 9223372036854775807) : Sl f s w lo hi (.slice A 0 c) [] := ⟨A, c, rfl, by simp, hc, fun h => absurd h (by simp)⟩
theorem Ow.nil_ (c : Nat) (A : Option Addr) (hc : c ≤ 9223372036854775807) : Ow f s t w lo hi (.slice A 0 c) [] := ⟨A, c, rfl, by simp, hc, fun h => absurd h (by simp)⟩
theorem Sl.mono (x : Sl f s w lo hi v xs) (h1 : l ≤ lo) (h2 : hi ≤ h) : Sl f s w l h v xs := by
  obtain ⟨A, c, e, hc, hm, r⟩ := x
  refine ⟨A, c, e, hc, hm, fun hn => ?_⟩
  obtain ⟨b, o, e2, hb1, hb2, hb3, hx⟩ := r hn
  exact ⟨b, o, e2, by omega, by omega, hb3, hx⟩
theorem Ow.mono (x : Ow f s t w lo hi v xs) (h1 : l ≤ lo) (h2 : hi ≤ h) : Ow f s t w l h v xs := by
  obtain ⟨A, c, e, hc, hm, r⟩ := x
  refine ⟨A, c, e, hc, hm, fun hn => ?_⟩
  obtain ⟨b, o, e2, hb1, hb2, hx⟩ := r hn
  exact ⟨b, o, e2, by omega, by omega, hx⟩
theorem Sl.keep (x : Sl f s w lo hi v xs) (hs : w.heap.size ≤ w'.heap.size) (hk : ∀ k, k < w.heap.size → lo ≤ k → k < hi → w'.heap[k]? = w.heap[k]?) : Sl f s w' lo hi v xs := by
  obtain ⟨A, c, e, hc, hm, r⟩ := x
  refine ⟨A, c, e, hc, hm, fun hn => ?_⟩
  obtain ⟨b, o, e2, hb1, hb2, hb3, hx⟩ := r hn
  refine ⟨b, o, e2, hb1, hb2, by omega, fun k hk' j u hu => ?_⟩
  rw [World.cell?_of_block (hk b hb3 hb1 hb2)]
  exact hx k hk' j u hu
theorem Ow.keep (x : Ow f s t w lo hi v xs) (hk : ∀ k, k < w.heap.size → lo ≤ k → k < hi → w'.heap[k]? = w.heap[k]?) : Ow f s t w' lo hi v xs := by
  obtain ⟨A, c, e, hc, hm, r⟩ := x
  refine ⟨A, c, e, hc, hm, fun hn => ?_⟩
  obtain ⟨g, cur, e2, hb1, hb2, hb3, hx⟩ := r hn
  exact ⟨g, cur, e2, hb1, hb2, (hk g hb3.lt hb1 hb2).trans hb3, hx⟩
theorem Sl.below (x : Sl f s w lo hi v xs) (b : Below B w w') (hB : hi ≤ B) : Sl f s w' lo hi v xs := x.keep b.size fun k _ _ h2 => b.block k (by omega)
theorem Ow.below (x : Ow f s t w lo hi v xs) (b : Below B w w') (hB : hi ≤ B) : Ow f s t w' lo hi v xs := x.keep fun k _ _ h2 => b.block k (by omega)
theorem Sl.fr (x : Sl f s w lo hi v xs) (b : Fr l h w w') (hB : hi ≤ l ∨ h ≤ lo) : Sl f s w' lo hi v xs := x.keep b.size fun k hk h1 h2 => b.block k hk (by omega)
theorem Ow.fr (x : Ow f s t w lo hi v xs) (b : Fr l h w w') (hB : hi ≤ l ∨ h ≤ lo) : Ow f s t w' lo hi v xs := x.keep fun k hk h1 h2 => b.block k hk (by omega)
theorem Ow.sl (x : Ow f s t w lo hi v xs) : Sl f s w lo hi v xs := by
  obtain ⟨A, c, e, hc, hm, r⟩ := x
  refine ⟨A, c, e, hc, hm, fun hn => ?_⟩
  obtain ⟨g, cur, e2, hb1, hb2, hb3, _, hx⟩ := r hn
  refine ⟨g, 0, e2, hb1, hb2, hb3.lt, fun k hk j u hu => ?_⟩
  rw [Nat.zero_add, hb3.cell]
  exact hx k hk j u hu
theorem Sl.len_le (x : Sl f s w lo hi v xs) : xs.length ≤ 9223372036854775807 := by
  obtain ⟨A, c, e, hc, hm, r⟩ := x
  omega
end

/-- one cell an element -/
def val1 (v : Value) : List Value := [v]
def int1 (n : Int) : List Value := [.int .i64 n]
def byte1 (n : Int) : List Value := [.int .u8 n]
def str1 (b : ByteArray) : List Value := [.string b]

section
variable {α : Type} {g : α → Value} {f : α → List Value} {s : Nat} {w : World} {lo hi : Nat} {v : Value}
/-- an element of one cell, in the walk's own spelling -/
theorem Sl.one_ {xs : List α} (hf : ∀ x, f x = [g x]) (x : Sl f 1 w lo hi v xs) : ∃ A c, v = .slice A xs.length c ∧ xs.length ≤ c ∧ c ≤ 9223372036854775807 ∧ (0 < xs.length → ∃ b o, A = some ⟨b, o, none⟩ ∧ lo ≤ b ∧ b < hi ∧ b < w.heap.size ∧
    ∀ (k : Nat) (h : k < xs.length), w.cell? ⟨b, o + k, none⟩ = some (g xs[k])) := by
  obtain ⟨A, c, e, hc, hm, r⟩ := x
  refine ⟨A, c, e, hc, hm, fun hn => ?_⟩
  obtain ⟨b, o, e2, hb1, hb2, hb3, hx⟩ := r hn
  refine ⟨b, o, e2, hb1, hb2, hb3, fun k hk => ?_⟩
  have := hx k hk 0 (g xs[k]) (by rw [hf]; rfl)
  simpa using this
theorem Sl.vals {xs : List Value} (x : Sl val1 1 w lo hi v xs) : ∃ A c, v = .slice A xs.length c ∧ xs.length ≤ c ∧ c ≤ 9223372036854775807 ∧ (0 < xs.length → ∃ b o, A = some ⟨b, o, none⟩ ∧ lo ≤ b ∧ b < hi ∧ b < w.heap.size ∧
    ∀ (k : Nat) (h : k < xs.length), w.cell? ⟨b, o + k, none⟩ = some xs[k]) := Sl.one_ (g := fun v => v) (fun _ => rfl) x
theorem Sl.ints {xs : List Int} (x : Sl int1 1 w lo hi v xs) : ∃ A c, v = .slice A xs.length c ∧ xs.length ≤ c ∧ c ≤ 9223372036854775807 ∧ (0 < xs.length → ∃ b o, A = some ⟨b, o, none⟩ ∧ lo ≤ b ∧ b < hi ∧ b < w.heap.size ∧
    ∀ (k : Nat) (h : k < xs.length), w.cell? ⟨b, o + k, none⟩ = some (.int .i64 xs[k])) := Sl.one_ (g := fun v => .int .i64 v) (fun _ => rfl) x
end

/-! ### instructions -/
structure Ins where
  op : Int
  loc : Int
  reg : Int
  val : Int
  deriving DecidableEq, Inhabited
def Ins.v (x : Ins) : Value := .agg #[.int .i64 x.op, .int .i64 x.loc, .int .i64 x.reg, .int .i64 x.val]
def Ins.cells (x : Ins) : List Value := [.int .i64 x.op, .int .i64 x.loc, .int .i64 x.reg, .int .i64 x.val]
def Ins.eqB (x y : Ins) : Bool := x.op == y.op && x.loc == y.loc && x.reg == y.reg && x.val == y.val
theorem Ins.eqB_iff (x y : Ins) : x.eqB y = true ↔ x = y := by
  obtain ⟨a, b, c, d⟩ := x
  obtain ⟨a', b', c', d'⟩ := y
  simp [Ins.eqB, and_assoc]
/-- four cells in a row -/
def InsAt (w : World) (b o : Nat) (x : Ins) : Prop :=
  w.cell? ⟨b, o, none⟩ = some (.int .i64 x.op) ∧ w.cell? ⟨b, o + 1, none⟩ = some (.int .i64 x.loc) ∧ w.cell? ⟨b, o + 2, none⟩ = some (.int .i64 x.reg) ∧ w.cell? ⟨b, o + 3, none⟩ = some (.int .i64 x.val)
def HasIns (cs : Array Value) (o : Nat) (x : Ins) : Prop := cs[o]? = some (.int .i64 x.op) ∧ cs[o + 1]? = some (.int .i64 x.loc) ∧ cs[o + 2]? = some (.int .i64 x.reg) ∧ cs[o + 3]? = some (.int .i64 x.val)
def setIns (cs : Array Value) (o : Nat) (x : Ins) : Array Value := (((cs.setIfInBounds o (.int .i64 x.op)).setIfInBounds (o + 1) (.int .i64 x.loc)).setIfInBounds (o + 2) (.int .i64 x.reg)).setIfInBounds (o + 3) (.int .i64 x.val)
section
variable {w w' : World} {b o p : Nat} {x y : Ins} {cs : Array Value} {t : TypeId} {g B lo hi : Nat} {v : Value} {xs : List Ins}
theorem InsAt.below (h : InsAt w b o x) (hb : Below B w w') (hlt : b < B) : InsAt w' b o x := by
  unfold InsAt at *
  rw [hb.cell (by exact hlt), hb.cell (by exact hlt), hb.cell (by exact hlt), hb.cell (by exact hlt)]
  exact h
theorem InsAt.drew (h : InsAt w b o x) : InsAt w.drew b o x := h
theorem Blk.ins (h : Blk w g t cs) (hi : HasIns cs o x) : InsAt w g o x := by
  unfold InsAt
  rw [h.cell, h.cell, h.cell, h.cell]
  exact hi
theorem size_setIns (cs : Array Value) (o : Nat) (x : Ins) : (setIns cs o x).size = cs.size := by simp [setIns]
theorem HasIns.same (h : o + 4 ≤ cs.size) : HasIns (setIns cs o x) o x := by
  unfold HasIns setIns
  refine ⟨?_, ?_, ?_, ?_⟩ <;> simp [Array.getElem?_setIfInBounds] <;> omega
theorem HasIns.far (h : HasIns cs o x) (hf : o + 4 ≤ p ∨ p + 4 ≤ o) : HasIns (setIns cs p y) o x := by
  unfold HasIns setIns at *
  obtain ⟨h1, h2, h3, h4⟩ := h
  refine ⟨?_, ?_, ?_, ?_⟩
  · rw [Array.getElem?_setIfInBounds_ne (by omega), Array.getElem?_setIfInBounds_ne (by omega), Array.getElem?_setIfInBounds_ne (by omega), Array.getElem?_setIfInBounds_ne (by omega)]; exact h1
  · rw [Array.getElem?_setIfInBounds_ne (by omega), Array.getElem?_setIfInBounds_ne (by omega), Array.getElem?_setIfInBounds_ne (by omega), Array.getElem?_setIfInBounds_ne (by omega)]; exact h2
  · rw [Array.getElem?_setIfInBounds_ne (by omega), Array.getElem?_setIfInBounds_ne (by omega), Array.getElem?_setIfInBounds_ne (by omega), Array.getElem?_setIfInBounds_ne (by omega)]; exact h3
  · rw [Array.getElem?_setIfInBounds_ne (by omega), Array.getElem?_setIfInBounds_ne (by omega), Array.getElem?_setIfInBounds_ne (by omega), Array.getElem?_setIfInBounds_ne (by omega)]; exact h4
theorem HasIns.of_cells {k : Nat} (h : ∀ (j : Nat) (u : Value), x.cells[j]? = some u → cs[k + j]? = some u) : HasIns cs k x :=
  ⟨h 0 _ rfl, h 1 _ rfl, h 2 _ rfl, h 3 _ rfl⟩
theorem HasIns.cells {k : Nat} (h : HasIns cs k x) : ∀ (j : Nat) (u : Value), x.cells[j]? = some u → cs[k + j]? = some u := by
  intro j u hu
  match j, hu with
  | 0, hu => simp [Ins.cells] at hu; subst hu; exact h.1
  | 1, hu => simp [Ins.cells] at hu; subst hu; exact h.2.1
  | 2, hu => simp [Ins.cells] at hu; subst hu; exact h.2.2.1
  | 3, hu => simp [Ins.cells] at hu; subst hu; exact h.2.2.2
  | n + 4, hu => simp [Ins.cells] at hu
/-- a slice of instructions, in the walk's own spelling -/
theorem Sl.inss (x : Sl Ins.cells 4 w lo hi v xs) : ∃ A c, v = .slice A xs.length c ∧ xs.length ≤ c ∧ c ≤ 9223372036854775807 ∧ (0 < xs.length → ∃ b o, A = some ⟨b, o, none⟩ ∧ lo ≤ b ∧ b < hi ∧ b < w.heap.size ∧
    ∀ (k : Nat) (h : k < xs.length), InsAt w b (o + k * 4) xs[k]) := by
  obtain ⟨A, c, e, hc, hm, r⟩ := x
  refine ⟨A, c, e, hc, hm, fun hn => ?_⟩
  obtain ⟨b, o, e2, hb1, hb2, hb3, hx⟩ := r hn
  exact ⟨b, o, e2, hb1, hb2, hb3, fun k hk => ⟨hx k hk 0 _ rfl, hx k hk 1 _ rfl, hx k hk 2 _ rfl, hx k hk 3 _ rfl⟩⟩
end

/-! ### slices of slices -/
section
variable {α : Type} (f : α → List Value) (s : Nat)
/-- it reads as a list of lists -/
def SlSl (w : World) (lo hi : Nat) (v : Value) (p : List (List α)) : Prop :=
  ∃ vs : List Value, Sl val1 1 w lo hi v vs ∧ vs.length = p.length ∧ ∀ (k : Nat) (h : k < vs.length) (h' : k < p.length), Sl f s w lo hi vs[k] p[k]
/-- it lies in blocks of its own, each row in one of its own -/
def OwOw (to ti : TypeId) (w : World) (lo hi : Nat) (v : Value) (p : List (List α)) : Prop :=
  ∃ vs : List Value, Ow val1 1 to w lo hi v vs ∧ vs.length = p.length ∧ (∀ (k : Nat) (h : k < vs.length) (h' : k < p.length), Ow f s ti w lo hi vs[k] p[k]) ∧
    ∀ (i j : Nat) (hi : i < vs.length) (hj : j < vs.length) (hi' : i < p.length) (hj' : j < p.length), i ≠ j → 0 < p[i].length → 0 < p[j].length → vs[i].ownBlock ≠ vs[j].ownBlock
end
section
variable {α : Type} {f : α → List Value} {s : Nat} {to ti : TypeId} {w w' : World} {lo hi l h B : Nat} {v : Value} {p : List (List α)}
theorem SlSl.keep (x : SlSl f s w lo hi v p) (hs : w.heap.size ≤ w'.heap.size) (hk : ∀ k, k < w.heap.size → lo ≤ k → k < hi → w'.heap[k]? = w.heap[k]?) : SlSl f s w' lo hi v p := by
  obtain ⟨vs, h1, h2, h3⟩ := x
  exact ⟨vs, h1.keep hs hk, h2, fun k a b => (h3 k a b).keep hs hk⟩
theorem OwOw.keep (x : OwOw f s to ti w lo hi v p) (hk : ∀ k, k < w.heap.size → lo ≤ k → k < hi → w'.heap[k]? = w.heap[k]?) : OwOw f s to ti w' lo hi v p := by
  obtain ⟨vs, h1, h2, h3, h4⟩ := x
  exact ⟨vs, h1.keep hk, h2, fun k a b => (h3 k a b).keep hk, h4⟩
theorem SlSl.mono (x : SlSl f s w lo hi v p) (h1 : l ≤ lo) (h2 : hi ≤ h) : SlSl f s w l h v p := by
  obtain ⟨vs, g1, g2, g3⟩ := x
  exact ⟨vs, g1.mono h1 h2, g2, fun k a b => (g3 k a b).mono h1 h2⟩
theorem OwOw.mono (x : OwOw f s to ti w lo hi v p) (h1 : l ≤ lo) (h2 : hi ≤ h) : OwOw f s to ti w l h v p := by
  obtain ⟨vs, g1, g2, g3, g4⟩ := x
  exact ⟨vs, g1.mono h1 h2, g2, fun k a b => (g3 k a b).mono h1 h2, g4⟩
theorem SlSl.below (x : SlSl f s w lo hi v p) (b : Below B w w') (hB : hi ≤ B) : SlSl f s w' lo hi v p := x.keep b.size fun k _ _ h2 => b.block k (by omega)
theorem OwOw.below (x : OwOw f s to ti w lo hi v p) (b : Below B w w') (hB : hi ≤ B) : OwOw f s to ti w' lo hi v p := x.keep fun k _ _ h2 => b.block k (by omega)
theorem SlSl.fr (x : SlSl f s w lo hi v p) (b : Fr l h w w') (hB : hi ≤ l ∨ h ≤ lo) : SlSl f s w' lo hi v p := x.keep b.size fun k hk h1 h2 => b.block k hk (by omega)
theorem OwOw.fr (x : OwOw f s to ti w lo hi v p) (b : Fr l h w w') (hB : hi ≤ l ∨ h ≤ lo) : OwOw f s to ti w' lo hi v p := x.keep fun k hk h1 h2 => b.block k hk (by omega)
theorem OwOw.sl (x : OwOw f s to ti w lo hi v p) : SlSl f s w lo hi v p := by
  obtain ⟨vs, h1, h2, h3, _⟩ := x
  exact ⟨vs, h1.sl, h2, fun k a b => (h3 k a b).sl⟩
end

/-! ### make with elements of several cells -/
theorem run_make_rowN {P : Program} (t e : TypeId) (i : TypeInfo) (z : Value) (ht : P.underlying t = some (.slice e)) (hi : P.info? e = some i) (hz : i.zero = some z)
    (kl kc : IntKind) (n c : Nat) (hnc : n ≤ c) (hbytes : i.bytes * c ≤ 281474976710656) (h63 : c ≤ 9223372036854775807) (w : World) :
    (Instr.makeSlice t (.int kl (n : Int)) (.int kc (c : Int))).run P w = .ok (.slice (some ⟨w.heap.size, 0, none⟩) n c) (w.alloc (.cells (madeCells z.cells (c * i.size)) e)) := by
  have hb : (i.bytes : Int) * (c : Int) ≤ 281474976710656 := by
    have h : ((i.bytes * c : Nat) : Int) ≤ 281474976710656 := by omega
    rwa [Int.natCast_mul] at h
  have hr := run_make (P := P) w t e i z ht hi hz kl kc n c (by omega) (by omega) hb (by omega)
  simp only [Int.toNat_natCast] at hr
  exact hr

/-! ### lists -/
theorem take_succ_get {α : Type} (xs : List α) (k : Nat) (h : k < xs.length) : xs.take (k + 1) = xs.take k ++ [xs[k]] := by
  rw [List.take_succ_eq_append_getElem h]
theorem take_eq_step {α : Type} {xs ys : List α} {k : Nat} (h : k < xs.length) (h' : k < ys.length) (e : xs.take k = ys.take k) (e2 : xs[k] = ys[k]) : xs.take (k + 1) = ys.take (k + 1) := by
  rw [take_succ_get _ _ h, take_succ_get _ _ h', e, e2]
theorem take_all_eq {α : Type} {xs ys : List α} (hl : xs.length = ys.length) (e : xs.take xs.length = ys.take xs.length) : xs = ys := by
  rw [List.take_length, hl, List.take_length] at e
  exact e
def upd {α : Type} (G : Nat → α) (k : Nat) (v : α) : Nat → α := fun j => if j = k then v else G j
theorem upd_same {α : Type} (G : Nat → α) (k : Nat) (v : α) : upd G k v k = v := if_pos rfl
theorem upd_ne {α : Type} (G : Nat → α) {k j : Nat} (v : α) (h : j ≠ k) : upd G k v j = G j := if_neg h
theorem set_get_same {cs : Array Value} {i : Nat} {u : Value} (h : i < cs.size) : (cs.setIfInBounds i u)[i]? = some u := by simp [h]
theorem set_get_ne {cs : Array Value} {i j : Nat} {u : Value} (h : i ≠ j) : (cs.setIfInBounds i u)[j]? = cs[j]? := by rw [Array.getElem?_setIfInBounds_ne h]
theorem ret_bool {a b : Bool} (h : a = b) : Ending.returned (.bool a) = Ending.returned (.bool b) := by rw [h]
theorem ret_int {k : IntKind} {a b : Int} (h : a = b) : Ending.returned (.int k a) = .returned (.int k b) := by rw [h]
end Go.Proofs.Ytjjkgemgomfmdaa
