/-
  append(T, xs...) onto an empty row of the call's own, in this seat's words; an owned row beside other rows. Plain theorems over any program.
-/
import Derived.Test.YtjjkgemgomfmdaaApp
import Derived.Test.YtjjkgemgomfmdaaSmall2
namespace Go.Proofs.Ytjjkgemgomfmdaa
open Go.RowKit

section
variable {P : Program} (w : World) {α : Type} {f : α → List Value}
theorem ow_of_append {e : TypeId} {base : Nat} {size : Nat} {v' : Value} {w' : World} {xs : List α} (hf : ∀ x, (f x).length = size) (h : w'.ownsRow base e size v' (0 + xs.length) ([] ++ xs.flatMap f)) :
    ∃ A c, v' = .slice A xs.length c ∧ Ow f size e w' base w'.heap.size (.slice A xs.length c) xs := by
  rw [Nat.zero_add, List.nil_append] at h
  have h2 := Ow.of_row hf h rfl rfl
  obtain ⟨A, c, rfl, r⟩ := h2
  exact ⟨A, c, rfl, A, c, rfl, r⟩
theorem wpList_append_new {ops : Array Oper} {rest : List Oper} {o : Oper} {a : Act} {Q : Exit → Act → World → Prop} (hgd : o.guard = none) (s x : Operand) (t : TypeId)
    (ho : o.op = .call { callee := .builtin .append, args := #[s, x], argTypes := #[t, t] })
    (base : Nat) (e : TypeId) (i : TypeInfo) (z : Value) (size bytes : Nat) (ht : P.underlying t = some (.slice e)) (hi : P.info? e = some i) (hz : i.zero = some z)
    (hsize : i.size = size) (hby : i.bytes = bytes) (hzs : z.cells.size = size) (hsz : 0 < size)
    (v : Value) (hs : a.eval s = v) (hown : w.ownsRow base e size v 0 [])
    (A : Option Addr) (c : Nat) (xs : List α) (hf : ∀ x, (f x).length = size) (hx : a.eval x = .slice A xs.length c) (hr : Src w A xs.length (xs.flatMap f)) (h1 : ∀ u ∈ xs.flatMap f, u.oneCell' = true)
    (h63 : 0 + xs.length ≤ maxLen) (hbytes : (0 + xs.length) * bytes ≤ 140737488355328) (hbase : base ≤ w.heap.size)
    (h : ∀ A' c' w', Ow f size e w' base w'.heap.size (.slice A' xs.length c') xs → w.grownBy w' v.ownBlock → wpList P ops Q rest (a.put o.dst (.slice A' xs.length c')) w') : wpList P ops Q (o :: rest) a w := by
  refine wpList_append_src w hgd s x t ho base e i z size bytes ht hi hz hsize hby hzs hsz v 0 [] hs hown A xs.length c (xs.flatMap f) hx (flat_len hf xs) hr h1 h63 hbytes hbase fun v' w' h2 h3 _ => ?_
  obtain ⟨A', c', rfl, ho'⟩ := ow_of_append hf h2
  exact h A' c' w' ho' h3
end
section
variable {α : Type} {f : α → List Value} {s : Nat} {t e : TypeId} {w w' : World} {lo hi : Nat} {u v : Value} {xs : List α} {base size n : Nat} {cells : List Value}
/-- a row is kept where another row, of another element type, is appended to -/
theorem Ow.grownRow (h : Ow f s t w lo hi v xs) (ho : w.ownsRow base e size u n cells) (hne : t ≠ e) (hg : w.grownBy w' u.ownBlock) : Ow f s t w' lo hi v xs := by
  refine h.grown hg fun hn => ?_
  obtain ⟨g, cur, h1, _, _, h2⟩ := h.block hn
  rw [h1]
  rcases ho.2 with ⟨rfl, _⟩ | ⟨g', cap, cur', rfl, _, hh, _⟩
  · simp [Value.ownBlock]
  · simp only [Value.ownBlock, ne_eq, Option.some.injEq]
    rintro rfl
    have h3 : Blk w g e cur' := hh
    exact hne (h2.inj h3).1
end
theorem Src.one {w : World} {g : Nat} {t : TypeId} {u : Value} (h : Blk w g t #[u]) : Src w (some ⟨g, 0, none⟩) 1 [u] := by
  intro _
  refine ⟨_, rfl, fun j x hx => ?_⟩
  rw [add_plain', Nat.zero_add, h.cell]
  match j, hx with
  | 0, hx => simpa using hx
  | j + 1, hx => simp at hx
theorem Src.below {w w' : World} {B m : Nat} {A : Option Addr} {news : List Value} (h : Src w A m news) (hb : Below B w w') (hB : w.heap.size ≤ B) : Src w' A m news := by
  intro hm
  obtain ⟨ad, rfl, hc⟩ := h hm
  refine ⟨ad, rfl, fun j u hu => ?_⟩
  have := hc j u hu
  rw [hb.cell (Nat.lt_of_lt_of_le (World.block_lt_of_cell? w _ this) hB)]
  exact this
end Go.Proofs.Ytjjkgemgomfmdaa
