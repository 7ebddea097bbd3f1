/-
  Writing one instruction's location in a program of the call's own; the program with two locations exchanged. Plain theorems. No conditions.
-/
import Derived.Test.YtjogdblionfmiaaReorder3
namespace Go.Proofs.Ytjogdblionfmiaa

/-- a row of a program of the call's own: its header -/
theorem OwOw.hdr {to ti : TypeId} {w : World} {lo hi : Nat} {v : Value} {p : List (List Ins)} (h : OwOw Ins.cells 4 to ti w lo hi v p) (t : Nat) (r : List Ins) (hr : p[t]? = some r) :
    ∃ (go co ct : Nat) (At : Option Addr), v = .slice (some ⟨go, 0, none⟩) p.length co ∧ lo ≤ go ∧ go < hi ∧ go < w.heap.size ∧ w.cell? ⟨go, t, none⟩ = some (.slice At r.length ct) := by
  obtain ⟨ht, rfl⟩ := List.getElem?_eq_some_iff.1 hr
  obtain ⟨vs, ho, hl, hrow, hsep⟩ := h
  obtain ⟨A, co, rfl, hco, hmo, hx⟩ := ho
  obtain ⟨go, curo, rfl, hg1, hg2, hBo, hszo, hcells⟩ := hx (by omega)
  obtain ⟨At, ct, hvt, hct, hmt, hxt⟩ := hrow t (by omega) ht
  refine ⟨go, co, ct, At, by rw [hl], hg1, hg2, hBo.lt, ?_⟩
  rw [hBo.cell]
  have := hcells t (by omega) 0 vs[t] (by simp [val1])
  rw [hvt] at this
  simpa using this

theorem OwOw.openRow2 {to ti : TypeId} {w : World} {lo hi : Nat} {v : Value} {p : List (List Ins)} (hne : ti ≠ to) (h : OwOw Ins.cells 4 to ti w lo hi v p) (t : Nat) (r : List Ins) (hr : p[t]? = some r) (hn : 0 < r.length) :
    ∃ (go co gt ct : Nat) (cur : Array Value), v = .slice (some ⟨go, 0, none⟩) p.length co ∧ lo ≤ go ∧ go < hi ∧ go < w.heap.size ∧ go ≠ gt ∧ lo ≤ gt ∧ gt < hi ∧ w.cell? ⟨go, t, none⟩ = some (.slice (some ⟨gt, 0, none⟩) r.length ct) ∧
      Blk w gt ti cur ∧ cur.size = ct * 4 ∧ r.length ≤ ct ∧ (∀ k (h : k < r.length), HasIns cur (k * 4) r[k]) ∧
      ∀ (w' : World) (cur' : Array Value) (xs : List Ins), (∀ k, k < w.heap.size → k ≠ gt → w'.heap[k]? = w.heap[k]?) → Blk w' gt ti cur' → cur'.size = cur.size → xs.length = r.length → (∀ k (h : k < xs.length), HasIns cur' (k * 4) xs[k]) →
        OwOw Ins.cells 4 to ti w' lo hi v (p.set t xs) := by
  obtain ⟨ht, rfl⟩ := List.getElem?_eq_some_iff.1 hr
  obtain ⟨vs, ho, hl, hrow, hsep⟩ := h
  obtain ⟨A, co, rfl, hco, hmo, hx⟩ := ho
  obtain ⟨go, curo, rfl, hg1, hg2, hBo, hszo, hcells⟩ := hx (by omega)
  obtain ⟨At, ct, hvt, hct, hmt, hxt⟩ := hrow t (by omega) ht
  obtain ⟨gt, cur, rfl, hg3, hg4, hBt, hszt, hcur⟩ := hxt hn
  have hgg : go ≠ gt := by
    intro e
    subst e
    exact hne (hBt.inj hBo).1
  refine ⟨go, co, gt, ct, cur, by rw [hl], hg1, hg2, hBo.lt, hgg, hg3, hg4, ?_, hBt, hszt, hct, fun k hk => .of_cells (hcur k hk), ?_⟩
  · rw [hBo.cell]
    have := hcells t (by omega) 0 vs[t] (by simp [val1])
    rw [hvt] at this
    simpa using this
  · intro w' cur' xs hfr hB' hsz' hxl hhas
    refine ⟨vs, ⟨_, co, rfl, hco, hmo, fun _ => ⟨go, curo, rfl, hg1, hg2, (hfr go hBo.lt hgg).trans hBo, hszo, hcells⟩⟩, by simp [hl], fun k hk hk' => ?_, fun i j hi hj hi' hj' hij h1 h2 => ?_⟩
    · by_cases e : k = t
      · subst e
        rw [hvt]
        simp only [List.getElem_set_self]
        exact ⟨_, ct, by rw [hxl], by omega, hmt, fun _ => ⟨gt, cur', rfl, hg3, hg4, hB', by omega, fun q hq => (hhas q hq).cells⟩⟩
      · have hkp : k < p.length := by simpa using hk'
        have hget : (p.set t xs)[k] = p[k] := by simp [Ne.symm e]
        rw [hget]
        obtain ⟨Ak, ck, hvk, hck, hmk, hxk⟩ := hrow k hk hkp
        refine ⟨Ak, ck, hvk, hck, hmk, fun hn' => ?_⟩
        obtain ⟨gk, curk, rfl, h3, h4, hBk, hszk, hcurk⟩ := hxk hn'
        have hs := hsep k t hk (by omega) hkp ht e hn' hn
        rw [hvk, hvt] at hs
        refine ⟨gk, curk, rfl, h3, h4, (hfr gk hBk.lt ?_).trans hBk, hszk, hcurk⟩
        intro e2
        subst e2
        exact hs rfl
    · have hip : i < p.length := by simpa using hi'
      have hjp : j < p.length := by simpa using hj'
      refine hsep i j hi hj hip hjp hij ?_ ?_
      · by_cases e : i = t
        · subst e; exact hn
        · simpa [Ne.symm e] using h1
      · by_cases e : j = t
        · subst e; exact hn
        · simpa [Ne.symm e] using h2

/-! ### the plain program with two locations exchanged -/
def tlocF (i k : Int) (x : Ins) : Ins := if x.op = 4 then x else ⟨x.op, turnI x.loc i k, x.reg, x.val⟩
def preMap (f : Ins → Ins) (n : Nat) (r : List Ins) : List Ins := r.mapIdx fun j x => if j < n then f x else x
def rowsMap (f : Ins → Ins) (k : Nat) (p : List (List Ins)) : List (List Ins) := p.mapIdx fun j r => if j < k then r.map f else r
def locR (p : List (List Ins)) (i k : Int) : List (List Ins) × Bool := if (validB p && (inB i 2 && inB k 2)) = true then (p.map (List.map (tlocF i k)), true) else ([], false)
section
variable {f : Ins → Ins}
theorem preMap_length (n : Nat) (r : List Ins) : (preMap f n r).length = r.length := by simp [preMap]
theorem rowsMap_length (n : Nat) (p : List (List Ins)) : (rowsMap f n p).length = p.length := by simp [rowsMap]
theorem preMap_get (n : Nat) (r : List Ins) (j : Nat) (h : j < (preMap f n r).length) (h' : j < r.length) : (preMap f n r)[j] = if j < n then f r[j] else r[j] := by simp [preMap]
theorem preMap_zero (r : List Ins) : preMap f 0 r = r := List.ext_getElem (preMap_length _ _) fun j h h' => by rw [preMap_get _ _ _ h h', if_neg (by omega)]
theorem preMap_all (r : List Ins) {n : Nat} (hn : r.length ≤ n) : preMap f n r = r.map f := List.ext_getElem (by simp [preMap]) fun j h h' => by
  have hj : j < r.length := by simpa using h'
  rw [preMap_get _ _ _ h hj, if_pos (by omega), List.getElem_map]
theorem rowsMap_zero (p : List (List Ins)) : rowsMap f 0 p = p := List.ext_getElem (rowsMap_length _ _) fun j h h' => by simp [rowsMap]
theorem rowsMap_all (p : List (List Ins)) {n : Nat} (hn : p.length ≤ n) : rowsMap f n p = p.map (List.map f) := List.ext_getElem (by simp [rowsMap]) fun j h h' => by
  have hj : j < p.length := by simpa using h'
  simp [rowsMap, show j < n by omega]
theorem rowsMap_at (n : Nat) (p : List (List Ins)) (h : n < p.length) : (rowsMap f n p)[n]? = some p[n] := by simp [rowsMap, h]
theorem rowsMap_succ (n : Nat) (p : List (List Ins)) (h : n < p.length) : (rowsMap f n p).set n (p[n].map f) = rowsMap f (n + 1) p := List.ext_getElem (by simp [rowsMap]) fun j h1 h2 => by
  have hj : j < p.length := by rwa [rowsMap_length] at h2
  rw [List.getElem_set]
  split
  · rename_i e
    subst e
    simp [rowsMap]
  · rename_i e
    simp [rowsMap, show (j < n ↔ j < n + 1) by omega]
theorem set_same {α : Type} (p : List α) (n : Nat) (x : α) (h : p[n]? = some x) : p.set n x = p := by
  obtain ⟨hn, rfl⟩ := List.getElem?_eq_some_iff.1 h
  exact List.set_getElem_self hn
theorem loc_step {r : List Ins} {cur : Array Value} {n : Nat} {l : Int} (h : ∀ j (hj : j < (preMap f n r).length), HasIns cur (j * 4) (preMap f n r)[j]) (hn : n < r.length) (hs : r.length * 4 ≤ cur.size)
    (hf : f r[n] = ⟨r[n].op, l, r[n].reg, r[n].val⟩) : ∀ j (hj : j < (preMap f (n + 1) r).length), HasIns (cur.setIfInBounds (n * 4 + 1) (.int .i64 l)) (j * 4) (preMap f (n + 1) r)[j] := by
  intro j hj
  have hj' : j < r.length := by rwa [preMap_length] at hj
  have h0 := h j (by rw [preMap_length]; exact hj')
  rw [preMap_get _ _ _ _ hj'] at h0 ⊢
  by_cases e : j = n
  · subst e
    rw [if_neg (by omega)] at h0
    rw [if_pos (by omega), hf]
    obtain ⟨h1, h2, h3, h4⟩ := h0
    refine ⟨?_, ?_, ?_, ?_⟩
    · rw [Array.getElem?_setIfInBounds_ne (by omega)]; exact h1
    · simp [show j * 4 + 1 < cur.size by omega]
    · rw [Array.getElem?_setIfInBounds_ne (by omega)]; exact h3
    · rw [Array.getElem?_setIfInBounds_ne (by omega)]; exact h4
  · have h5 : (if j < n + 1 then f r[j] else r[j]) = if j < n then f r[j] else r[j] := by
      by_cases h6 : j < n
      · rw [if_pos h6, if_pos (by omega)]
      · rw [if_neg h6, if_neg (by omega)]
    rw [h5]
    obtain ⟨h1, h2, h3, h4⟩ := h0
    refine ⟨?_, ?_, ?_, ?_⟩
    · rw [Array.getElem?_setIfInBounds_ne (by omega)]; exact h1
    · rw [Array.getElem?_setIfInBounds_ne (by omega)]; exact h2
    · rw [Array.getElem?_setIfInBounds_ne (by omega)]; exact h3
    · rw [Array.getElem?_setIfInBounds_ne (by omega)]; exact h4
theorem loc_keep {r : List Ins} {n : Nat} (hn : n < r.length) (hf : f r[n] = r[n]) : preMap f (n + 1) r = preMap f n r := List.ext_getElem (by simp [preMap]) fun j h h' => by
  have hj : j < r.length := by rwa [preMap_length] at h
  rw [preMap_get _ _ _ _ hj, preMap_get _ _ _ _ hj]
  by_cases e : j = n
  · subst e; rw [if_pos (by omega), if_neg (by omega), hf]
  · by_cases h6 : j < n
    · rw [if_pos h6, if_pos (by omega)]
    · rw [if_neg h6, if_neg (by omega)]
end
end Go.Proofs.Ytjogdblionfmiaa
