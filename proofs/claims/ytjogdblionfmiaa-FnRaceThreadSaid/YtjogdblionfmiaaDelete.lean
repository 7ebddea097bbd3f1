/-
  Contract of slices.Delete at threads, one element taken out of a slice of its own whole block. Conditions: at most 1048576 elements.
-/
import Derived.Test.YtjogdblionfmiaaReorder
import Derived.Deep.RegionLaw
import Derived.Deep.Upon
import Derived.Lib.SliceRun
namespace Go.Proofs.Ytjogdblionfmiaa
open Go.ChangeShapes Go.WideShapes Go.ChangeAt Go.RowKit
set_option maxRecDepth 100000

section
variable {w : World} {g : Nat} {t : TypeId} {cs : Array Value}
theorem Blk.setCells (vs : List Value) : ∀ (o : Nat) (w : World) (cs : Array Value), Blk w g t cs → o + vs.length ≤ cs.size →
    ∃ cs', Blk (w.setCells g o vs) g t cs' ∧ cs'.size = cs.size ∧ (∀ k, k < vs.length → cs'[o + k]? = vs[k]?) ∧ (∀ k, k < o ∨ o + vs.length ≤ k → cs'[k]? = cs[k]?) := by
  induction vs with
  | nil => exact fun o w cs h _ => ⟨cs, h, rfl, fun k hk => absurd hk (by simp), fun k _ => rfl⟩
  | cons v r ih =>
    intro o w cs h hs
    simp only [List.length_cons] at hs
    obtain ⟨cs', h1, h2, h3, h4⟩ := ih (o + 1) (w.setCell ⟨g, o, none⟩ v) _ (h.set_ o v) (by simp; omega)
    refine ⟨cs', h1, by simpa using h2, fun k hk => ?_, fun k hk => ?_⟩
    · match k, hk with
      | 0, _ =>
        rw [h4 (o + 0) (by omega)]
        simp [show o < cs.size by omega]
      | k + 1, hk =>
        have := h3 k (by simpa using hk)
        rw [show o + (k + 1) = o + 1 + k by omega, this]
        simp
    · simp only [List.length_cons] at hk
      rw [h4 k (by omega)]
      rw [Array.getElem?_setIfInBounds_ne (by omega)]
theorem Fr.setCells {lo hi : Nat} {a : World} (hg : lo ≤ g ∧ g < hi) (vs : List Value) : ∀ (o : Nat) (w : World), Fr lo hi a w → Fr lo hi a (w.setCells g o vs) := by
  induction vs with
  | nil => exact fun o w h => h
  | cons v r ih => exact fun o w h => ih (o + 1) _ (h.setCell hg v)
end

theorem zeroS (w : World) : (zeroValue 78).run Try.prog w = .ok (.slice none 0 0) w := by kernel_rfl

set_option maxHeartbeats 2000000 in
theorem Delete_any {g n i : Nat} {cs : Array Value} {w : World} (hB : Blk w g 78 cs) (hcs : cs.size = n) (hi : i < n) (hn : n ≤ 1048576) (hone : ∀ u ∈ cs.toList, u.oneCell' = true) :
    Calls Try.prog 99 #[.slice (some ⟨g, 0, none⟩) n n, .int .i64 (i : Int), .int .i64 ((i : Int) + 1)] w fun e w' => e = .returned (.slice (some ⟨g, 0, none⟩) (n - 1) n) ∧
      (∃ cs', Blk w' g 78 cs' ∧ cs'.size = n ∧ ∀ k, k < n - 1 → cs'[k]? = cs[if k < i then k else k + 1]?) ∧ Fr g (g + 1) w w' := by
  obtain ⟨i0, hi0, hz0, hz1, hz2⟩ := info_parts Try.infoInsS
  obtain ⟨news, hnews⟩ : ∃ news, news = cs.toList.drop (i + 1) := ⟨_, rfl⟩
  have hlen : news.length = n - (i + 1) := by rw [hnews]; simp [hcs]
  have hget : ∀ t, t < n - (i + 1) → news[t]? = cs[i + 1 + t]? := by
    intro t ht
    rw [hnews, List.getElem?_drop, Array.getElem?_toList]
  obtain ⟨A, hA, hsrc⟩ : ∃ A : Addr, (if n = i + 1 then some (⟨g, 0, none⟩ : Addr) else some ⟨g, i + 1, none⟩) = some A ∧ Hid (∀ t u, news[t]? = some u → w.drew.cell? (A.add t) = some u) := by
    by_cases h : n = i + 1
    · refine ⟨⟨g, 0, none⟩, by simp [h], fun t u hu => ?_⟩
      have h0 : news.length = 0 := by rw [hlen]; omega
      rw [List.length_eq_zero_iff.1 h0] at hu
      simp at hu
    · refine ⟨⟨g, i + 1, none⟩, by simp [h], fun t u hu => ?_⟩
      have ht : t < n - (i + 1) := by
        have := (List.getElem?_eq_some_iff.1 hu).1
        rwa [hlen] at this
      rw [hget t ht] at hu
      rw [add_plain', hB.drew.cell]
      exact hu
  have s1 : Hid (news.length = (n - (i + 1)) * 1) := by rw [Nat.mul_one]; exact hlen
  have s2 : Hid (∀ u ∈ news, u.oneCell' = true) := by
    intro u hu
    rw [hnews] at hu
    exact hone u (List.mem_of_mem_drop hu)
  have s3 : Hid (∀ t, t < news.length → (w.drew.cell? ⟨g, 0 + i * 1 + t, none⟩).isSome = true ∧ w.drew.frozen? ⟨g, 0 + i * 1 + t, none⟩ = false) := by
    intro t ht
    rw [hlen] at ht
    rw [hB.drew.cell, Array.getElem?_eq_getElem (by omega)]
    exact ⟨rfl, hB.drew.frozen _⟩
  obtain ⟨W1, hW1⟩ : ∃ W1, W1 = w.drew.setCells g (0 + i * 1) news := ⟨_, rfl⟩
  obtain ⟨c1, hB1, hs1, hc1, hc2⟩ := hB.drew.setCells news (0 + i * 1) _ _ (by omega)
  rw [← hW1] at hB1
  have F1 : Fr g (g + 1) w W1 := by rw [hW1]; exact Fr.setCells ⟨Nat.le_refl _, by omega⟩ _ _ _ (Fr.refl _ _ _).drew
  have hcl : ∀ ty, (Builtin.clear_ #[23] ty #[.slice (some ⟨g, i + (n - (i + 1)), none⟩) (n - (i + (n - (i + 1)))) (n - (i + (n - (i + 1))))]).run Try.prog W1 = .ok (.tuple #[]) (W1.setCells g (i + (n - (i + 1))) (List.replicate (n - (i + (n - (i + 1)))) (.slice none 0 0))) :=
    fun ty => Lib.run_clear_slice W1 _ _ ty _ Try.underlying23 zeroS rfl rfl g (i + (n - (i + 1))) _ _ (by omega) (fun t ht => by rw [hB1.cell, Array.getElem?_eq_getElem (by omega)]; rfl) (fun t ht => hB1.frozen _)
  obtain ⟨c2, hB2, hs2, hd1, hd2⟩ := hB1.setCells (List.replicate (n - (i + (n - (i + 1)))) (.slice none 0 0)) (i + (n - (i + 1))) _ _ (by simp; omega)
  have F2 : Fr g (g + 1) w (W1.setCells g (i + (n - (i + 1))) (List.replicate (n - (i + (n - (i + 1)))) (.slice none 0 0))) := Fr.setCells ⟨Nat.le_refl _, by omega⟩ _ _ _ F1
  have hfin : ∀ k, k < n - 1 → c2[k]? = cs[if k < i then k else k + 1]? := by
    intro k hk
    rw [hd2 k (by omega)]
    split
    · exact hc2 k (by omega)
    · have h1 := hc1 (k - i) (by omega)
      rw [show 0 + i * 1 + (k - i) = k by omega, hget (k - i) (by omega), show i + 1 + (k - i) = k + 1 by omega] at h1
      exact h1
  have HF := Lib.hid hfin
  have HB2 := Lib.hid hB2
  have HS2 := Lib.hid (hs2.trans (hs1.trans hcs))
  have HF2 := Lib.hid F2
  have hW : Hid (W1 = w.drew.setCells g (0 + i * 1) news) := hW1
  have i1 : ¬ (i : Int) = (i : Int) + 1 := by omega
  have i2 : (0 : Int) ≤ (i : Int) := by omega
  have i3 : (i : Int) ≤ (n : Int) := by omega
  have i4 : (0 : Int) ≤ (i : Int) + 1 := by omega
  have i5 : (i : Int) + 1 ≤ (n : Int) := by omega
  have i6 : (i : Int) ≤ (i : Int) + 1 := by omega
  have i7 : ((i : Int) + 1).toNat = i + 1 := by omega
  clear hW1 hnews hlen hget hB hcs hone hB1 hs1 hc1 hc2 F1 hB2 hs2 hd1 hd2 F2 hfin
  go_enter Try.func99, Try.ntmps99
  go_wp2_with fail
  go_region_law (refine step_append_room rfl (.tmp 22) (.tmp 25) 23 rfl 78 i0 1 Try.underlying23 hi0 hz1 g 0 i n (by simp [Act.eval, Act.put]) A (n - (i + 1)) (n - (i + 1)) news (by simp [Act.eval, Act.put]) s1.out hsrc.out s2.out (by omega) s3.out ?_; rw [← hW.out])
  go_wp2_with (simp only [hcl])
  go_ret
  exact ⟨by rw [show n - 1 = i + (n - (i + 1)) by omega]; rfl, ⟨c2, HB2.out, HS2.out, HF.out⟩, HF2.out⟩
end Go.Proofs.Ytjogdblionfmiaa
