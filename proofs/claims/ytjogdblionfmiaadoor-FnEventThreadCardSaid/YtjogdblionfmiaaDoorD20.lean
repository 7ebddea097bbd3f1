/-
  FnEventThread's plain function is true at every code. Plain theorems. No conditions.
-/
import Derived.Test.YtjogdblionfmiaaDoorDe
import Derived.Test.YtjogdblionfmiaaDoorDp
import Derived.Test.YtjogdblionfmiaaDoorS20d
namespace Go.Proofs.YtjogdblionfmiaaDoor
open Go.RowKit
set_option maxRecDepth 100000
theorem drawE {b : List Int} (hb : Bts b) : Ret (F_spec_DrawEventText b) fun v => Sm v.1 := by
  unfold F_spec_DrawEventText
  exact (open_ret hb).bind fun r h => (l1Draw_ret h.mk' (by omega) parse_ok).bind fun v ⟨a1, a2⟩ => (l1Mutate_ret a1.mk' (by omega) a2).bind fun u ⟨b1, b2⟩ => (num_ret b1.mk' (by omega) _ (by simp)).bind fun x _ => .pure b2
theorem law20 {b : List Int} (hb : Bts b) : F_laws_FnEventThread b = some true := by
  refine Ret.eq ?_
  unfold F_laws_FnEventThread
  refine .bifD (fun _ => .pure rfl) fun _ => (drawE hb).bind fun v hp => ?_
  obtain ⟨p, i⟩ := v
  simp only at hp ⊢
  have hsz := hp.sz
  obtain ⟨s, e1, e2, e3⟩ := eventText_ret hsz i
  have e4 := (eventsOf_ret hsz).1
  refine (Ret.of (P := (· = s)) e1 rfl).bind fun v3 h3 => (Ret.of (P := (· = bif validB (p.map fun r => r.map toIns) then evs p else [])) e4 rfl).bind fun v4 h4 => (Ret.of (P := (· = s)) e2 rfl).bind fun v5 h5 => ?_
  subst h3 h5
  refine Ret.bind (P := (· = decide (v5 = (⟨#[]⟩ : ByteArray)))) (.bif (fun h => by simp at h) fun _ => .pure rfl) fun s6 h6 => ?_
  have fin : Ret ((F_spec_EventText p i).bind fun v12 => some (decide (v5 = v12))) (· = true) := (Ret.of (P := (· = v5)) e2 rfl).bind fun u hu => .pure (by simp [hu])
  by_cases hE : v5 = (⟨#[]⟩ : ByteArray)
  · rw [decide_eq_true hE] at h6
    subst h6
    exact Ret.bind (P := (· = true)) (.bif (fun _ => .pure rfl) fun h => by cases h) fun s8 h8 => by subst h8; exact .bif (fun _ => fin) fun h => by cases h
  · rw [decide_eq_false hE] at h6
    subst h6
    rcases e3 with ⟨h, _⟩ | ⟨hv, h0, hlt, ht⟩
    · exact absurd h hE
    rw [hv] at h4
    simp only [cond_true] at h4
    subst h4
    refine Ret.bind (P := (· = decide (((evs p).getD i.toNat default).Thread < 0))) (.bif (fun h => by cases h) fun _ => .gdD ⟨h0, hlt⟩ (.pure rfl)) fun s8 h8 => ?_
    subst h8
    refine .bifD (fun _ => fin) fun hn => ?_
    rcases ht with ⟨h, _⟩ | ⟨t, d, x, t3, et, rfl, hok, i0, i1, i2, iv, ib⟩
    · exact absurd (by omega) hn
    refine .gdD ⟨h0, hlt⟩ (.gdD ⟨by omega, i2⟩ (.gdD ⟨i0, i1⟩ ?_))
    refine Ret.bind (P := (· = x)) ?_ fun v16 hx => ?_
    · unfold F_impl_FormatInstr
      refine (Ret.of (P := (· = true)) iv rfl).bind fun b hb => ?_
      subst hb
      exact .bif (fun h => by cases h) fun _ => (Ret.of (P := (· = x)) ib rfl).bind fun u hu => .pure hu
    · subst hx
      simp only [txtOk, Bool.and_eq_true, decide_eq_true_eq] at hok
      obtain ⟨_, _, c1, c2, c3, _⟩ := hok
      refine .gdI (by omega) (Ret.bind (P := (· = true)) (.bif (fun _ => ?_) fun h => ?_) fun s hs => .pure hs)
      · refine .gdD ⟨by decide, by rw [c1]; omega, Int.le_refl _⟩ (.pure ?_)
        exact decide_eq_true c2
      · rw [c1] at h
        simp at h
end Go.Proofs.YtjogdblionfmiaaDoor
