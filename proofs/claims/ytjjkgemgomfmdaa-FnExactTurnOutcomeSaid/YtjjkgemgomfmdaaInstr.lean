/-
  Contracts of the laws' helpers over instructions: toInstr, toInstrS, toInstrSS, szInstrS, szInstrSS, eqInstr, eqInstrS, eqInstrSS. Conditions: the slices read as lists; at most 1048576 elements where a copy is made.
-/
import Derived.Test.YtjjkgemgomfmdaaRows
import Derived.Test.YtjjkgemgomfmdaaBase
import Derived.WalkKit
import Derived.ProofKit
import Derived.Deep.RegionHeld3
import Derived.Deep.DrawnRows
namespace Go.Proofs.Ytjjkgemgomfmdaa
open Go.ChangeShapes Go.WideShapes Go.ChangeAt Go.RowKit
set_option maxRecDepth 100000

theorem eqInstr_any (x y : Ins) (w : World) :
    Calls Try.prog 89 #[x.v, y.v] w fun e w' => e = .returned (.bool (x.eqB y)) ∧ Below w.heap.size w w' := by
  obtain ⟨a, b, c, d⟩ := x
  obtain ⟨a', b', c', d'⟩ := y
  unfold Ins.v Ins.eqB
  go_enter Try.func89, Try.ntmps89
  go_wp2
  all_goals
    go_ret
    refine ⟨?_, ((Below.refl _ _).alloc (Nat.le_refl _) _).alloc (by simp) _⟩
    simp_all

theorem toInstr_any (x : Ins) (w : World) :
    Calls Try.prog 90 #[x.v] w fun e w' => e = .returned x.v ∧ Below w.heap.size w w' := by
  obtain ⟨a, b, c, d⟩ := x
  unfold Ins.v
  go_enter Try.func90, Try.ntmps90
  go_wp2
  refine bodyPost_ret (v := .agg #[.int .i64 a, .int .i64 b, .int .i64 c, .int .i64 d]) (by simp [results, Try.results90, go_sem]) rfl ⟨rfl, ?_⟩
  exact (((Below.refl _ _).alloc (Nat.le_refl _) _).alloc (by simp) _).alloc (by simp; omega) _

theorem Try.infoIns : (Try.prog.info? 66).map (fun i => (i.zero, i.size, i.bytes)) = some (some (.agg #[.int .i64 0, .int .i64 0, .int .i64 0, .int .i64 0]), 4, 32) := by kernel_rfl
theorem Try.infoInsS : (Try.prog.info? 57).map (fun i => (i.zero, i.size, i.bytes)) = some (some (.slice none 0 0), 1, 24) := by kernel_rfl

theorem eqInstrS_any {lo hi lo' hi' : Nat} {u v : Value} {xs ys : List Ins} {w : World} (hu : Sl Ins.cells 4 w lo hi u xs) (hv : Sl Ins.cells 4 w lo' hi' v ys) :
    Calls Try.prog 52 #[u, v] w fun e w' => e = .returned (.bool (decide (xs = ys))) ∧ Below w.heap.size w w' := by
  obtain ⟨A, ca, rfl, hca, hma, hA⟩ := hu.inss
  obtain ⟨B, cb, rfl, hcb, hmb, hB⟩ := hv.inss
  by_cases hl : xs.length = ys.length
  · have hl' : ((xs.length : Int) != (ys.length : Int)) = false := by simp [hl]
    have HL := Lib.hid hl; clear hl
    go_enter Try.func52, Try.ntmps52
    go_wp2
    go_loopw [5] (fun i wr => ∃ k : Nat, k ≤ xs.length ∧ i = .int .i64 k ∧ Below w.heap.size w wr ∧ xs.take k = ys.take k) (fun i _ => xs.length - (intOf i).toNat)
    case atStart => exact ⟨0, Nat.zero_le _, rfl, Below.refl _ _, rfl⟩
    case round =>
      obtain ⟨k, hk, rfl, hb, he⟩ := hrel
      have HE := Lib.hid he; clear he
      by_cases hlt : k < xs.length
      · obtain ⟨ba, oa, rfl, _, _, hba, hA⟩ := hA (by omega)
        have hlt2 : k < ys.length := HL.out ▸ hlt
        obtain ⟨bb, ob, rfl, _, _, hbb, hB⟩ := hB (by omega)
        have ca1 := (hA k hlt).below hb hba
        have cb1 := (hB k hlt2).below hb hbb
        clear hA hB
        have cda : InsAt wr.drew ba (oa + k * 4) xs[k] := ca1
        have cdb : InsAt wr.drew bb (ob + k * 4) ys[k] := cb1
        have hba' : ba < wr.heap.size := Nat.lt_of_lt_of_le hba hb.size
        have hbb' : bb < wr.heap.size := Nat.lt_of_lt_of_le hbb hb.size
        have i1 : (0 : Int) ≤ (k : Int) := by omega
        have i2 : (k : Int) < (xs.length : Int) := by omega
        have i3 : (k : Int) < (ys.length : Int) := by omega
        go_wp2_with fail
        go_region_held3 (fun w' => w'.cell? ⟨ba, oa + k * 4, none⟩ = some (.int .i64 xs[k].op) ∧ w'.cell? ⟨ba, oa + k * 4 + 1, none⟩ = some (.int .i64 xs[k].loc) ∧ w'.cell? ⟨ba, oa + k * 4 + 2, none⟩ = some (.int .i64 xs[k].reg) ∧ w'.cell? ⟨ba, oa + k * 4 + 3, none⟩ = some (.int .i64 xs[k].val) ∧ w'.cell? ⟨bb, ob + k * 4, none⟩ = some (.int .i64 ys[k].op) ∧ w'.cell? ⟨bb, ob + k * 4 + 1, none⟩ = some (.int .i64 ys[k].loc) ∧ w'.cell? ⟨bb, ob + k * 4 + 2, none⟩ = some (.int .i64 ys[k].reg) ∧ w'.cell? ⟨bb, ob + k * 4 + 3, none⟩ = some (.int .i64 ys[k].val))
          (first | exact ⟨ca1.1, ca1.2.1, ca1.2.2.1, ca1.2.2.2, cb1⟩ | exact ⟨(cda.below hq1 hba').1, (cda.below hq1 hba').2.1, (cda.below hq1 hba').2.2.1, (cda.below hq1 hba').2.2.2, cdb.below hq1 hbb'⟩)
          ((go_at_call 89; refine (eqInstr_any xs[k] ys[k] _).mono ?_; rintro e w1 ⟨rfl, hq1⟩))
        have hbw : Below w.heap.size w w1 := hb.drew.trans (hq1.mono hb.size)
        go_wp2
        · have h1 : (!xs[k].eqB ys[k]) = true := by assumption
          have hne : xs ≠ ys := fun e => by subst e; simp [(Ins.eqB_iff xs[k] xs[k]).2 rfl] at h1
          go_ret
          exact ⟨ret_bool (by simp [hne]), hbw⟩
        · have h1 : (!xs[k].eqB ys[k]) = false := by assumption
          have heq : xs[k] = ys[k] := (Ins.eqB_iff _ _).1 (by simpa using h1)
          go_roundw
          case rel => exact ⟨k + 1, by omega, by go_num, hbw, take_eq_step hlt hlt2 HE.out heq⟩
          case measure => simp [intOf]; omega
      · have : k = xs.length := by omega
        subst this
        have hfin := take_all_eq HL.out HE.out
        have HF := Lib.hid hfin; clear hfin
        go_wp2
        go_ret
        exact ⟨ret_bool (by simp [HF.out]), hb⟩
  · have hl' : ((xs.length : Int) != (ys.length : Int)) = true := by simp; omega
    have hne : xs ≠ ys := fun e => hl (by rw [e])
    have HNE := Lib.hid hne; clear hne hl
    go_enter Try.func52, Try.ntmps52
    go_wp2
    go_ret
    exact ⟨ret_bool (by simp [HNE.out]), Below.refl _ _⟩

theorem eqInstrSS_any {lo hi lo' hi' : Nat} {u v : Value} {p q : List (List Ins)} {w : World} (hu : SlSl Ins.cells 4 w lo hi u p) (hv : SlSl Ins.cells 4 w lo' hi' v q) (hhi : hi ≤ w.heap.size) (hhi' : hi' ≤ w.heap.size) :
    Calls Try.prog 19 #[u, v] w fun e w' => e = .returned (.bool (decide (p = q))) ∧ Below w.heap.size w w' := by
  obtain ⟨xs, hxs, hxl, hxr⟩ := hu
  obtain ⟨ys, hys, hyl, hyr⟩ := hv
  obtain ⟨A, ca, rfl, hca, hma, hA⟩ := hxs.vals
  obtain ⟨B, cb, rfl, hcb, hmb, hB⟩ := hys.vals
  clear hxs hys
  by_cases hl : xs.length = ys.length
  · have hl' : ((xs.length : Int) != (ys.length : Int)) = false := by simp [hl]
    have HL := Lib.hid hl; clear hl
    have HX := Lib.hid hxl; clear hxl
    have HY := Lib.hid hyl; clear hyl
    go_enter Try.func19, Try.ntmps19
    go_wp2
    go_loopw [5] (fun i wr => ∃ k : Nat, k ≤ xs.length ∧ i = .int .i64 k ∧ Below w.heap.size w wr ∧ p.take k = q.take k) (fun i _ => xs.length - (intOf i).toNat)
    case atStart => exact ⟨0, Nat.zero_le _, rfl, Below.refl _ _, rfl⟩
    case round =>
      obtain ⟨k, hk, rfl, hb, he⟩ := hrel
      have HE := Lib.hid he; clear he
      by_cases hlt : k < xs.length
      · obtain ⟨ba, oa, rfl, _, _, hba, hA⟩ := hA (by omega)
        have hlt2 : k < ys.length := HL.out ▸ hlt
        have hp : k < p.length := HX.out ▸ hlt
        have hq : k < q.length := HY.out ▸ hlt2
        obtain ⟨bb, ob, rfl, _, _, hbb, hB⟩ := hB (by omega)
        have ca1 := (hb.cell (p := ⟨ba, oa + k, none⟩) hba).trans (hA k hlt)
        have cb1 := (hb.cell (p := ⟨bb, ob + k, none⟩) hbb).trans (hB k hlt2)
        have rx := ((hxr k hlt hp).below hb hhi)
        have ry := ((hyr k hlt2 hq).below hb hhi')
        clear hA hB
        have hba' : ba < wr.heap.size := Nat.lt_of_lt_of_le hba hb.size
        have hbb' : bb < wr.heap.size := Nat.lt_of_lt_of_le hbb hb.size
        have i1 : (0 : Int) ≤ (k : Int) := by omega
        have i2 : (k : Int) < (xs.length : Int) := by omega
        have i3 : (k : Int) < (ys.length : Int) := by omega
        have HRX := Lib.hid rx; clear rx
        have HRY := Lib.hid ry; clear ry
        have HXR := Lib.hid hxr; clear hxr
        have HYR := Lib.hid hyr; clear hyr
        go_wp2_with fail
        go_region_held3 (fun w' => w'.cell? ⟨ba, oa + k, none⟩ = some xs[k] ∧ w'.cell? ⟨bb, ob + k, none⟩ = some ys[k])
          (first | exact ⟨ca1, cb1⟩ | exact ⟨(hq1.cell (p := ⟨ba, oa + k, none⟩) hba').trans ca1, (hq1.cell (p := ⟨bb, ob + k, none⟩) hbb').trans cb1⟩)
          ((go_at_call 52; refine (eqInstrS_any (w := wr.drew) HRX.out HRY.out).mono ?_; rintro e w1 ⟨rfl, hq1⟩))
        have hbw : Below w.heap.size w w1 := hb.drew.trans (hq1.mono hb.size)
        go_wp2
        · have h1 : (!decide (p[k] = q[k])) = true := by assumption
          have hne : p ≠ q := fun e => by subst e; simp at h1
          go_ret
          exact ⟨ret_bool (by simp [hne]), hbw⟩
        · have h1 : (!decide (p[k] = q[k])) = false := by assumption
          have heq : p[k] = q[k] := by simpa using h1
          go_roundw
          case rel => exact ⟨k + 1, by omega, by go_num, hbw, take_eq_step hp hq HE.out heq⟩
          case measure => simp [intOf]; omega
      · have : k = xs.length := by omega
        subst this
        have hfin : p = q := take_all_eq (by rw [← HX.out, ← HY.out, HL.out]) (by rw [← HX.out]; exact HE.out)
        have HF := Lib.hid hfin; clear hfin
        go_wp2
        go_ret
        exact ⟨ret_bool (by simp [HF.out]), hb⟩
  · have hl' : ((xs.length : Int) != (ys.length : Int)) = true := by simp; omega
    have hne : p ≠ q := fun e => hl (by rw [hxl, hyl, e])
    have HNE := Lib.hid hne; clear hne hl hxl hyl
    go_enter Try.func19, Try.ntmps19
    go_wp2
    go_ret
    exact ⟨ret_bool (by simp [HNE.out]), Below.refl _ _⟩
end Go.Proofs.Ytjjkgemgomfmdaa
