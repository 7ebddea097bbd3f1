/-
  The program's code computes the functions over plain values; printed by lift.py. No conditions.
-/
import Derived.Test.YtjogdblionfmiaaSRd
import Derived.Test.YtjogdblionfmiaaSf
import Derived.Test.YtjogdblionfmiaaBrV
import Derived.Test.YtjogdblionfmiaaSQ1
namespace Go.Proofs.Ytjogdblionfmiaa
open Go.RowKit
set_option maxRecDepth 100000
theorem F_spec_l1Tests_P  {q : (List ByteArray)} (h : F_spec_l1Tests  = some q) : PCall Try.prog 121 [] (eL cS q) := by
  refine PCall.mkT Try.func121 rfl (by kernel_rfl) rfl (by kernel_rfl) (e0 := envOf []) weak_nil ?_
  refine T.seq ?_
  refine T.region ?_
  refine oN (EvN.asg (.nil) rfl) ?_
  refine TO.nil ?_
  refine T.seq ?_
  refine T.region ?_
  refine oN (EvN.mkF (c := cS) ([(⟨#[120, 61, 49, 59, 97, 61, 121, 124, 121, 61, 49, 59, 97, 61, 120]⟩ : ByteArray), (⟨#[120, 61, 49, 59, 102, 101, 110, 99, 101, 59, 97, 61, 121, 124, 121, 61, 49, 59, 102, 101, 110, 99, 101, 59, 97, 61, 120]⟩ : ByteArray), (⟨#[120, 61, 49, 59, 121, 61, 49, 124, 97, 61, 121, 59, 98, 61, 120]⟩ : ByteArray), (⟨#[120, 61, 49, 59, 121, 61, 49, 124, 97, 61, 121, 59, 102, 101, 110, 99, 101, 59, 98, 61, 120]⟩ : ByteArray), (⟨#[120, 61, 49, 59, 102, 101, 110, 99, 101, 59, 121, 61, 49, 124, 97, 61, 121, 59, 98, 61, 120]⟩ : ByteArray), (⟨#[97, 61, 120, 59, 121, 61, 49, 124, 97, 61, 121, 59, 120, 61, 49]⟩ : ByteArray), (⟨#[97, 61, 120, 59, 121, 61, 97, 124, 97, 61, 121, 59, 120, 61, 97]⟩ : ByteArray), (⟨#[120, 61, 49, 124, 120, 61, 50, 124, 97, 61, 120, 59, 98, 61, 120]⟩ : ByteArray), (⟨#[120, 61, 49, 124, 121, 61, 49, 124, 97, 61, 120, 59, 98, 61, 121, 124, 97, 61, 121, 59, 98, 61, 120]⟩ : ByteArray), (⟨#[120, 61, 49, 124, 97, 61, 120, 59, 121, 61, 49, 124, 97, 61, 121, 59, 98, 61, 120]⟩ : ByteArray), (⟨#[120, 61, 49, 124, 121, 61, 49, 124, 97, 61, 120, 59, 98, 61, 121]⟩ : ByteArray), (⟨#[97, 61, 120, 58, 49, 124, 97, 61, 120, 58, 50, 124, 120, 61, 51]⟩ : ByteArray), (⟨#[120, 61, 49, 59, 97, 61, 120, 59, 98, 61, 121, 124, 121, 61, 49, 59, 97, 61, 121, 59, 98, 61, 120]⟩ : ByteArray), (⟨#[120, 61, 50, 59, 121, 61, 49, 124, 121, 61, 50, 59, 120, 61, 49]⟩ : ByteArray), (⟨#[97, 61, 120, 58, 49, 59, 98, 61, 121, 124, 97, 61, 121, 58, 49, 59, 98, 61, 120]⟩ : ByteArray), (⟨#[120, 61, 49, 59, 120, 61, 50, 124, 97, 61, 120, 59, 98, 61, 120]⟩ : ByteArray), (⟨#[120, 61, 49, 59, 121, 61, 49, 59, 97, 61, 122, 124, 122, 61, 49, 59, 97, 61, 121, 59, 98, 61, 120]⟩ : ByteArray), (⟨#[97, 61, 120, 58, 49, 124, 98, 61, 120, 58, 49]⟩ : ByteArray), (⟨#[102, 101, 110, 99, 101]⟩ : ByteArray), (⟨#[]⟩ : ByteArray), (⟨#[120, 61, 49, 59, 97, 61, 121, 124, 121, 61, 49, 59, 102, 101, 110, 99, 101, 59, 97, 61, 120]⟩ : ByteArray)] : List ByteArray) [[St (⟨#[120, 61, 49, 59, 97, 61, 121, 124, 121, 61, 49, 59, 97, 61, 120]⟩ : ByteArray)], [St (⟨#[120, 61, 49, 59, 102, 101, 110, 99, 101, 59, 97, 61, 121, 124, 121, 61, 49, 59, 102, 101, 110, 99, 101, 59, 97, 61, 120]⟩ : ByteArray)], [St (⟨#[120, 61, 49, 59, 121, 61, 49, 124, 97, 61, 121, 59, 98, 61, 120]⟩ : ByteArray)], [St (⟨#[120, 61, 49, 59, 121, 61, 49, 124, 97, 61, 121, 59, 102, 101, 110, 99, 101, 59, 98, 61, 120]⟩ : ByteArray)], [St (⟨#[120, 61, 49, 59, 102, 101, 110, 99, 101, 59, 121, 61, 49, 124, 97, 61, 121, 59, 98, 61, 120]⟩ : ByteArray)], [St (⟨#[97, 61, 120, 59, 121, 61, 49, 124, 97, 61, 121, 59, 120, 61, 49]⟩ : ByteArray)], [St (⟨#[97, 61, 120, 59, 121, 61, 97, 124, 97, 61, 121, 59, 120, 61, 97]⟩ : ByteArray)], [St (⟨#[120, 61, 49, 124, 120, 61, 50, 124, 97, 61, 120, 59, 98, 61, 120]⟩ : ByteArray)], [St (⟨#[120, 61, 49, 124, 121, 61, 49, 124, 97, 61, 120, 59, 98, 61, 121, 124, 97, 61, 121, 59, 98, 61, 120]⟩ : ByteArray)], [St (⟨#[120, 61, 49, 124, 97, 61, 120, 59, 121, 61, 49, 124, 97, 61, 121, 59, 98, 61, 120]⟩ : ByteArray)], [St (⟨#[120, 61, 49, 124, 121, 61, 49, 124, 97, 61, 120, 59, 98, 61, 121]⟩ : ByteArray)], [St (⟨#[97, 61, 120, 58, 49, 124, 97, 61, 120, 58, 50, 124, 120, 61, 51]⟩ : ByteArray)], [St (⟨#[120, 61, 49, 59, 97, 61, 120, 59, 98, 61, 121, 124, 121, 61, 49, 59, 97, 61, 121, 59, 98, 61, 120]⟩ : ByteArray)], [St (⟨#[120, 61, 50, 59, 121, 61, 49, 124, 121, 61, 50, 59, 120, 61, 49]⟩ : ByteArray)], [St (⟨#[97, 61, 120, 58, 49, 59, 98, 61, 121, 124, 97, 61, 121, 58, 49, 59, 98, 61, 120]⟩ : ByteArray)], [St (⟨#[120, 61, 49, 59, 120, 61, 50, 124, 97, 61, 120, 59, 98, 61, 120]⟩ : ByteArray)], [St (⟨#[120, 61, 49, 59, 121, 61, 49, 59, 97, 61, 122, 124, 122, 61, 49, 59, 97, 61, 121, 59, 98, 61, 120]⟩ : ByteArray)], [St (⟨#[97, 61, 120, 58, 49, 124, 98, 61, 120, 58, 49]⟩ : ByteArray)], [St (⟨#[102, 101, 110, 99, 101]⟩ : ByteArray)], [St (⟨#[]⟩ : ByteArray)], [St (⟨#[120, 61, 49, 59, 97, 61, 121, 124, 121, 61, 49, 59, 102, 101, 110, 99, 101, 59, 97, 61, 120]⟩ : ByteArray)]] sl127 rfl rfl rfl (fun _ => rfl) (fun _ => rfl) rfl) ?_
  refine oN (EvN.asg (eL cS ([(⟨#[120, 61, 49, 59, 97, 61, 121, 124, 121, 61, 49, 59, 97, 61, 120]⟩ : ByteArray), (⟨#[120, 61, 49, 59, 102, 101, 110, 99, 101, 59, 97, 61, 121, 124, 121, 61, 49, 59, 102, 101, 110, 99, 101, 59, 97, 61, 120]⟩ : ByteArray), (⟨#[120, 61, 49, 59, 121, 61, 49, 124, 97, 61, 121, 59, 98, 61, 120]⟩ : ByteArray), (⟨#[120, 61, 49, 59, 121, 61, 49, 124, 97, 61, 121, 59, 102, 101, 110, 99, 101, 59, 98, 61, 120]⟩ : ByteArray), (⟨#[120, 61, 49, 59, 102, 101, 110, 99, 101, 59, 121, 61, 49, 124, 97, 61, 121, 59, 98, 61, 120]⟩ : ByteArray), (⟨#[97, 61, 120, 59, 121, 61, 49, 124, 97, 61, 121, 59, 120, 61, 49]⟩ : ByteArray), (⟨#[97, 61, 120, 59, 121, 61, 97, 124, 97, 61, 121, 59, 120, 61, 97]⟩ : ByteArray), (⟨#[120, 61, 49, 124, 120, 61, 50, 124, 97, 61, 120, 59, 98, 61, 120]⟩ : ByteArray), (⟨#[120, 61, 49, 124, 121, 61, 49, 124, 97, 61, 120, 59, 98, 61, 121, 124, 97, 61, 121, 59, 98, 61, 120]⟩ : ByteArray), (⟨#[120, 61, 49, 124, 97, 61, 120, 59, 121, 61, 49, 124, 97, 61, 121, 59, 98, 61, 120]⟩ : ByteArray), (⟨#[120, 61, 49, 124, 121, 61, 49, 124, 97, 61, 120, 59, 98, 61, 121]⟩ : ByteArray), (⟨#[97, 61, 120, 58, 49, 124, 97, 61, 120, 58, 50, 124, 120, 61, 51]⟩ : ByteArray), (⟨#[120, 61, 49, 59, 97, 61, 120, 59, 98, 61, 121, 124, 121, 61, 49, 59, 97, 61, 121, 59, 98, 61, 120]⟩ : ByteArray), (⟨#[120, 61, 50, 59, 121, 61, 49, 124, 121, 61, 50, 59, 120, 61, 49]⟩ : ByteArray), (⟨#[97, 61, 120, 58, 49, 59, 98, 61, 121, 124, 97, 61, 121, 58, 49, 59, 98, 61, 120]⟩ : ByteArray), (⟨#[120, 61, 49, 59, 120, 61, 50, 124, 97, 61, 120, 59, 98, 61, 120]⟩ : ByteArray), (⟨#[120, 61, 49, 59, 121, 61, 49, 59, 97, 61, 122, 124, 122, 61, 49, 59, 97, 61, 121, 59, 98, 61, 120]⟩ : ByteArray), (⟨#[97, 61, 120, 58, 49, 124, 98, 61, 120, 58, 49]⟩ : ByteArray), (⟨#[102, 101, 110, 99, 101]⟩ : ByteArray), (⟨#[]⟩ : ByteArray), (⟨#[120, 61, 49, 59, 97, 61, 121, 124, 121, 61, 49, 59, 102, 101, 110, 99, 101, 59, 97, 61, 120]⟩ : ByteArray)] : List ByteArray)) rfl) ?_
  refine TO.nil ?_
  refine T.ret ?_
  obtain rfl := Option.some.inj h
  repeat first | refine retS ?_ | refine retB ?_
  exact Fin.ret (vs := [eL cS ([(⟨#[120, 61, 49, 59, 97, 61, 121, 124, 121, 61, 49, 59, 97, 61, 120]⟩ : ByteArray), (⟨#[120, 61, 49, 59, 102, 101, 110, 99, 101, 59, 97, 61, 121, 124, 121, 61, 49, 59, 102, 101, 110, 99, 101, 59, 97, 61, 120]⟩ : ByteArray), (⟨#[120, 61, 49, 59, 121, 61, 49, 124, 97, 61, 121, 59, 98, 61, 120]⟩ : ByteArray), (⟨#[120, 61, 49, 59, 121, 61, 49, 124, 97, 61, 121, 59, 102, 101, 110, 99, 101, 59, 98, 61, 120]⟩ : ByteArray), (⟨#[120, 61, 49, 59, 102, 101, 110, 99, 101, 59, 121, 61, 49, 124, 97, 61, 121, 59, 98, 61, 120]⟩ : ByteArray), (⟨#[97, 61, 120, 59, 121, 61, 49, 124, 97, 61, 121, 59, 120, 61, 49]⟩ : ByteArray), (⟨#[97, 61, 120, 59, 121, 61, 97, 124, 97, 61, 121, 59, 120, 61, 97]⟩ : ByteArray), (⟨#[120, 61, 49, 124, 120, 61, 50, 124, 97, 61, 120, 59, 98, 61, 120]⟩ : ByteArray), (⟨#[120, 61, 49, 124, 121, 61, 49, 124, 97, 61, 120, 59, 98, 61, 121, 124, 97, 61, 121, 59, 98, 61, 120]⟩ : ByteArray), (⟨#[120, 61, 49, 124, 97, 61, 120, 59, 121, 61, 49, 124, 97, 61, 121, 59, 98, 61, 120]⟩ : ByteArray), (⟨#[120, 61, 49, 124, 121, 61, 49, 124, 97, 61, 120, 59, 98, 61, 121]⟩ : ByteArray), (⟨#[97, 61, 120, 58, 49, 124, 97, 61, 120, 58, 50, 124, 120, 61, 51]⟩ : ByteArray), (⟨#[120, 61, 49, 59, 97, 61, 120, 59, 98, 61, 121, 124, 121, 61, 49, 59, 97, 61, 121, 59, 98, 61, 120]⟩ : ByteArray), (⟨#[120, 61, 50, 59, 121, 61, 49, 124, 121, 61, 50, 59, 120, 61, 49]⟩ : ByteArray), (⟨#[97, 61, 120, 58, 49, 59, 98, 61, 121, 124, 97, 61, 121, 58, 49, 59, 98, 61, 120]⟩ : ByteArray), (⟨#[120, 61, 49, 59, 120, 61, 50, 124, 97, 61, 120, 59, 98, 61, 120]⟩ : ByteArray), (⟨#[120, 61, 49, 59, 121, 61, 49, 59, 97, 61, 122, 124, 122, 61, 49, 59, 97, 61, 121, 59, 98, 61, 120]⟩ : ByteArray), (⟨#[97, 61, 120, 58, 49, 124, 98, 61, 120, 58, 49]⟩ : ByteArray), (⟨#[102, 101, 110, 99, 101]⟩ : ByteArray), (⟨#[]⟩ : ByteArray), (⟨#[120, 61, 49, 59, 97, 61, 121, 124, 121, 61, 49, 59, 102, 101, 110, 99, 101, 59, 97, 61, 120]⟩ : ByteArray)] : List ByteArray)]) (.cons (.tmp rfl) .nil) (.of_isF 9 _ rfl)

theorem F_spec_l17Cut_P (s : ByteArray) (c : Int) {q : (List ByteArray)} (h : F_spec_l17Cut s c = some q) : PCall Try.prog 180 [St s, Y c] (eL cS q) := by
  refine PCall.mkT Try.func180 rfl (by kernel_rfl) rfl (by kernel_rfl) (e0 := envOf [(0, St s), (1, Y c)]) (weak_cons rfl (weak_cons rfl weak_nil)) ?_
  refine T.seq ?_
  refine T.region ?_
  refine oN (EvN.asg (.nil) rfl) ?_
  refine TO.nil ?_
  refine T.seq ?_
  refine T.region ?_
  refine oA (EvA.mkO (c := cS) ([] : List ByteArray) [] sl127 rfl rfl rfl (fun _ => rfl) rfl rfl) ?_
  refine oN (EvN.asg (hS false 0 0 1 (([] : List ByteArray).length)) rfl) ?_
  refine TO.nil ?_
  refine T.seq ?_
  refine T.region ?_
  refine oN (EvN.asg (I (0 : Int)) rfl) ?_
  refine TO.nil ?_
  obtain ⟨s1, h, ks1⟩ := bindL h
  refine T.joinF (G := Nat) (fun gh => True) (fun gh => [(5, hS false 0 gh 1 s1.length)]) (fun gh => [bE false gh 1 9 (s1.map cS)]) (fun u17 hg => ?_) ?_
  · clear h
    have h := ks1
    clear ks1
    refine T.seq ?_
    refine T.region ?_
    refine oN (EvN.mv (hS false 0 u17 1 s1.length) rfl) ?_
    refine oN (EvN.asg (hS false 0 u17 1 s1.length) rfl) ?_
    refine TO.nil ?_
    refine T.ret ?_
    obtain rfl := Option.some.inj h
    repeat first | refine retS ?_ | refine retB ?_
    exact Fin.ret (vs := [hS false 0 u17 1 s1.length]) (.cons (.tmp rfl) .nil) (Fz.own (g := false) (ver := u17) (l := s1) rfl rfl rfl nofun (fun _ => rfl))
  · clear ks1
    refine T.seq ?_
    refine T.region ?_
    refine oN (EvN.asg (I (0 : Int)) rfl) ?_
    refine TO.nil ?_
    refine T.block ?_
    refine T.loop (S := (List ByteArray) × Int × Int) (G := Nat) (F_spec_l17Cut_L4 s c) (fun s3 gh => True) (fun s3 gh => [(7, I s3.2.1), (6, I s3.2.2), (5, hS false 0 gh 1 s3.1.length), (0, St s), (1, Y c)]) (fun s3 gh => [bE false gh 1 9 (s3.1.map cS)]) (s0 := (([] : List ByteArray), (0 : Int), (0 : Int))) 0 h trivial (cutW rfl (weak_cons rfl (weak_cons rfl (weak_cons rfl (weak_cons rfl (weak_cons rfl weak_nil)))))) (fun s3 u5 ws3 h hg => ?_)
    refine T.seq ?_
    refine T.seq ?_
    refine T.region ?_
    refine oN (EvN.mv (I s3.2.1) rfl) ?_
    refine oN (EvN.mv (St s) rfl) ?_
    refine oN (EvN.lenst Try.underlying9 rfl) ?_
    refine oN (EvN.ile rfl rfl) ?_
    refine TO.nil ?_
    refine T.cond rfl (fun q6 => ?_) (fun q6 => ?_)
    · replace h := condT q6 h
      refine T.skip ?_
      obtain ⟨s7, h, ks7⟩ := bindL h
      refine T.joinF (G := Nat) (fun gh => True) (fun gh => [(6, I s7.2), (5, hS false 0 gh 1 s7.1.length), (7, I s3.2.1), (0, St s), (1, Y c)]) (fun gh => [bE false gh 1 9 (s7.1.map cS)]) (fun u15 hg => ?_) ?_
      · clear h
        have h := ks7
        clear ks7
        refine T.region ?_
        refine oN (EvN.mv (I s3.2.1) rfl) ?_
        obtain ⟨g16, h⟩ := gdW h
        refine oN (EvN.add rfl rfl g16) ?_
        refine oN (EvN.asg (I (s3.2.1 + (1 : Int))) rfl) ?_
        refine TO.nil ?_
        obtain rfl := Option.some.inj h
        exact ⟨(s7.1, (s3.2.1 + (1 : Int)), s7.2), u15, rfl, trivial, cutW rfl (weak_cons rfl (weak_cons rfl (weak_cons rfl (weak_cons rfl (weak_cons rfl weak_nil)))))⟩
      · clear ks7
        refine T.block ?_
        refine T.seq ?_
        refine T.region ?_
        refine oN (EvN.mv (I s3.2.1) rfl) ?_
        refine oN (EvN.mv (St s) rfl) ?_
        refine oN (EvN.lenst Try.underlying9 rfl) ?_
        refine oN (EvN.ieq rfl rfl) ?_
        refine oN (EvN.mv (Bo (s3.2.1 == (s.size : Int))) rfl) ?_
        obtain ⟨s8, h, ks8⟩ := bindL h
        refine TO.joinF (G := Unit) 6 (fun _ => True) (fun _ => [(25, Bo s8), (7, I s3.2.1), (6, I s3.2.2), (5, hS false 0 u5 1 s3.1.length), (0, St s), (1, Y c)]) (fun _ => [bE false u5 1 9 (s3.1.map cS)]) ?_ (fun js8 => ?_)
        rotate_left
        · clear ks8
          rcases bifL h with ⟨q9, h⟩ | ⟨q9, h⟩
          · refine gS rfl q9 ?_
            refine gS rfl q9 ?_
            refine gS rfl q9 ?_
            refine gS rfl q9 ?_
            refine gS rfl q9 ?_
            refine oN (EvN.pickT rfl q9 (Bo true) rfl) ?_
            obtain rfl := Option.some.inj h
            exact js8 _ _ ⟨(), trivial, cutW rfl (weak_cons rfl (weak_cons rfl (weak_cons rfl (weak_cons rfl (weak_cons rfl (weak_cons rfl weak_nil))))))⟩
          · refine gN rfl q9 (EvN.mv (St s) rfl) ?_
            refine gN rfl q9 (EvN.mv (I s3.2.1) rfl) ?_
            obtain ⟨g10, h⟩ := gdD h
            refine gN rfl q9 (EvN.ixst Try.underlying9 rfl rfl g10) ?_
            refine gN rfl q9 (EvN.mv (Y c) rfl) ?_
            refine gN rfl q9 (EvN.ieq rfl rfl) ?_
            refine oN (EvN.pickF rfl q9 (Bo (((s.data.getD s3.2.1.toNat 0).toNat : Int) == c)) rfl) ?_
            obtain rfl := Option.some.inj h
            exact js8 _ _ ⟨(), trivial, cutW rfl (weak_cons rfl (weak_cons rfl (weak_cons rfl (weak_cons rfl (weak_cons rfl (weak_cons rfl weak_nil))))))⟩
        · intro _ _
          replace h := ks8
          clear ks8
          refine TO.nil ?_
          refine T.cond rfl (fun q11 => ?_) (fun q11 => ?_)
          · replace h := condT q11 h
            refine T.seq ?_
            refine T.region ?_
            refine oN (EvN.mv (hS false 0 u5 1 s3.1.length) rfl) ?_
            refine oN (EvN.mv (St s) rfl) ?_
            refine oN (EvN.mv (I s3.2.2) rfl) ?_
            refine oN (EvN.mv (I s3.2.1) rfl) ?_
            obtain ⟨g12, h⟩ := gdD h
            refine oN (EvN.slst Try.underlying9 rfl (.yes rfl) (.yes rfl) g12) ?_
            refine oN (EvN.mkF (c := cS) ([(s.extract s3.2.2.toNat s3.2.1.toNat)] : List ByteArray) [[St (s.extract s3.2.2.toNat s3.2.1.toNat)]] sl127 rfl rfl rfl (fun _ => rfl) (fun _ => rfl) rfl) ?_
            obtain ⟨g13, h⟩ := gdL h
            refine oA (EvA.app1 (g := false) (l := s3.1) (s.extract s3.2.2.toNat s3.2.1.toNat) sl127 (by kernel_rfl) rfl rfl rfl nofun (SrcOk.fz (l := ([(s.extract s3.2.2.toNat s3.2.1.toNat)] : List ByteArray)) rfl (fun _ => rfl)) g13) ?_
            refine oN (EvN.asg (hS false 0 (u5 + 1) 1 ((s3.1 ++ [(s.extract s3.2.2.toNat s3.2.1.toNat)]).length)) rfl) ?_
            refine TO.nil ?_
            refine T.clean (H0 := [bE false (u5 + 1) 1 9 ((s3.1 ++ [(s.extract s3.2.2.toNat s3.2.1.toNat)]).map cS)]) (e0 := envOf [(5, hS false 0 (u5 + 1) 1 ((s3.1 ++ [(s.extract s3.2.2.toNat s3.2.1.toNat)]).length)), (7, I s3.2.1), (0, St s), (1, Y c)]) rfl (weak_cons rfl (weak_cons rfl (weak_cons rfl (weak_cons rfl weak_nil)))) ?_
            refine T.region ?_
            refine oN (EvN.mv (I s3.2.1) rfl) ?_
            obtain ⟨g14, h⟩ := gdW h
            refine oN (EvN.add rfl rfl g14) ?_
            refine oN (EvN.asg (I (s3.2.1 + (1 : Int))) rfl) ?_
            refine TO.nil ?_
            obtain rfl := Option.some.inj h
            exact ⟨u5 + 1, trivial, cutW rfl (weak_cons rfl (weak_cons rfl (weak_cons rfl (weak_cons rfl (weak_cons rfl weak_nil)))))⟩
          · replace h := condF q11 h
            refine T.skip ?_
            obtain rfl := Option.some.inj h
            exact ⟨u5, trivial, cutW rfl (weak_cons rfl (weak_cons rfl (weak_cons rfl (weak_cons rfl (weak_cons rfl weak_nil)))))⟩
    · replace h := condF q6 h
      refine T.exit ?_
      refine ⟨_, (Option.some.inj h).symm, fun h => ?_⟩
      replace h := congrArg some h
      obtain rfl := Option.some.inj h
      exact ⟨u5, trivial, cutW rfl (weak_cons rfl weak_nil)⟩

theorem F_spec_l1Place_P (s : ByteArray) (at_ : Int) (from_ : Int) (most : Int) {q : Int} (h : F_spec_l1Place s at_ from_ most = some q) : PCall Try.prog 219 [St s, I at_, Y from_, I most] (I q) := by
  refine PCall.mkT Try.func219 rfl (by kernel_rfl) rfl (by kernel_rfl) (e0 := envOf [(0, St s), (1, I at_), (2, Y from_), (3, I most)]) (weak_cons rfl (weak_cons rfl (weak_cons rfl (weak_cons rfl weak_nil)))) ?_
  refine T.seq ?_
  refine T.region ?_
  refine oN (EvN.asg (I (0 : Int)) rfl) ?_
  refine TO.nil ?_
  refine T.seq ?_
  refine T.seq ?_
  refine T.region ?_
  refine oN (EvN.mv (I at_) rfl) ?_
  refine oN (EvN.mv (St s) rfl) ?_
  refine oN (EvN.lenst Try.underlying9 rfl) ?_
  refine oN (EvN.ige rfl rfl) ?_
  refine oN (EvN.mv (Bo (decide ((s.size : Int) ≤ at_))) rfl) ?_
  obtain ⟨s1, h, ks1⟩ := bindL h
  refine TO.joinF (G := Unit) 6 (fun _ => True) (fun _ => [(19, Bo s1), (0, St s), (1, I at_), (2, Y from_), (3, I most)]) (fun _ => []) ?_ (fun js1 => ?_)
  rotate_left
  · clear ks1
    rcases bifL h with ⟨q2, h⟩ | ⟨q2, h⟩
    · refine gS rfl q2 ?_
      refine gS rfl q2 ?_
      refine gS rfl q2 ?_
      refine gS rfl q2 ?_
      refine gS rfl q2 ?_
      refine oN (EvN.pickT rfl q2 (Bo true) rfl) ?_
      obtain rfl := Option.some.inj h
      exact js1 _ _ ⟨(), trivial, cutW rfl (weak_cons rfl (weak_cons rfl (weak_cons rfl (weak_cons rfl (weak_cons rfl weak_nil)))))⟩
    · refine gN rfl q2 (EvN.mv (St s) rfl) ?_
      refine gN rfl q2 (EvN.mv (I at_) rfl) ?_
      obtain ⟨g3, h⟩ := gdD h
      refine gN rfl q2 (EvN.ixst Try.underlying9 rfl rfl g3) ?_
      refine gN rfl q2 (EvN.mv (Y from_) rfl) ?_
      refine gN rfl q2 (EvN.ilt rfl rfl) ?_
      refine oN (EvN.pickF rfl q2 (Bo (decide (((s.data.getD at_.toNat 0).toNat : Int) < from_))) rfl) ?_
      obtain rfl := Option.some.inj h
      exact js1 _ _ ⟨(), trivial, cutW rfl (weak_cons rfl (weak_cons rfl (weak_cons rfl (weak_cons rfl (weak_cons rfl weak_nil)))))⟩
  · intro _ _
    replace h := ks1
    clear ks1
    refine oN (EvN.mv (Bo s1) rfl) ?_
    obtain ⟨s4, h, ks4⟩ := bindL h
    refine TO.joinF (G := Unit) 9 (fun _ => True) (fun _ => [(29, Bo s4), (0, St s), (1, I at_), (2, Y from_)]) (fun _ => []) ?_ (fun js4 => ?_)
    rotate_left
    · clear ks4
      rcases bifL h with ⟨q5, h⟩ | ⟨q5, h⟩
      · refine gS rfl q5 ?_
        refine gS rfl q5 ?_
        refine gS rfl q5 ?_
        refine gS rfl q5 ?_
        refine gS rfl q5 ?_
        refine gS rfl q5 ?_
        refine gS rfl q5 ?_
        refine gS rfl q5 ?_
        refine oN (EvN.pickT rfl q5 (Bo true) rfl) ?_
        obtain rfl := Option.some.inj h
        exact js4 _ _ ⟨(), trivial, cutW rfl (weak_cons rfl (weak_cons rfl (weak_cons rfl (weak_cons rfl weak_nil))))⟩
      · refine gN rfl q5 (EvN.mv (St s) rfl) ?_
        refine gN rfl q5 (EvN.mv (I at_) rfl) ?_
        obtain ⟨g6, h⟩ := gdD h
        refine gN rfl q5 (EvN.ixst Try.underlying9 rfl rfl g6) ?_
        refine gN rfl q5 (EvN.mv (Y from_) rfl) ?_
        obtain ⟨g7, h⟩ := gdW h
        refine gN rfl q5 (EvN.sub rfl rfl g7) ?_
        obtain ⟨g8, h⟩ := gdW h
        refine gN rfl q5 (EvN.iconv ty5.und Try.underlying3 rfl g8) ?_
        refine gN rfl q5 (EvN.mv (I most) rfl) ?_
        refine gN rfl q5 (EvN.igt rfl rfl) ?_
        refine oN (EvN.pickF rfl q5 (Bo (decide (most < (((s.data.getD at_.toNat 0).toNat : Int) - from_)))) rfl) ?_
        obtain rfl := Option.some.inj h
        exact js4 _ _ ⟨(), trivial, cutW rfl (weak_cons rfl (weak_cons rfl (weak_cons rfl (weak_cons rfl weak_nil))))⟩
    · intro _ _
      replace h := ks4
      clear ks4
      refine TO.nil ?_
      refine T.cond rfl (fun q9 => ?_) (fun q9 => ?_)
      · replace h := condT q9 h
        refine T.seq ?_
        refine T.region ?_
        refine oN (EvN.asg (I (-1 : Int)) rfl) ?_
        refine TO.nil ?_
        refine T.ret ?_
        obtain rfl := Option.some.inj h
        repeat first | refine retS ?_ | refine retB ?_
        exact Fin.ret (vs := [I (-1 : Int)]) (.cons (.tmp rfl) .nil) (.of_isF 9 _ rfl)
      · replace h := condF q9 h
        refine T.skip ?_
        refine T.seq ?_
        refine T.region ?_
        refine oN (EvN.mv (St s) rfl) ?_
        refine oN (EvN.mv (I at_) rfl) ?_
        obtain ⟨g10, h⟩ := gdD h
        refine oN (EvN.ixst Try.underlying9 rfl rfl g10) ?_
        refine oN (EvN.mv (Y from_) rfl) ?_
        obtain ⟨g11, h⟩ := gdW h
        refine oN (EvN.sub rfl rfl g11) ?_
        obtain ⟨g12, h⟩ := gdW h
        refine oN (EvN.iconv ty5.und Try.underlying3 rfl g12) ?_
        refine oN (EvN.asg (I (((s.data.getD at_.toNat 0).toNat : Int) - from_)) rfl) ?_
        refine TO.nil ?_
        refine T.ret ?_
        obtain rfl := Option.some.inj h
        repeat first | refine retS ?_ | refine retB ?_
        exact Fin.ret (vs := [I (((s.data.getD at_.toNat 0).toNat : Int) - from_)]) (.cons (.tmp rfl) .nil) (.of_isF 9 _ rfl)

theorem F_spec_l1Parse_P (s : ByteArray) {q : Ximpl_Instr} (h : F_spec_l1Parse s = some q) : PCall Try.prog 181 [St s] (.agg (Ximpl_Instr.c q)) := by
  refine PCall.mkT Try.func181 rfl (by kernel_rfl) rfl (by kernel_rfl) (e0 := envOf [(0, St s)]) (weak_cons rfl weak_nil) ?_
  refine T.seq ?_
  refine T.region ?_
  refine oA (EvA.al zs81 rfl rfl) ?_
  refine TO.nil ?_
  refine T.seq ?_
  refine T.seq ?_
  refine T.region ?_
  refine oN (EvN.mv (St s) rfl) ?_
  refine oN (EvN.seq rfl rfl) ?_
  refine TO.nil ?_
  refine T.cond rfl (fun q1 => ?_) (fun q1 => ?_)
  · replace h := condT q1 h
    refine T.seq ?_
    refine T.region ?_
    refine oN (EvN.build [I (4 : Int), I (0 : Int), I (0 : Int), I (0 : Int)] Try.underlying81 zs81 fs81 rfl rfl) ?_
    refine oV (EvA.st (cs := [I (4 : Int), I (0 : Int), I (0 : Int), I (0 : Int)]) ⟨0, 4, 81, [[I (4 : Int), I (0 : Int), I (0 : Int), I (0 : Int)]]⟩ ty81 rfl rfl rfl rfl rfl rfl rfl rfl rfl) ?_
    refine TO.nil ?_
    refine T.ret ?_
    obtain rfl := Option.some.inj h
    repeat first | refine retS ?_ | refine retB ?_
    exact Fin.ret (vs := [.agg [I (4 : Int), I (0 : Int), I (0 : Int), I (0 : Int)]]) (.cons (.cell (.agg [I (4 : Int), I (0 : Int), I (0 : Int), I (0 : Int)]) ty81 rfl rfl rfl rfl rfl rfl) .nil) (.of_isF 9 _ rfl)
  · replace h := condF q1 h
    refine T.skip ?_
    refine T.seq ?_
    refine T.region ?_
    refine oN (EvN.mv (St s) rfl) ?_
    obtain ⟨v2, cv2, h⟩ := bindL h
    refine oN (EvN.call rfl rfl rfl (F_spec_l1Place_P s (0 : Int) (97 : Int) (2 : Int) cv2) rfl) ?_
    refine oN (EvN.asg (I v2) rfl) ?_
    refine TO.nil ?_
    refine T.seq ?_
    refine T.region ?_
    refine oN (EvN.mv (St s) rfl) ?_
    obtain ⟨v3, cv3, h⟩ := bindL h
    refine oN (EvN.call rfl rfl rfl (F_spec_l1Place_P s (0 : Int) (120 : Int) (2 : Int) cv3) rfl) ?_
    refine oN (EvN.asg (I v3) rfl) ?_
    refine TO.nil ?_
    refine T.seq ?_
    refine T.seq ?_
    refine T.clean (H0 := [some ⟨0, 4, 81, [[I (0 : Int), I (0 : Int), I (0 : Int), I (0 : Int)]]⟩]) (e0 := envOf [(4, I v3), (3, I v2), (2, .hp 0 0 4 0 0), (0, St s)]) rfl (weak_cons rfl (weak_cons rfl (weak_cons rfl (weak_cons rfl weak_nil)))) ?_
    refine T.region ?_
    refine oN (EvN.mv (I v2) rfl) ?_
    refine oN (EvN.ige rfl rfl) ?_
    refine oN (EvN.mv (Bo (decide ((0 : Int) ≤ v2))) rfl) ?_
    obtain ⟨s4, h, ks4⟩ := bindL h
    refine TO.joinF (G := Unit) 4 (fun _ => True) (fun _ => [(18, Bo s4), (4, I v3), (3, I v2), (2, .hp 0 0 4 0 0), (0, St s)]) (fun _ => [some ⟨0, 4, 81, [[I (0 : Int), I (0 : Int), I (0 : Int), I (0 : Int)]]⟩]) ?_ (fun js4 => ?_)
    rotate_left
    · clear ks4
      rcases bifL h with ⟨q5, h⟩ | ⟨q5, h⟩
      · refine gN rfl q5 (EvN.mv (St s) rfl) ?_
        refine gN rfl q5 (EvN.lenst Try.underlying9 rfl) ?_
        refine gN rfl q5 (EvN.ieq rfl rfl) ?_
        refine oN (EvN.pickT rfl q5 (Bo ((s.size : Int) == (3 : Int))) rfl) ?_
        obtain rfl := Option.some.inj h
        exact js4 _ _ ⟨(), trivial, cutW rfl (weak_cons rfl (weak_cons rfl (weak_cons rfl (weak_cons rfl (weak_cons rfl weak_nil)))))⟩
      · refine gS rfl q5 ?_
        refine gS rfl q5 ?_
        refine gS rfl q5 ?_
        refine oN (EvN.pickF rfl q5 (Bo false) rfl) ?_
        obtain rfl := Option.some.inj h
        exact js4 _ _ ⟨(), trivial, cutW rfl (weak_cons rfl (weak_cons rfl (weak_cons rfl (weak_cons rfl (weak_cons rfl weak_nil)))))⟩
    · intro _ _
      replace h := ks4
      clear ks4
      refine TO.nil ?_
      refine T.cond rfl (fun q6 => ?_) (fun q6 => ?_)
      · replace h := condT q6 h
        refine T.seq ?_
        refine T.region ?_
        refine oN (EvN.mv (I v2) rfl) ?_
        refine oN (EvN.mv (St s) rfl) ?_
        obtain ⟨v7, cv7, h⟩ := bindL h
        refine oN (EvN.call rfl rfl rfl (F_spec_l1Place_P s (2 : Int) (120 : Int) (2 : Int) cv7) rfl) ?_
        refine oN (EvN.build [I (1 : Int), I v7, I v2, I (0 : Int)] Try.underlying81 zs81 fs81 rfl rfl) ?_
        refine oV (EvA.st (cs := [I (1 : Int), I v7, I v2, I (0 : Int)]) ⟨0, 4, 81, [[I (1 : Int), I v7, I v2, I (0 : Int)]]⟩ ty81 rfl rfl rfl rfl rfl rfl rfl rfl rfl) ?_
        refine TO.nil ?_
        refine T.ret ?_
        obtain rfl := Option.some.inj h
        repeat first | refine retS ?_ | refine retB ?_
        exact Fin.ret (vs := [.agg [I (1 : Int), I v7, I v2, I (0 : Int)]]) (.cons (.cell (.agg [I (1 : Int), I v7, I v2, I (0 : Int)]) ty81 rfl rfl rfl rfl rfl rfl) .nil) (.of_isF 9 _ rfl)
      · replace h := condF q6 h
        refine T.skip ?_
        refine T.seq ?_
        refine T.seq ?_
        refine T.region ?_
        refine oN (EvN.mv (I v2) rfl) ?_
        refine oN (EvN.ige rfl rfl) ?_
        refine oN (EvN.mv (Bo (decide ((0 : Int) ≤ v2))) rfl) ?_
        obtain ⟨s8, h, ks8⟩ := bindL h
        refine TO.joinF (G := Unit) 4 (fun _ => True) (fun _ => [(29, Bo s8), (4, I v3), (3, I v2), (2, .hp 0 0 4 0 0), (0, St s)]) (fun _ => [some ⟨0, 4, 81, [[I (0 : Int), I (0 : Int), I (0 : Int), I (0 : Int)]]⟩]) ?_ (fun js8 => ?_)
        rotate_left
        · clear ks8
          rcases bifL h with ⟨q9, h⟩ | ⟨q9, h⟩
          · refine gN rfl q9 (EvN.mv (St s) rfl) ?_
            refine gN rfl q9 (EvN.lenst Try.underlying9 rfl) ?_
            refine gN rfl q9 (EvN.ieq rfl rfl) ?_
            refine oN (EvN.pickT rfl q9 (Bo ((s.size : Int) == (5 : Int))) rfl) ?_
            obtain rfl := Option.some.inj h
            exact js8 _ _ ⟨(), trivial, cutW rfl (weak_cons rfl (weak_cons rfl (weak_cons rfl (weak_cons rfl (weak_cons rfl weak_nil)))))⟩
          · refine gS rfl q9 ?_
            refine gS rfl q9 ?_
            refine gS rfl q9 ?_
            refine oN (EvN.pickF rfl q9 (Bo false) rfl) ?_
            obtain rfl := Option.some.inj h
            exact js8 _ _ ⟨(), trivial, cutW rfl (weak_cons rfl (weak_cons rfl (weak_cons rfl (weak_cons rfl (weak_cons rfl weak_nil)))))⟩
        · intro _ _
          replace h := ks8
          clear ks8
          refine TO.nil ?_
          refine T.cond rfl (fun q10 => ?_) (fun q10 => ?_)
          · replace h := condT q10 h
            refine T.seq ?_
            refine T.region ?_
            refine oN (EvN.mv (I v2) rfl) ?_
            refine oN (EvN.mv (St s) rfl) ?_
            obtain ⟨v11, cv11, h⟩ := bindL h
            refine oN (EvN.call rfl rfl rfl (F_spec_l1Place_P s (2 : Int) (120 : Int) (2 : Int) cv11) rfl) ?_
            refine oN (EvN.mv (St s) rfl) ?_
            obtain ⟨v12, cv12, h⟩ := bindL h
            refine oN (EvN.call rfl rfl rfl (F_spec_l1Place_P s (4 : Int) (48 : Int) (3 : Int) cv12) rfl) ?_
            refine oN (EvN.build [I (5 : Int), I v11, I v2, I v12] Try.underlying81 zs81 fs81 rfl rfl) ?_
            refine oV (EvA.st (cs := [I (5 : Int), I v11, I v2, I v12]) ⟨0, 4, 81, [[I (5 : Int), I v11, I v2, I v12]]⟩ ty81 rfl rfl rfl rfl rfl rfl rfl rfl rfl) ?_
            refine TO.nil ?_
            refine T.ret ?_
            obtain rfl := Option.some.inj h
            repeat first | refine retS ?_ | refine retB ?_
            exact Fin.ret (vs := [.agg [I (5 : Int), I v11, I v2, I v12]]) (.cons (.cell (.agg [I (5 : Int), I v11, I v2, I v12]) ty81 rfl rfl rfl rfl rfl rfl) .nil) (.of_isF 9 _ rfl)
          · replace h := condF q10 h
            refine T.skip ?_
            refine T.seq ?_
            refine T.seq ?_
            refine T.region ?_
            refine oN (EvN.mv (I v3) rfl) ?_
            refine oN (EvN.ige rfl rfl) ?_
            refine oN (EvN.mv (Bo (decide ((0 : Int) ≤ v3))) rfl) ?_
            obtain ⟨s13, h, ks13⟩ := bindL h
            refine TO.joinF (G := Unit) 4 (fun _ => True) (fun _ => [(42, Bo s13), (4, I v3), (2, .hp 0 0 4 0 0), (0, St s)]) (fun _ => [some ⟨0, 4, 81, [[I (0 : Int), I (0 : Int), I (0 : Int), I (0 : Int)]]⟩]) ?_ (fun js13 => ?_)
            rotate_left
            · clear ks13
              rcases bifL h with ⟨q14, h⟩ | ⟨q14, h⟩
              · refine gN rfl q14 (EvN.mv (St s) rfl) ?_
                obtain ⟨v15, cv15, h⟩ := bindL h
                refine gN rfl q14 (EvN.call rfl rfl rfl (F_spec_l1Place_P s (2 : Int) (97 : Int) (2 : Int) cv15) rfl) ?_
                refine gN rfl q14 (EvN.ige rfl rfl) ?_
                refine oN (EvN.pickT rfl q14 (Bo (decide ((0 : Int) ≤ v15))) rfl) ?_
                obtain rfl := Option.some.inj h
                exact js13 _ _ ⟨(), trivial, cutW rfl (weak_cons rfl (weak_cons rfl (weak_cons rfl (weak_cons rfl weak_nil))))⟩
              · refine gS rfl q14 ?_
                refine gS rfl q14 ?_
                refine gS rfl q14 ?_
                refine oN (EvN.pickF rfl q14 (Bo false) rfl) ?_
                obtain rfl := Option.some.inj h
                exact js13 _ _ ⟨(), trivial, cutW rfl (weak_cons rfl (weak_cons rfl (weak_cons rfl (weak_cons rfl weak_nil))))⟩
            · intro _ _
              replace h := ks13
              clear ks13
              refine TO.nil ?_
              refine T.cond rfl (fun q16 => ?_) (fun q16 => ?_)
              · replace h := condT q16 h
                refine T.seq ?_
                refine T.region ?_
                refine oN (EvN.mv (I v3) rfl) ?_
                refine oN (EvN.mv (St s) rfl) ?_
                obtain ⟨v17, cv17, h⟩ := bindL h
                refine oN (EvN.call rfl rfl rfl (F_spec_l1Place_P s (2 : Int) (97 : Int) (2 : Int) cv17) rfl) ?_
                refine oN (EvN.build [I (3 : Int), I v3, I v17, I (0 : Int)] Try.underlying81 zs81 fs81 rfl rfl) ?_
                refine oV (EvA.st (cs := [I (3 : Int), I v3, I v17, I (0 : Int)]) ⟨0, 4, 81, [[I (3 : Int), I v3, I v17, I (0 : Int)]]⟩ ty81 rfl rfl rfl rfl rfl rfl rfl rfl rfl) ?_
                refine TO.nil ?_
                refine T.ret ?_
                obtain rfl := Option.some.inj h
                repeat first | refine retS ?_ | refine retB ?_
                exact Fin.ret (vs := [.agg [I (3 : Int), I v3, I v17, I (0 : Int)]]) (.cons (.cell (.agg [I (3 : Int), I v3, I v17, I (0 : Int)]) ty81 rfl rfl rfl rfl rfl rfl) .nil) (.of_isF 9 _ rfl)
              · replace h := condF q16 h
                refine T.skip ?_
                refine T.seq ?_
                refine T.region ?_
                refine oN (EvN.mv (I v3) rfl) ?_
                refine oN (EvN.mv (St s) rfl) ?_
                obtain ⟨v18, cv18, h⟩ := bindL h
                refine oN (EvN.call rfl rfl rfl (F_spec_l1Place_P s (2 : Int) (48 : Int) (3 : Int) cv18) rfl) ?_
                refine oN (EvN.build [I (2 : Int), I v3, I (0 : Int), I v18] Try.underlying81 zs81 fs81 rfl rfl) ?_
                refine oV (EvA.st (cs := [I (2 : Int), I v3, I (0 : Int), I v18]) ⟨0, 4, 81, [[I (2 : Int), I v3, I (0 : Int), I v18]]⟩ ty81 rfl rfl rfl rfl rfl rfl rfl rfl rfl) ?_
                refine TO.nil ?_
                refine T.ret ?_
                obtain rfl := Option.some.inj h
                repeat first | refine retS ?_ | refine retB ?_
                exact Fin.ret (vs := [.agg [I (2 : Int), I v3, I (0 : Int), I v18]]) (.cons (.cell (.agg [I (2 : Int), I v3, I (0 : Int), I v18]) ty81 rfl rfl rfl rfl rfl rfl) .nil) (.of_isF 9 _ rfl)

theorem F_spec_l1Letter_P (from_ : Int) (n : Int) {q : ByteArray} (h : F_spec_l1Letter from_ n = some q) : PCall Try.prog 240 [Y from_, I n] (St q) := by
  refine PCall.mkT Try.func240 rfl (by kernel_rfl) rfl (by kernel_rfl) (e0 := envOf [(0, Y from_), (1, I n)]) (weak_cons rfl (weak_cons rfl weak_nil)) ?_
  refine T.seq ?_
  refine T.region ?_
  refine oN (EvN.asg (St (⟨#[]⟩ : ByteArray)) rfl) ?_
  refine TO.nil ?_
  refine T.seq ?_
  refine T.region ?_
  refine oN (EvN.mv (Y from_) rfl) ?_
  refine oN (EvN.mv (I n) rfl) ?_
  obtain ⟨g1, h⟩ := gdW h
  refine oN (EvN.iconv ty3.und Try.underlying5 rfl g1) ?_
  obtain ⟨g2, h⟩ := gdW h
  refine oN (EvN.add rfl rfl g2) ?_
  refine oN (EvN.mkF (c := cY) ([(from_ + n)] : List Int) [[Y (from_ + n)]] sl22 rfl rfl rfl (fun _ => rfl) (fun _ => rfl) rfl) ?_
  refine oA (EvA.b2s (l := ([(from_ + n)] : List Int)) Try.underlying22 Try.underlying5 Try.underlying9 (slc_eL rfl) (SrcOk.fz (l := ([(from_ + n)] : List Int)) rfl (fun _ => rfl))) ?_
  refine oN (EvN.asg (St (strOfNums ([(from_ + n)] : List Int))) rfl) ?_
  refine TO.nil ?_
  refine T.ret ?_
  obtain rfl := Option.some.inj h
  repeat first | refine retS ?_ | refine retB ?_
  exact Fin.ret (vs := [St (strOfNums ([(from_ + n)] : List Int))]) (.cons (.tmp rfl) .nil) (.of_isF 9 _ rfl)

theorem F_spec_l17Dec_PN : ∀ (nf : Nat) (n : Int) {q : ByteArray} (h : F_spec_l17Dec_N nf n = some q), PCall Try.prog 241 [I n] (St q) := by
  intro nf
  induction nf with
  | zero => intros; rename_i h; cases h
  | succ nf ih =>
    intro n q h
    replace h : F_spec_l17Dec_B (F_spec_l17Dec_N nf) n = some q := h
    refine PCall.mkT Try.func241 rfl (by kernel_rfl) rfl (by kernel_rfl) (e0 := envOf [(0, I n)]) (weak_cons rfl weak_nil) ?_
    refine T.seq ?_
    refine T.region ?_
    refine oN (EvN.asg (St (⟨#[]⟩ : ByteArray)) rfl) ?_
    refine TO.nil ?_
    refine T.seq ?_
    refine T.seq ?_
    refine T.region ?_
    refine oN (EvN.mv (I n) rfl) ?_
    refine oN (EvN.ilt rfl rfl) ?_
    refine TO.nil ?_
    refine T.cond rfl (fun q1 => ?_) (fun q1 => ?_)
    · replace h := condT q1 h
      refine T.seq ?_
      refine T.region ?_
      refine oN (EvN.asg (St (⟨#[45, 57, 50, 50, 51, 51, 55, 50, 48, 51, 54, 56, 53, 52, 55, 55, 53, 56, 48, 56]⟩ : ByteArray)) rfl) ?_
      refine TO.nil ?_
      refine T.ret ?_
      obtain rfl := Option.some.inj h
      repeat first | refine retS ?_ | refine retB ?_
      exact Fin.ret (vs := [St (⟨#[45, 57, 50, 50, 51, 51, 55, 50, 48, 51, 54, 56, 53, 52, 55, 55, 53, 56, 48, 56]⟩ : ByteArray)]) (.cons (.tmp rfl) .nil) (.of_isF 9 _ rfl)
    · replace h := condF q1 h
      refine T.skip ?_
      refine T.seq ?_
      refine T.seq ?_
      refine T.region ?_
      refine oN (EvN.mv (I n) rfl) ?_
      refine oN (EvN.ilt rfl rfl) ?_
      refine TO.nil ?_
      refine T.cond rfl (fun q2 => ?_) (fun q2 => ?_)
      · replace h := condT q2 h
        refine T.seq ?_
        refine T.region ?_
        refine oN (EvN.mv (I n) rfl) ?_
        obtain ⟨g3, h⟩ := gdW h
        refine oN (EvN.neg rfl g3) ?_
        obtain ⟨v4, cv4, h⟩ := bindL h
        refine oN (EvN.call rfl rfl rfl (ih (0 - n) cv4) rfl) ?_
        obtain ⟨g5, h⟩ := gdD h
        refine oN (EvN.cat rfl rfl g5) ?_
        refine oN (EvN.asg (St ((⟨#[45]⟩ : ByteArray) ++ v4)) rfl) ?_
        refine TO.nil ?_
        refine T.ret ?_
        obtain rfl := Option.some.inj h
        repeat first | refine retS ?_ | refine retB ?_
        exact Fin.ret (vs := [St ((⟨#[45]⟩ : ByteArray) ++ v4)]) (.cons (.tmp rfl) .nil) (.of_isF 9 _ rfl)
      · replace h := condF q2 h
        refine T.skip ?_
        refine T.seq ?_
        refine T.region ?_
        refine oN (EvN.asg (St (⟨#[]⟩ : ByteArray)) rfl) ?_
        refine TO.nil ?_
        obtain ⟨s6, h, ks6⟩ := bindL h
        refine T.joinF (G := Unit) (fun gh => True) (fun gh => [(3, St s6.1), (0, I s6.2)]) (fun gh => []) (fun gh hg => ?_) ?_
        · clear h
          have h := ks6
          clear ks6
          refine T.seq ?_
          refine T.region ?_
          refine oN (EvN.mv (I s6.2) rfl) ?_
          obtain ⟨g15, h⟩ := gdW h
          refine oN (EvN.add rfl rfl g15) ?_
          obtain ⟨g16, h⟩ := gdW h
          refine oN (EvN.iconv ty3.und Try.underlying5 rfl g16) ?_
          refine oN (EvN.mkF (c := cY) ([((48 : Int) + s6.2)] : List Int) [[Y ((48 : Int) + s6.2)]] sl22 rfl rfl rfl (fun _ => rfl) (fun _ => rfl) rfl) ?_
          refine oA (EvA.b2s (l := ([((48 : Int) + s6.2)] : List Int)) Try.underlying22 Try.underlying5 Try.underlying9 (slc_eL rfl) (SrcOk.fz (l := ([((48 : Int) + s6.2)] : List Int)) rfl (fun _ => rfl))) ?_
          refine oN (EvN.mv (St s6.1) rfl) ?_
          obtain ⟨g17, h⟩ := gdD h
          refine oN (EvN.cat rfl rfl g17) ?_
          refine oN (EvN.asg (St ((strOfNums ([((48 : Int) + s6.2)] : List Int)) ++ s6.1)) rfl) ?_
          refine TO.nil ?_
          refine T.ret ?_
          obtain rfl := Option.some.inj h
          repeat first | refine retS ?_ | refine retB ?_
          exact Fin.ret (vs := [St ((strOfNums ([((48 : Int) + s6.2)] : List Int)) ++ s6.1)]) (.cons (.tmp rfl) .nil) (.of_isF 9 _ rfl)
        · clear ks6
          refine T.block ?_
          refine T.loop (S := ByteArray × Int) (G := Unit) F_spec_l17Dec_L8 (fun s7 gh => True) (fun s7 gh => [(3, St s7.1), (0, I s7.2)]) (fun s7 gh => []) (s0 := ((⟨#[]⟩ : ByteArray), n)) () h trivial (cutW rfl (weak_cons rfl (weak_cons rfl weak_nil))) (fun s7 gh ws7 h hg => ?_)
          refine T.seq ?_
          refine T.seq ?_
          refine T.region ?_
          refine oN (EvN.mv (I s7.2) rfl) ?_
          refine oN (EvN.igt rfl rfl) ?_
          refine TO.nil ?_
          refine T.cond rfl (fun q9 => ?_) (fun q9 => ?_)
          · replace h := condT q9 h
            refine T.skip ?_
            refine T.block ?_
            refine T.seq ?_
            refine T.region ?_
            refine oN (EvN.mv (I s7.2) rfl) ?_
            obtain ⟨g10, h⟩ := gdD h
            refine oN (EvN.rem rfl rfl g10) ?_
            obtain ⟨g11, h⟩ := gdW h
            refine oN (EvN.add rfl rfl g11) ?_
            obtain ⟨g12, h⟩ := gdW h
            refine oN (EvN.iconv ty3.und Try.underlying5 rfl g12) ?_
            refine oN (EvN.mkF (c := cY) ([((48 : Int) + (s7.2.tmod (10 : Int)))] : List Int) [[Y ((48 : Int) + (s7.2.tmod (10 : Int)))]] sl22 rfl rfl rfl (fun _ => rfl) (fun _ => rfl) rfl) ?_
            refine oA (EvA.b2s (l := ([((48 : Int) + (s7.2.tmod (10 : Int)))] : List Int)) Try.underlying22 Try.underlying5 Try.underlying9 (slc_eL rfl) (SrcOk.fz (l := ([((48 : Int) + (s7.2.tmod (10 : Int)))] : List Int)) rfl (fun _ => rfl))) ?_
            refine oN (EvN.mv (St s7.1) rfl) ?_
            obtain ⟨g13, h⟩ := gdD h
            refine oN (EvN.cat rfl rfl g13) ?_
            refine oN (EvN.asg (St ((strOfNums ([((48 : Int) + (s7.2.tmod (10 : Int)))] : List Int)) ++ s7.1)) rfl) ?_
            refine TO.nil ?_
            refine T.clean (H0 := []) (e0 := envOf [(3, St ((strOfNums ([((48 : Int) + (s7.2.tmod (10 : Int)))] : List Int)) ++ s7.1)), (0, I s7.2)]) rfl (weak_cons rfl (weak_cons rfl weak_nil)) ?_
            refine T.region ?_
            refine oN (EvN.mv (I s7.2) rfl) ?_
            obtain ⟨g14, h⟩ := gdW h
            refine oN (EvN.quo rfl rfl g10 g14) ?_
            refine oN (EvN.asg (I (s7.2.tdiv (10 : Int))) rfl) ?_
            refine TO.nil ?_
            obtain rfl := Option.some.inj h
            exact ⟨(((strOfNums ([((48 : Int) + (s7.2.tmod (10 : Int)))] : List Int)) ++ s7.1), (s7.2.tdiv (10 : Int))), (), rfl, trivial, cutW rfl (weak_cons rfl (weak_cons rfl weak_nil))⟩
          · replace h := condF q9 h
            refine T.exit ?_
            refine ⟨_, (Option.some.inj h).symm, fun h => ?_⟩
            replace h := congrArg some h
            obtain rfl := Option.some.inj h
            exact ⟨(), trivial, cutW rfl (weak_cons rfl (weak_cons rfl weak_nil))⟩
theorem F_spec_l17Dec_P (n : Int) {q : ByteArray} (h : F_spec_l17Dec n = some q) : PCall Try.prog 241 [I n] (St q) := by
  obtain ⟨nf, h⟩ := fixC_is h
  exact F_spec_l17Dec_PN nf n h

theorem F_spec_l1Text_P (x : Ximpl_Instr) {q : ByteArray} (h : F_spec_l1Text x = some q) : PCall Try.prog 220 [.agg (Ximpl_Instr.c x)] (St q) := by
  refine PCall.mkT Try.func220 rfl (by kernel_rfl) rfl (by kernel_rfl) (e0 := envOf [(0, .agg (Ximpl_Instr.c x))]) (weak_cons rfl weak_nil) ?_
  refine T.seq ?_
  refine T.region ?_
  refine oN (EvN.bxF [I x.Op, I x.Loc, I x.Reg, I x.Val] rfl rfl rfl) ?_
  refine oN (EvN.asg (St (⟨#[]⟩ : ByteArray)) rfl) ?_
  refine TO.nil ?_
  refine T.seq ?_
  refine T.region ?_
  refine oN (EvN.fafp Try.underlying81 rfl (by kernel_rfl) rfl) ?_
  refine oN (EvN.loadfp (I x.Loc) ty3 rfl rfl) ?_
  obtain ⟨v1, cv1, h⟩ := bindL h
  refine oN (EvN.call rfl rfl rfl (F_spec_l1Letter_P (120 : Int) x.Loc cv1) rfl) ?_
  refine oN (EvN.asg (St v1) rfl) ?_
  refine TO.nil ?_
  refine T.seq ?_
  refine T.region ?_
  refine oN (EvN.fafp Try.underlying81 rfl (by kernel_rfl) rfl) ?_
  refine oN (EvN.loadfp (I x.Reg) ty3 rfl rfl) ?_
  obtain ⟨v2, cv2, h⟩ := bindL h
  refine oN (EvN.call rfl rfl rfl (F_spec_l1Letter_P (97 : Int) x.Reg cv2) rfl) ?_
  refine oN (EvN.asg (St v2) rfl) ?_
  refine TO.nil ?_
  refine T.seq ?_
  refine T.seq ?_
  refine T.clean (H0 := []) (e0 := envOf [(4, St v2), (3, St v1), (1, .fp (Ximpl_Instr.c x) 0)]) rfl (weak_cons rfl (weak_cons rfl (weak_cons rfl weak_nil))) ?_
  refine T.region ?_
  refine oN (EvN.fafp Try.underlying81 rfl (by kernel_rfl) rfl) ?_
  refine oN (EvN.loadfp (I x.Op) ty3 rfl rfl) ?_
  refine TO.nil ?_
  refine T.block ?_
  refine T.seq ?_
  refine T.region ?_
  refine oN (EvN.ieq rfl rfl) ?_
  refine oN (EvN.asg (Bo (x.Op == (1 : Int))) rfl) ?_
  refine TO.nil ?_
  refine T.cond rfl (fun q3 => ?_) (fun q3 => ?_)
  · replace h := condT q3 h
    refine T.seq ?_
    refine T.region ?_
    refine oN (EvN.mv (St v2) rfl) ?_
    obtain ⟨g4, h⟩ := gdD h
    refine oN (EvN.cat rfl rfl g4) ?_
    refine oN (EvN.mv (St v1) rfl) ?_
    obtain ⟨g5, h⟩ := gdD h
    refine oN (EvN.cat rfl rfl g5) ?_
    refine oN (EvN.asg (St ((v2 ++ (⟨#[61]⟩ : ByteArray)) ++ v1)) rfl) ?_
    refine TO.nil ?_
    refine T.ret ?_
    obtain rfl := Option.some.inj h
    repeat first | refine retS ?_ | refine retB ?_
    exact Fin.ret (vs := [St ((v2 ++ (⟨#[61]⟩ : ByteArray)) ++ v1)]) (.cons (.tmp rfl) .nil) (.of_isF 9 _ rfl)
  · replace h := condF q3 h
    refine T.seq ?_
    refine T.region ?_
    refine oN (EvN.ieq rfl rfl) ?_
    refine oN (EvN.asg (Bo (x.Op == (2 : Int))) rfl) ?_
    refine TO.nil ?_
    refine T.cond rfl (fun q6 => ?_) (fun q6 => ?_)
    · replace h := condT q6 h
      refine T.seq ?_
      refine T.clean (H0 := []) (e0 := envOf [(3, St v1), (1, .fp (Ximpl_Instr.c x) 0)]) rfl (weak_cons rfl (weak_cons rfl weak_nil)) ?_
      refine T.region ?_
      refine oN (EvN.mv (St v1) rfl) ?_
      obtain ⟨g7, h⟩ := gdD h
      refine oN (EvN.cat rfl rfl g7) ?_
      refine oN (EvN.fafp Try.underlying81 rfl (by kernel_rfl) rfl) ?_
      refine oN (EvN.loadfp (I x.Val) ty3 rfl rfl) ?_
      obtain ⟨v8, cv8, h⟩ := bindL h
      refine oN (EvN.call rfl rfl rfl (F_spec_l17Dec_P x.Val cv8) rfl) ?_
      obtain ⟨g9, h⟩ := gdD h
      refine oN (EvN.cat rfl rfl g9) ?_
      refine oN (EvN.asg (St ((v1 ++ (⟨#[61]⟩ : ByteArray)) ++ v8)) rfl) ?_
      refine TO.nil ?_
      refine T.ret ?_
      obtain rfl := Option.some.inj h
      repeat first | refine retS ?_ | refine retB ?_
      exact Fin.ret (vs := [St ((v1 ++ (⟨#[61]⟩ : ByteArray)) ++ v8)]) (.cons (.tmp rfl) .nil) (.of_isF 9 _ rfl)
    · replace h := condF q6 h
      refine T.seq ?_
      refine T.region ?_
      refine oN (EvN.ieq rfl rfl) ?_
      refine oN (EvN.asg (Bo (x.Op == (3 : Int))) rfl) ?_
      refine TO.nil ?_
      refine T.cond rfl (fun q10 => ?_) (fun q10 => ?_)
      · replace h := condT q10 h
        refine T.seq ?_
        refine T.clean (H0 := []) (e0 := envOf [(4, St v2), (3, St v1)]) rfl (weak_cons rfl (weak_cons rfl weak_nil)) ?_
        refine T.region ?_
        refine oN (EvN.mv (St v1) rfl) ?_
        obtain ⟨g11, h⟩ := gdD h
        refine oN (EvN.cat rfl rfl g11) ?_
        refine oN (EvN.mv (St v2) rfl) ?_
        obtain ⟨g12, h⟩ := gdD h
        refine oN (EvN.cat rfl rfl g12) ?_
        refine oN (EvN.asg (St ((v1 ++ (⟨#[61]⟩ : ByteArray)) ++ v2)) rfl) ?_
        refine TO.nil ?_
        refine T.ret ?_
        obtain rfl := Option.some.inj h
        repeat first | refine retS ?_ | refine retB ?_
        exact Fin.ret (vs := [St ((v1 ++ (⟨#[61]⟩ : ByteArray)) ++ v2)]) (.cons (.tmp rfl) .nil) (.of_isF 9 _ rfl)
      · replace h := condF q10 h
        refine T.seq ?_
        refine T.clean (H0 := []) (e0 := envOf [(12, I x.Op), (4, St v2), (3, St v1), (1, .fp (Ximpl_Instr.c x) 0)]) rfl (weak_cons rfl (weak_cons rfl (weak_cons rfl (weak_cons rfl weak_nil)))) ?_
        refine T.region ?_
        refine oN (EvN.ieq rfl rfl) ?_
        refine oN (EvN.asg (Bo (x.Op == (5 : Int))) rfl) ?_
        refine TO.nil ?_
        refine T.cond rfl (fun q13 => ?_) (fun q13 => ?_)
        · replace h := condT q13 h
          refine T.seq ?_
          refine T.region ?_
          refine oN (EvN.mv (St v2) rfl) ?_
          obtain ⟨g14, h⟩ := gdD h
          refine oN (EvN.cat rfl rfl g14) ?_
          refine oN (EvN.mv (St v1) rfl) ?_
          obtain ⟨g15, h⟩ := gdD h
          refine oN (EvN.cat rfl rfl g15) ?_
          obtain ⟨g16, h⟩ := gdD h
          refine oN (EvN.cat rfl rfl g16) ?_
          refine oN (EvN.fafp Try.underlying81 rfl (by kernel_rfl) rfl) ?_
          refine oN (EvN.loadfp (I x.Val) ty3 rfl rfl) ?_
          obtain ⟨v17, cv17, h⟩ := bindL h
          refine oN (EvN.call rfl rfl rfl (F_spec_l17Dec_P x.Val cv17) rfl) ?_
          obtain ⟨g18, h⟩ := gdD h
          refine oN (EvN.cat rfl rfl g18) ?_
          refine oN (EvN.asg (St ((((v2 ++ (⟨#[61]⟩ : ByteArray)) ++ v1) ++ (⟨#[58]⟩ : ByteArray)) ++ v17)) rfl) ?_
          refine TO.nil ?_
          refine T.ret ?_
          obtain rfl := Option.some.inj h
          repeat first | refine retS ?_ | refine retB ?_
          exact Fin.ret (vs := [St ((((v2 ++ (⟨#[61]⟩ : ByteArray)) ++ v1) ++ (⟨#[58]⟩ : ByteArray)) ++ v17)]) (.cons (.tmp rfl) .nil) (.of_isF 9 _ rfl)
        · replace h := condF q13 h
          refine T.skip ?_
          refine T.seq ?_
          refine T.clean (H0 := []) (e0 := envOf []) rfl weak_nil ?_
          refine T.region ?_
          refine oN (EvN.asg (St (⟨#[102, 101, 110, 99, 101]⟩ : ByteArray)) rfl) ?_
          refine TO.nil ?_
          refine T.ret ?_
          obtain rfl := Option.some.inj h
          repeat first | refine retS ?_ | refine retB ?_
          exact Fin.ret (vs := [St (⟨#[102, 101, 110, 99, 101]⟩ : ByteArray)]) (.cons (.tmp rfl) .nil) (.of_isF 9 _ rfl)

theorem F_spec_l1Program_P (p : List (List Ximpl_Instr)) {q : ByteArray} (h : F_spec_l1Program p = some q) : PCall Try.prog 182 [eL (cL Ximpl_Instr.c) p] (St q) := by
  refine PCall.mkT Try.func182 rfl (by kernel_rfl) rfl (by kernel_rfl) (e0 := envOf [(0, eL (cL Ximpl_Instr.c) p)]) (weak_cons rfl weak_nil) ?_
  refine T.seq ?_
  refine T.region ?_
  refine oN (EvN.asg (St (⟨#[]⟩ : ByteArray)) rfl) ?_
  refine TO.nil ?_
  refine T.seq ?_
  refine T.region ?_
  refine oN (EvN.asg (St (⟨#[]⟩ : ByteArray)) rfl) ?_
  refine TO.nil ?_
  obtain ⟨s1, h, ks1⟩ := bindL h
  refine T.joinF (G := Unit) (fun gh => True) (fun gh => [(3, St s1)]) (fun gh => []) (fun gh hg => ?_) ?_
  · clear h
    have h := ks1
    clear ks1
    refine T.seq ?_
    refine T.region ?_
    refine oN (EvN.mv (St s1) rfl) ?_
    refine oN (EvN.asg (St s1) rfl) ?_
    refine TO.nil ?_
    refine T.ret ?_
    obtain rfl := Option.some.inj h
    repeat first | refine retS ?_ | refine retB ?_
    exact Fin.ret (vs := [St s1]) (.cons (.tmp rfl) .nil) (.of_isF 9 _ rfl)
  · clear ks1
    refine T.seq ?_
    refine T.region ?_
    refine oN (EvN.asg (I (0 : Int)) rfl) ?_
    refine TO.nil ?_
    refine T.block ?_
    refine T.loop (S := Int × ByteArray) (G := Unit) (F_spec_l1Program_L3 p) (fun s2 gh => True) (fun s2 gh => [(4, I s2.1), (3, St s2.2), (0, eL (cL Ximpl_Instr.c) p)]) (fun s2 gh => []) (s0 := ((0 : Int), (⟨#[]⟩ : ByteArray))) () h trivial (cutW rfl (weak_cons rfl (weak_cons rfl (weak_cons rfl weak_nil)))) (fun s2 gh ws2 h hg => ?_)
    refine T.seq ?_
    refine T.seq ?_
    refine T.region ?_
    refine oN (EvN.mv (I s2.1) rfl) ?_
    refine oN (EvN.mv (eL (cL Ximpl_Instr.c) p) rfl) ?_
    refine oN (EvN.lenL sl23 rfl) ?_
    refine oN (EvN.ilt rfl rfl) ?_
    refine TO.nil ?_
    refine T.cond rfl (fun q4 => ?_) (fun q4 => ?_)
    · replace h := condT q4 h
      refine T.skip ?_
      obtain ⟨s5, h, ks5⟩ := bindL h
      refine T.joinF (G := Unit) (fun gh => True) (fun gh => [(3, St s5), (4, I s2.1), (0, eL (cL Ximpl_Instr.c) p)]) (fun gh => []) (fun gh hg => ?_) ?_
      · clear h
        have h := ks5
        clear ks5
        refine T.region ?_
        refine oN (EvN.mv (I s2.1) rfl) ?_
        obtain ⟨g20, h⟩ := gdW h
        refine oN (EvN.add rfl rfl g20) ?_
        refine oN (EvN.asg (I (s2.1 + (1 : Int))) rfl) ?_
        refine TO.nil ?_
        obtain rfl := Option.some.inj h
        exact ⟨((s2.1 + (1 : Int)), s5), (), rfl, trivial, cutW rfl (weak_cons rfl (weak_cons rfl (weak_cons rfl weak_nil)))⟩
      · clear ks5
        refine T.block ?_
        obtain ⟨s6, h, ks6⟩ := bindL h
        refine T.joinF (G := Unit) (fun gh => True) (fun gh => [(3, St s6), (4, I s2.1), (0, eL (cL Ximpl_Instr.c) p)]) (fun gh => []) (fun gh hg => ?_) ?_
        · clear h
          have h := ks6
          clear ks6
          refine T.seq ?_
          refine T.region ?_
          refine oN (EvN.asg (I (0 : Int)) rfl) ?_
          refine TO.nil ?_
          refine T.block ?_
          refine T.loop (S := Int × ByteArray) (G := Unit) (F_spec_l1Program_L10 p s2) (fun s9 gh => True) (fun s9 gh => [(5, I s9.1), (3, St s9.2), (4, I s2.1), (0, eL (cL Ximpl_Instr.c) p)]) (fun s9 gh => []) (s0 := ((0 : Int), s6)) () h trivial (cutW rfl (weak_cons rfl (weak_cons rfl (weak_cons rfl (weak_cons rfl weak_nil))))) (fun s9 gh ws9 h hg => ?_)
          refine T.seq ?_
          refine T.seq ?_
          refine T.region ?_
          refine oN (EvN.mv (I s9.1) rfl) ?_
          refine oN (EvN.mv (eL (cL Ximpl_Instr.c) p) rfl) ?_
          refine oN (EvN.mv (I s2.1) rfl) ?_
          obtain ⟨g11, h⟩ := gdD h
          refine oN (EvN.ixL sl23 rfl rfl g11 (fun _ => rfl)) ?_
          refine oN (EvN.loadfp (eL Ximpl_Instr.c (p.getD s2.1.toNat default)) ty78 rfl rfl) ?_
          refine oN (EvN.lenL sl78 rfl) ?_
          refine oN (EvN.ilt rfl rfl) ?_
          refine TO.nil ?_
          refine T.cond rfl (fun q12 => ?_) (fun q12 => ?_)
          · replace h := condT q12 h
            refine T.skip ?_
            refine T.seq ?_
            refine T.block ?_
            obtain ⟨s13, h, ks13⟩ := bindL h
            refine T.joinF (G := Unit) (fun gh => True) (fun gh => [(3, St s13), (5, I s9.1), (4, I s2.1), (0, eL (cL Ximpl_Instr.c) p)]) (fun gh => []) (fun gh hg => ?_) ?_
            · clear h
              have h := ks13
              clear ks13
              refine T.region ?_
              refine oN (EvN.mv (St s13) rfl) ?_
              refine oN (EvN.mv (eL (cL Ximpl_Instr.c) p) rfl) ?_
              refine oN (EvN.mv (I s2.1) rfl) ?_
              refine oN (EvN.ixL sl23 rfl rfl g11 (fun _ => rfl)) ?_
              refine oN (EvN.loadfp (eL Ximpl_Instr.c (p.getD s2.1.toNat default)) ty78 rfl rfl) ?_
              refine oN (EvN.mv (I s9.1) rfl) ?_
              obtain ⟨g16, h⟩ := gdD h
              refine oN (EvN.ixL sl78 rfl rfl g16 (fun _ => rfl)) ?_
              refine oN (EvN.loadfp (.agg (Ximpl_Instr.c ((p.getD s2.1.toNat default).getD s9.1.toNat default))) ty81 rfl rfl) ?_
              obtain ⟨v17, cv17, h⟩ := bindL h
              refine oN (EvN.call rfl rfl rfl (F_spec_l1Text_P ((p.getD s2.1.toNat default).getD s9.1.toNat default) cv17) rfl) ?_
              obtain ⟨g18, h⟩ := gdD h
              refine oN (EvN.cat rfl rfl g18) ?_
              refine oN (EvN.asg (St (s13 ++ v17)) rfl) ?_
              refine TO.nil ?_
              refine T.clean (H0 := []) (e0 := envOf [(3, St (s13 ++ v17)), (5, I s9.1), (4, I s2.1), (0, eL (cL Ximpl_Instr.c) p)]) rfl (weak_cons rfl (weak_cons rfl (weak_cons rfl (weak_cons rfl weak_nil)))) ?_
              refine T.region ?_
              refine oN (EvN.mv (I s9.1) rfl) ?_
              obtain ⟨g19, h⟩ := gdW h
              refine oN (EvN.add rfl rfl g19) ?_
              refine oN (EvN.asg (I (s9.1 + (1 : Int))) rfl) ?_
              refine TO.nil ?_
              obtain rfl := Option.some.inj h
              exact ⟨((s9.1 + (1 : Int)), (s13 ++ v17)), (), rfl, trivial, cutW rfl (weak_cons rfl (weak_cons rfl (weak_cons rfl (weak_cons rfl weak_nil))))⟩
            · clear ks13
              refine T.seq ?_
              refine T.clean (H0 := []) (e0 := envOf [(5, I s9.1), (3, St s9.2), (4, I s2.1), (0, eL (cL Ximpl_Instr.c) p)]) rfl (weak_cons rfl (weak_cons rfl (weak_cons rfl (weak_cons rfl weak_nil)))) ?_
              refine T.region ?_
              refine oN (EvN.mv (I s9.1) rfl) ?_
              refine oN (EvN.igt rfl rfl) ?_
              refine TO.nil ?_
              refine T.cond rfl (fun q14 => ?_) (fun q14 => ?_)
              · replace h := condT q14 h
                refine T.region ?_
                refine oN (EvN.mv (St s9.2) rfl) ?_
                obtain ⟨g15, h⟩ := gdD h
                refine oN (EvN.cat rfl rfl g15) ?_
                refine oN (EvN.asg (St (s9.2 ++ (⟨#[59]⟩ : ByteArray))) rfl) ?_
                refine TO.nil ?_
                obtain rfl := Option.some.inj h
                exact ⟨(), trivial, cutW rfl (weak_cons rfl (weak_cons rfl (weak_cons rfl (weak_cons rfl weak_nil))))⟩
              · replace h := condF q14 h
                refine T.skip ?_
                obtain rfl := Option.some.inj h
                exact ⟨(), trivial, cutW rfl (weak_cons rfl (weak_cons rfl (weak_cons rfl (weak_cons rfl weak_nil))))⟩
          · replace h := condF q12 h
            refine T.exit ?_
            refine ⟨_, (Option.some.inj h).symm, fun h => ?_⟩
            replace h := congrArg some h
            obtain rfl := Option.some.inj h
            exact ⟨(), trivial, cutW rfl (weak_cons rfl (weak_cons rfl (weak_cons rfl weak_nil)))⟩
        · clear ks6
          refine T.seq ?_
          refine T.region ?_
          refine oN (EvN.mv (I s2.1) rfl) ?_
          refine oN (EvN.igt rfl rfl) ?_
          refine TO.nil ?_
          refine T.cond rfl (fun q7 => ?_) (fun q7 => ?_)
          · replace h := condT q7 h
            refine T.clean (H0 := []) (e0 := envOf [(4, I s2.1), (3, St s2.2), (0, eL (cL Ximpl_Instr.c) p)]) rfl (weak_cons rfl (weak_cons rfl (weak_cons rfl weak_nil))) ?_
            refine T.region ?_
            refine oN (EvN.mv (St s2.2) rfl) ?_
            obtain ⟨g8, h⟩ := gdD h
            refine oN (EvN.cat rfl rfl g8) ?_
            refine oN (EvN.asg (St (s2.2 ++ (⟨#[124]⟩ : ByteArray))) rfl) ?_
            refine TO.nil ?_
            obtain rfl := Option.some.inj h
            exact ⟨(), trivial, cutW rfl (weak_cons rfl (weak_cons rfl (weak_cons rfl weak_nil)))⟩
          · replace h := condF q7 h
            refine T.skip ?_
            obtain rfl := Option.some.inj h
            exact ⟨(), trivial, cutW rfl (weak_cons rfl (weak_cons rfl (weak_cons rfl weak_nil)))⟩
    · replace h := condF q4 h
      refine T.exit ?_
      refine ⟨_, (Option.some.inj h).symm, fun h => ?_⟩
      replace h := congrArg some h
      obtain rfl := Option.some.inj h
      exact ⟨(), trivial, cutW rfl (weak_cons rfl weak_nil)⟩

theorem F_spec_ParseProgram_P (text : ByteArray) {q : (List (List Ximpl_Instr)) × Bool} (h : F_spec_ParseProgram text = some q) : PCall Try.prog 122 [St text] (.tup [eL (cL Ximpl_Instr.c) q.1, Bo q.2]) := by
  refine PCall.mkT Try.func122 rfl (by kernel_rfl) rfl (by kernel_rfl) (e0 := envOf [(0, St text)]) (weak_cons rfl weak_nil) ?_
  refine T.seq ?_
  refine T.region ?_
  refine oN (EvN.asg (.nil) rfl) ?_
  refine oN (EvN.asg (Bo false) rfl) ?_
  refine TO.nil ?_
  refine T.seq ?_
  refine T.region ?_
  refine oA (EvA.mkO (c := (cL Ximpl_Instr.c)) ([] : List (List Ximpl_Instr)) [] sl23 rfl rfl rfl (fun _ => rfl) rfl rfl) ?_
  refine oN (EvN.asg (hS false 0 0 1 (([] : List (List Ximpl_Instr)).length)) rfl) ?_
  refine TO.nil ?_
  refine T.seq ?_
  refine T.region ?_
  refine oN (EvN.mv (St text) rfl) ?_
  obtain ⟨v1, cv1, h⟩ := bindL h
  refine oN (EvN.call rfl rfl rfl (F_spec_l17Cut_P text (124 : Int) cv1) rfl) ?_
  refine oN (EvN.asg (eL cS v1) rfl) ?_
  refine TO.nil ?_
  obtain ⟨s2, h, ks2⟩ := bindL h
  refine T.joinF (G := Nat) (fun gh => True) (fun gh => [(4, hS false 0 gh 1 s2.length), (0, St text)]) (fun gh => [bE false gh 1 78 (s2.map (cL Ximpl_Instr.c))]) (fun u31 hg => ?_) ?_
  · clear h
    have h := ks2
    clear ks2
    refine T.seq ?_
    refine T.seq ?_
    refine T.region ?_
    refine oN (EvN.mv (hS false 0 u31 1 s2.length) rfl) ?_
    obtain ⟨v32, cv32, h⟩ := bindL h
    refine oA (EvA.callT rfl rfl (F_spec_ProgramValid_P s2 cv32) (.cons (Fz.own (g := false) (ver := u31) (l := s2) rfl rfl rfl nofun (fun _ => rfl)) .nil) rfl) ?_
    refine oN (EvN.not rfl) ?_
    refine oN (EvN.mv (Bo (!v32)) rfl) ?_
    obtain ⟨s33, h, ks33⟩ := bindL h
    refine TO.joinF (G := Unit) 5 (fun _ => True) (fun _ => [(66, Bo s33), (4, hS false 0 u31 1 s2.length)]) (fun _ => [bE false u31 1 78 (s2.map (cL Ximpl_Instr.c))]) ?_ (fun js33 => ?_)
    rotate_left
    · clear ks33
      rcases bifL h with ⟨q34, h⟩ | ⟨q34, h⟩
      · refine gS rfl q34 ?_
        refine gS rfl q34 ?_
        refine gS rfl q34 ?_
        refine gS rfl q34 ?_
        refine oN (EvN.pickT rfl q34 (Bo true) rfl) ?_
        obtain rfl := Option.some.inj h
        exact js33 _ _ ⟨(), trivial, cutW rfl (weak_cons rfl (weak_cons rfl weak_nil))⟩
      · refine gN rfl q34 (EvN.mv (hS false 0 u31 1 s2.length) rfl) ?_
        obtain ⟨v35, cv35, h⟩ := bindL h
        refine gA rfl q34 (EvA.callT rfl rfl (F_spec_l1Program_P s2 cv35) (.cons (Fz.own (g := false) (ver := u31) (l := s2) rfl rfl rfl nofun (fun _ => rfl)) .nil) rfl) ?_
        refine gN rfl q34 (EvN.mv (St text) rfl) ?_
        refine gN rfl q34 (EvN.sne rfl rfl) ?_
        refine oN (EvN.pickF rfl q34 (Bo (!decide (v35 = text))) rfl) ?_
        obtain rfl := Option.some.inj h
        exact js33 _ _ ⟨(), trivial, cutW rfl (weak_cons rfl (weak_cons rfl weak_nil))⟩
    · intro _ _
      replace h := ks33
      clear ks33
      refine TO.nil ?_
      refine T.cond rfl (fun q36 => ?_) (fun q36 => ?_)
      · replace h := condT q36 h
        refine T.seq ?_
        refine T.region ?_
        refine oN (EvN.mkF (c := (cL Ximpl_Instr.c)) ([] : List (List Ximpl_Instr)) [] sl23 rfl rfl rfl (fun _ => rfl) (fun _ => rfl) rfl) ?_
        refine oN (EvN.asg (eL (cL Ximpl_Instr.c) ([] : List (List Ximpl_Instr))) rfl) ?_
        refine oN (EvN.asg (Bo false) rfl) ?_
        refine TO.nil ?_
        refine T.ret ?_
        obtain rfl := Option.some.inj h
        repeat first | refine retS ?_ | refine retB ?_
        exact Fin.ret (vs := [eL (cL Ximpl_Instr.c) ([] : List (List Ximpl_Instr)), Bo false]) (.cons (.tmp rfl) (.cons (.tmp rfl) .nil)) (.tupL (.cons (.of_isF 9 _ rfl) (.cons (.of_isF 9 _ rfl) .nil)))
      · replace h := condF q36 h
        refine T.skip ?_
        refine T.seq ?_
        refine T.region ?_
        refine oN (EvN.mv (hS false 0 u31 1 s2.length) rfl) ?_
        refine oN (EvN.asg (hS false 0 u31 1 s2.length) rfl) ?_
        refine oN (EvN.asg (Bo true) rfl) ?_
        refine TO.nil ?_
        refine T.ret ?_
        obtain rfl := Option.some.inj h
        repeat first | refine retS ?_ | refine retB ?_
        exact Fin.ret (vs := [hS false 0 u31 1 s2.length, Bo true]) (.cons (.tmp rfl) (.cons (.tmp rfl) .nil)) (.tupL (.cons (Fz.own (g := false) (ver := u31) (l := s2) rfl rfl rfl nofun (fun _ => rfl)) (.cons (.of_isF 9 _ rfl) .nil)))
  · clear ks2
    refine T.seq ?_
    refine T.region ?_
    refine oN (EvN.asg (I (0 : Int)) rfl) ?_
    refine TO.nil ?_
    refine T.block ?_
    refine T.loop (S := (List (List Ximpl_Instr)) × Int) (G := Nat) (F_spec_ParseProgram_L5 v1) (fun s4 gh => True) (fun s4 gh => [(6, I s4.2), (5, eL cS v1), (4, hS false 0 gh 1 s4.1.length), (0, St text)]) (fun s4 gh => [bE false gh 1 78 (s4.1.map (cL Ximpl_Instr.c))]) (s0 := (([] : List (List Ximpl_Instr)), (0 : Int))) 0 h trivial (cutW rfl (weak_cons rfl (weak_cons rfl (weak_cons rfl (weak_cons rfl weak_nil))))) (fun s4 u6 ws4 h hg => ?_)
    refine T.seq ?_
    refine T.seq ?_
    refine T.region ?_
    refine oN (EvN.mv (I s4.2) rfl) ?_
    refine oN (EvN.mv (eL cS v1) rfl) ?_
    refine oN (EvN.lenL sl127 rfl) ?_
    refine oN (EvN.ilt rfl rfl) ?_
    refine oN (EvN.mv (Bo (decide (s4.2 < (v1.length : Int)))) rfl) ?_
    obtain ⟨s7, h, ks7⟩ := bindL h
    refine TO.joinF (G := Unit) 3 (fun _ => True) (fun _ => [(20, Bo s7), (6, I s4.2), (5, eL cS v1), (4, hS false 0 u6 1 s4.1.length), (0, St text)]) (fun _ => [bE false u6 1 78 (s4.1.map (cL Ximpl_Instr.c))]) ?_ (fun js7 => ?_)
    rotate_left
    · clear ks7
      rcases bifL h with ⟨q8, h⟩ | ⟨q8, h⟩
      · refine gN rfl q8 (EvN.mv (I s4.2) rfl) ?_
        refine gN rfl q8 (EvN.ile rfl rfl) ?_
        refine oN (EvN.pickT rfl q8 (Bo (decide (s4.2 ≤ (3 : Int)))) rfl) ?_
        obtain rfl := Option.some.inj h
        exact js7 _ _ ⟨(), trivial, cutW rfl (weak_cons rfl (weak_cons rfl (weak_cons rfl (weak_cons rfl (weak_cons rfl weak_nil)))))⟩
      · refine gS rfl q8 ?_
        refine gS rfl q8 ?_
        refine oN (EvN.pickF rfl q8 (Bo false) rfl) ?_
        obtain rfl := Option.some.inj h
        exact js7 _ _ ⟨(), trivial, cutW rfl (weak_cons rfl (weak_cons rfl (weak_cons rfl (weak_cons rfl (weak_cons rfl weak_nil)))))⟩
    · intro _ _
      replace h := ks7
      clear ks7
      refine TO.nil ?_
      refine T.cond rfl (fun q9 => ?_) (fun q9 => ?_)
      · replace h := condT q9 h
        refine T.skip ?_
        obtain ⟨s10, h, ks10⟩ := bindL h
        refine T.joinF (G := Nat) (fun gh => True) (fun gh => [(4, hS false 0 gh 1 s10.length), (6, I s4.2), (5, eL cS v1), (0, St text)]) (fun gh => [bE false gh 1 78 (s10.map (cL Ximpl_Instr.c))]) (fun u29 hg => ?_) ?_
        · clear h
          have h := ks10
          clear ks10
          refine T.region ?_
          refine oN (EvN.mv (I s4.2) rfl) ?_
          obtain ⟨g30, h⟩ := gdW h
          refine oN (EvN.add rfl rfl g30) ?_
          refine oN (EvN.asg (I (s4.2 + (1 : Int))) rfl) ?_
          refine TO.nil ?_
          obtain rfl := Option.some.inj h
          exact ⟨(s10, (s4.2 + (1 : Int))), u29, rfl, trivial, cutW rfl (weak_cons rfl (weak_cons rfl (weak_cons rfl (weak_cons rfl weak_nil))))⟩
        · clear ks10
          refine T.block ?_
          refine T.seq ?_
          refine T.region ?_
          refine oA (EvA.mkO (c := Ximpl_Instr.c) ([] : List Ximpl_Instr) [] sl78 rfl rfl rfl (fun _ => rfl) rfl rfl) ?_
          refine oN (EvN.asg (hS false 1 0 4 (([] : List Ximpl_Instr).length)) rfl) ?_
          refine TO.nil ?_
          refine T.seq ?_
          refine T.region ?_
          refine oN (EvN.mv (eL cS v1) rfl) ?_
          refine oN (EvN.mv (I s4.2) rfl) ?_
          obtain ⟨g11, h⟩ := gdD h
          refine oN (EvN.ixL sl127 rfl rfl g11 (fun _ => rfl)) ?_
          refine oN (EvN.loadfp (St (v1.getD s4.2.toNat default)) ty9 rfl rfl) ?_
          obtain ⟨v12, cv12, h⟩ := bindL h
          refine oN (EvN.call rfl rfl rfl (F_spec_l17Cut_P (v1.getD s4.2.toNat default) (59 : Int) cv12) rfl) ?_
          refine oN (EvN.asg (eL cS v12) rfl) ?_
          refine TO.nil ?_
          obtain ⟨s13, h, ks13⟩ := bindL h
          refine T.joinF (G := Nat) (fun gh => True) (fun gh => [(7, hS false 1 gh 4 s13.length), (6, I s4.2), (5, eL cS v1), (4, hS false 0 u6 1 s4.1.length), (0, St text)]) (fun gh => [bE false u6 1 78 (s4.1.map (cL Ximpl_Instr.c)), bE false gh 4 81 (s13.map Ximpl_Instr.c)]) (fun u27 hg => ?_) ?_
          · clear h
            have h := ks13
            clear ks13
            refine T.region ?_
            refine oN (EvN.mv (hS false 0 u6 1 s4.1.length) rfl) ?_
            refine oN (EvN.mv (hS false 1 u27 4 s13.length) rfl) ?_
            refine oA (EvA.mkR [[hS false 1 u27 4 s13.length]] sl23 rfl rfl rfl rfl) ?_
            obtain ⟨g28, h⟩ := gdL h
            refine oA (EvA.appR (g := false) (rows := s4.1.map (cL Ximpl_Instr.c)) (rows' := s4.1.map (cL Ximpl_Instr.c) ++ [[hS false 1 u27 4 s13.length]]) (n' := s4.1.length + 1) sl23 (by kernel_rfl) rfl rfl (by simp) nofun (SrcOk.raw (rows := [[hS false 1 u27 4 s13.length]]) rfl rfl rfl) g28 rfl rfl) ?_
            refine oN (EvN.asg (hS false 0 (u6 + 1) 1 (s4.1.length + 1)) rfl) ?_
            refine TO.nil ?_
            obtain rfl := Option.some.inj h
            exact ⟨u6 + 1, trivial, cutS rfl (.cons (.snoc (fun _ => rfl) (.cons (.cons (.fz (Fz.own (g := false) (ver := u27) (l := s13) rfl rfl rfl nofun Ximpl_Instr.isF)) .nil) .nil)) .nil) (stl_cons (.eqv (congrArg (hS false 0 (u6 + 1) 1) (by simp : (s4.1.length + 1) = (s4.1 ++ [s13]).length)) (.hS (g := false) (b := 0) (ver := u6 + 1) (s := 1) (n := (s4.1 ++ [s13]).length) rfl)) (stl_cons (.fz (.of_isF 9 _ rfl)) (stl_cons (.fz (.of_isF 9 _ rfl)) (stl_cons (.fz (.of_isF 9 _ rfl)) stl_nil))))⟩
          · clear ks13
            refine T.seq ?_
            refine T.clean (H0 := [bE false u6 1 78 (s4.1.map (cL Ximpl_Instr.c)), bE false 0 4 81 (([] : List Ximpl_Instr).map Ximpl_Instr.c)]) (e0 := envOf [(8, eL cS v12), (7, hS false 1 0 4 (([] : List Ximpl_Instr).length)), (6, I s4.2), (5, eL cS v1), (4, hS false 0 u6 1 s4.1.length), (0, St text)]) rfl (weak_cons rfl (weak_cons rfl (weak_cons rfl (weak_cons rfl (weak_cons rfl (weak_cons rfl weak_nil)))))) ?_
            refine T.region ?_
            refine oN (EvN.asg (I (0 : Int)) rfl) ?_
            refine TO.nil ?_
            refine T.block ?_
            refine T.loop (S := (List Ximpl_Instr) × Int) (G := Nat) (F_spec_ParseProgram_L16 v1 s4 v12) (fun s15 gh => True) (fun s15 gh => [(9, I s15.2), (8, eL cS v12), (7, hS false 1 gh 4 s15.1.length), (6, I s4.2), (5, eL cS v1), (4, hS false 0 u6 1 s4.1.length), (0, St text)]) (fun s15 gh => [bE false u6 1 78 (s4.1.map (cL Ximpl_Instr.c)), bE false gh 4 81 (s15.1.map Ximpl_Instr.c)]) (s0 := (([] : List Ximpl_Instr), (0 : Int))) 0 h trivial (cutW rfl (weak_cons rfl (weak_cons rfl (weak_cons rfl (weak_cons rfl (weak_cons rfl (weak_cons rfl (weak_cons rfl weak_nil)))))))) (fun s15 u17 ws15 h hg => ?_)
            refine T.seq ?_
            refine T.seq ?_
            refine T.region ?_
            refine oN (EvN.mv (I s15.2) rfl) ?_
            refine oN (EvN.mv (eL cS v12) rfl) ?_
            refine oN (EvN.lenL sl127 rfl) ?_
            refine oN (EvN.ilt rfl rfl) ?_
            refine oN (EvN.mv (Bo (decide (s15.2 < (v12.length : Int)))) rfl) ?_
            obtain ⟨s18, h, ks18⟩ := bindL h
            refine TO.joinF (G := Unit) 3 (fun _ => True) (fun _ => [(36, Bo s18), (9, I s15.2), (8, eL cS v12), (7, hS false 1 u17 4 s15.1.length), (6, I s4.2), (5, eL cS v1), (4, hS false 0 u6 1 s4.1.length), (0, St text)]) (fun _ => [bE false u6 1 78 (s4.1.map (cL Ximpl_Instr.c)), bE false u17 4 81 (s15.1.map Ximpl_Instr.c)]) ?_ (fun js18 => ?_)
            rotate_left
            · clear ks18
              rcases bifL h with ⟨q19, h⟩ | ⟨q19, h⟩
              · refine gN rfl q19 (EvN.mv (I s15.2) rfl) ?_
                refine gN rfl q19 (EvN.ile rfl rfl) ?_
                refine oN (EvN.pickT rfl q19 (Bo (decide (s15.2 ≤ (7 : Int)))) rfl) ?_
                obtain rfl := Option.some.inj h
                exact js18 _ _ ⟨(), trivial, cutW rfl (weak_cons rfl (weak_cons rfl (weak_cons rfl (weak_cons rfl (weak_cons rfl (weak_cons rfl (weak_cons rfl (weak_cons rfl weak_nil))))))))⟩
              · refine gS rfl q19 ?_
                refine gS rfl q19 ?_
                refine oN (EvN.pickF rfl q19 (Bo false) rfl) ?_
                obtain rfl := Option.some.inj h
                exact js18 _ _ ⟨(), trivial, cutW rfl (weak_cons rfl (weak_cons rfl (weak_cons rfl (weak_cons rfl (weak_cons rfl (weak_cons rfl (weak_cons rfl (weak_cons rfl weak_nil))))))))⟩
            · intro _ _
              replace h := ks18
              clear ks18
              refine oN (EvN.mv (Bo s18) rfl) ?_
              obtain ⟨s20, h, ks20⟩ := bindL h
              refine TO.joinF (G := Unit) 6 (fun _ => True) (fun _ => [(43, Bo s20), (9, I s15.2), (8, eL cS v12), (7, hS false 1 u17 4 s15.1.length), (6, I s4.2), (5, eL cS v1), (4, hS false 0 u6 1 s4.1.length), (0, St text)]) (fun _ => [bE false u6 1 78 (s4.1.map (cL Ximpl_Instr.c)), bE false u17 4 81 (s15.1.map Ximpl_Instr.c)]) ?_ (fun js20 => ?_)
              rotate_left
              · clear ks20
                rcases bifL h with ⟨q21, h⟩ | ⟨q21, h⟩
                · refine gN rfl q21 (EvN.mv (eL cS v1) rfl) ?_
                  refine gN rfl q21 (EvN.mv (I s4.2) rfl) ?_
                  refine gN rfl q21 (EvN.ixL sl127 rfl rfl g11 (fun _ => rfl)) ?_
                  refine gN rfl q21 (EvN.loadfp (St (v1.getD s4.2.toNat default)) ty9 rfl rfl) ?_
                  refine gN rfl q21 (EvN.sne rfl rfl) ?_
                  refine oN (EvN.pickT rfl q21 (Bo (!decide ((v1.getD s4.2.toNat default) = (⟨#[]⟩ : ByteArray)))) rfl) ?_
                  obtain rfl := Option.some.inj h
                  exact js20 _ _ ⟨(), trivial, cutW rfl (weak_cons rfl (weak_cons rfl (weak_cons rfl (weak_cons rfl (weak_cons rfl (weak_cons rfl (weak_cons rfl (weak_cons rfl weak_nil))))))))⟩
                · refine gS rfl q21 ?_
                  refine gS rfl q21 ?_
                  refine gS rfl q21 ?_
                  refine gS rfl q21 ?_
                  refine gS rfl q21 ?_
                  refine oN (EvN.pickF rfl q21 (Bo false) rfl) ?_
                  obtain rfl := Option.some.inj h
                  exact js20 _ _ ⟨(), trivial, cutW rfl (weak_cons rfl (weak_cons rfl (weak_cons rfl (weak_cons rfl (weak_cons rfl (weak_cons rfl (weak_cons rfl (weak_cons rfl weak_nil))))))))⟩
              · intro _ _
                replace h := ks20
                clear ks20
                refine TO.nil ?_
                refine T.cond rfl (fun q22 => ?_) (fun q22 => ?_)
                · replace h := condT q22 h
                  refine T.skip ?_
                  refine T.seq ?_
                  refine T.block ?_
                  refine T.region ?_
                  refine oN (EvN.mv (hS false 1 u17 4 s15.1.length) rfl) ?_
                  refine oN (EvN.mv (eL cS v12) rfl) ?_
                  refine oN (EvN.mv (I s15.2) rfl) ?_
                  obtain ⟨g23, h⟩ := gdD h
                  refine oN (EvN.ixL sl127 rfl rfl g23 (fun _ => rfl)) ?_
                  refine oN (EvN.loadfp (St (v12.getD s15.2.toNat default)) ty9 rfl rfl) ?_
                  obtain ⟨v24, cv24, h⟩ := bindL h
                  refine oN (EvN.call rfl rfl rfl (F_spec_l1Parse_P (v12.getD s15.2.toNat default) cv24) rfl) ?_
                  refine oN (EvN.mkF (c := Ximpl_Instr.c) ([v24] : List Ximpl_Instr) [[I v24.Op, I v24.Loc, I v24.Reg, I v24.Val]] sl78 rfl rfl rfl (fun _ => rfl) Ximpl_Instr.isF rfl) ?_
                  obtain ⟨g25, h⟩ := gdL h
                  refine oA (EvA.app1 (g := false) (l := s15.1) v24 sl78 (by kernel_rfl) rfl rfl rfl nofun (SrcOk.fz (l := ([v24] : List Ximpl_Instr)) rfl (fun _ => rfl)) g25) ?_
                  refine oN (EvN.asg (hS false 1 (u17 + 1) 4 ((s15.1 ++ [v24]).length)) rfl) ?_
                  refine TO.nil ?_
                  refine T.clean (H0 := [bE false u6 1 78 (s4.1.map (cL Ximpl_Instr.c)), bE false (u17 + 1) 4 81 ((s15.1 ++ [v24]).map Ximpl_Instr.c)]) (e0 := envOf [(7, hS false 1 (u17 + 1) 4 ((s15.1 ++ [v24]).length)), (9, I s15.2), (8, eL cS v12), (6, I s4.2), (5, eL cS v1), (4, hS false 0 u6 1 s4.1.length), (0, St text)]) rfl (weak_cons rfl (weak_cons rfl (weak_cons rfl (weak_cons rfl (weak_cons rfl (weak_cons rfl (weak_cons rfl weak_nil))))))) ?_
                  refine T.region ?_
                  refine oN (EvN.mv (I s15.2) rfl) ?_
                  obtain ⟨g26, h⟩ := gdW h
                  refine oN (EvN.add rfl rfl g26) ?_
                  refine oN (EvN.asg (I (s15.2 + (1 : Int))) rfl) ?_
                  refine TO.nil ?_
                  obtain rfl := Option.some.inj h
                  exact ⟨((s15.1 ++ [v24]), (s15.2 + (1 : Int))), u17 + 1, rfl, trivial, cutW rfl (weak_cons rfl (weak_cons rfl (weak_cons rfl (weak_cons rfl (weak_cons rfl (weak_cons rfl (weak_cons rfl weak_nil)))))))⟩
                · replace h := condF q22 h
                  refine T.exit ?_
                  refine ⟨_, (Option.some.inj h).symm, fun h => ?_⟩
                  replace h := congrArg some h
                  obtain rfl := Option.some.inj h
                  exact ⟨u17, trivial, cutW rfl (weak_cons rfl (weak_cons rfl (weak_cons rfl (weak_cons rfl (weak_cons rfl weak_nil)))))⟩
      · replace h := condF q9 h
        refine T.exit ?_
        refine ⟨_, (Option.some.inj h).symm, fun h => ?_⟩
        replace h := congrArg some h
        obtain rfl := Option.some.inj h
        exact ⟨u6, trivial, cutW rfl (weak_cons rfl (weak_cons rfl weak_nil))⟩

theorem F_spec_l1Instr_P (r_ : Xspec_l17Rd) (ver0 : Nat) {q : Xspec_l17Rd × Ximpl_Instr} (h : F_spec_l1Instr r_ = some q) : ACall Try.prog 123 [.hp 0 ver0 2 0 0] [some ⟨ver0, 2, 126, [[eL cY r_.b, I r_.p]]⟩] (.agg (Ximpl_Instr.c q.2)) [some ⟨ver0, 2, 126, [[eL cY q.1.b, I q.1.p]]⟩] := by
  refine ACall.mkT Try.func123 rfl (by kernel_rfl) rfl (by kernel_rfl) (e0 := envOf [(0, .hp 0 ver0 2 0 0)]) (weak_cons rfl weak_nil) ?_
  refine T.seq ?_
  refine T.region ?_
  refine oA (EvA.al zs81 rfl rfl) ?_
  refine TO.nil ?_
  refine T.seq ?_
  refine T.region ?_
  refine oN (EvN.mv (.hp 0 ver0 2 0 0) rfl) ?_
  obtain ⟨v1, cv1, h⟩ := bindL h
  refine oA (EvA.call rfl rfl rfl ((F_spec_l17Rd_pick_P (⟨r_.b, r_.p⟩ : Xspec_l17Rd) (2 : Int) ver0 cv1).one 0 rfl (.cons (.hp rfl) (.cons (.pF rfl) .nil)) (rowsF_row rfl) (rowsF_row rfl) rfl)) ?_
  refine oN (EvN.asg (I v1.2) rfl) ?_
  refine TO.nil ?_
  refine T.seq ?_
  refine T.seq ?_
  refine T.region ?_
  refine oN (EvN.mv (.hp 0 ver0 2 0 0) rfl) ?_
  obtain ⟨v2, cv2, h⟩ := bindL h
  refine oA (EvA.call rfl rfl rfl ((F_spec_l17Rd_pick_P (⟨v1.1.b, v1.1.p⟩ : Xspec_l17Rd) (7 : Int) ver0 cv2).one 0 rfl (.cons (.hp rfl) (.cons (.pF rfl) .nil)) (rowsF_row rfl) (rowsF_row rfl) rfl)) ?_
  refine TO.nil ?_
  refine T.block ?_
  refine T.seq ?_
  refine T.region ?_
  refine oN (EvN.ieq rfl rfl) ?_
  refine oN (EvN.asg (Bo (v2.2 == (0 : Int))) rfl) ?_
  refine TO.nil ?_
  refine T.cond rfl (fun q3 => ?_) (fun q3 => ?_)
  · replace h := condT q3 h
    refine T.seq ?_
    refine T.clean (H0 := [some ⟨ver0, 2, 126, [[eL cY v2.1.b, I v2.1.p]]⟩, some ⟨0, 4, 81, [[I (0 : Int), I (0 : Int), I (0 : Int), I (0 : Int)]]⟩]) (e0 := envOf [(2, .hp 1 0 4 0 0)]) rfl (weak_cons rfl weak_nil) ?_
    refine T.region ?_
    refine oN (EvN.build [I (4 : Int), I (0 : Int), I (0 : Int), I (0 : Int)] Try.underlying81 zs81 fs81 rfl rfl) ?_
    refine oV (EvA.st (cs := [I (4 : Int), I (0 : Int), I (0 : Int), I (0 : Int)]) ⟨0, 4, 81, [[I (4 : Int), I (0 : Int), I (0 : Int), I (0 : Int)]]⟩ ty81 rfl rfl rfl rfl rfl rfl rfl rfl rfl) ?_
    refine TO.nil ?_
    refine T.ret ?_
    obtain rfl := Option.some.inj h
    repeat first | refine retS ?_ | refine retB ?_
    exact ⟨envOf [(2, .fp (Ximpl_Instr.c (⟨(4 : Int), (0 : Int), (0 : Int), (0 : Int)⟩ : Ximpl_Instr)) 0)], [some ⟨ver0, 2, 126, [[eL cY ((⟨v2.1.b, v2.1.p⟩ : Xspec_l17Rd).b), I ((⟨v2.1.b, v2.1.p⟩ : Xspec_l17Rd).p)]]⟩], cutS rfl (.cons (.row (.cons (.fz (.of_isF 9 _ rfl)) (.cons (.fz (.of_isF 9 _ rfl)) .nil))) .nil) (stl_cons (.fz (Fz.fpL (ver := 0) (s := 4) (ty := 81) (rows := [[I (4 : Int), I (0 : Int), I (0 : Int), I (0 : Int)]]) rfl rfl rfl (.cons (.of_isF 9 _ rfl) (.cons (.of_isF 9 _ rfl) (.cons (.of_isF 9 _ rfl) (.cons (.of_isF 9 _ rfl) .nil)))))) stl_nil), Fin.ret (vs := [.agg (Ximpl_Instr.c (⟨(4 : Int), (0 : Int), (0 : Int), (0 : Int)⟩ : Ximpl_Instr))]) (.cons (.cellF (.agg (Ximpl_Instr.c (⟨(4 : Int), (0 : Int), (0 : Int), (0 : Int)⟩ : Ximpl_Instr))) ty81 rfl rfl) .nil) ⟨rfl, rfl⟩⟩
  · replace h := condF q3 h
    refine T.seq ?_
    refine T.region ?_
    refine oN (EvN.ieq rfl rfl) ?_
    refine oN (EvN.asg (Bo (v2.2 == (1 : Int))) rfl) ?_
    refine TO.nil ?_
    refine T.cond rfl (fun q4 => ?_) (fun q4 => ?_)
    · replace h := condT q4 h
      refine T.seq ?_
      refine T.clean (H0 := [some ⟨ver0, 2, 126, [[eL cY v2.1.b, I v2.1.p]]⟩, some ⟨0, 4, 81, [[I (0 : Int), I (0 : Int), I (0 : Int), I (0 : Int)]]⟩]) (e0 := envOf [(3, I v1.2), (2, .hp 1 0 4 0 0), (0, .hp 0 ver0 2 0 0)]) rfl (weak_cons rfl (weak_cons rfl (weak_cons rfl weak_nil))) ?_
      refine T.region ?_
      refine oN (EvN.mv (I v1.2) rfl) ?_
      refine oN (EvN.mv (.hp 0 ver0 2 0 0) rfl) ?_
      obtain ⟨v5, cv5, h⟩ := bindL h
      refine oA (EvA.call rfl rfl rfl ((F_spec_l17Rd_pick_P (⟨v2.1.b, v2.1.p⟩ : Xspec_l17Rd) (2 : Int) ver0 cv5).one 0 rfl (.cons (.hp rfl) (.cons (.pF rfl) .nil)) (rowsF_row rfl) (rowsF_row rfl) rfl)) ?_
      refine oN (EvN.build [I (3 : Int), I v1.2, I v5.2, I (0 : Int)] Try.underlying81 zs81 fs81 rfl rfl) ?_
      refine oV (EvA.st (cs := [I (3 : Int), I v1.2, I v5.2, I (0 : Int)]) ⟨0, 4, 81, [[I (3 : Int), I v1.2, I v5.2, I (0 : Int)]]⟩ ty81 rfl rfl rfl rfl rfl rfl rfl rfl rfl) ?_
      refine TO.nil ?_
      refine T.ret ?_
      obtain rfl := Option.some.inj h
      repeat first | refine retS ?_ | refine retB ?_
      exact ⟨envOf [(2, .fp (Ximpl_Instr.c (⟨(3 : Int), v1.2, v5.2, (0 : Int)⟩ : Ximpl_Instr)) 0)], [some ⟨ver0, 2, 126, [[eL cY ((⟨v5.1.b, v5.1.p⟩ : Xspec_l17Rd).b), I ((⟨v5.1.b, v5.1.p⟩ : Xspec_l17Rd).p)]]⟩], cutS rfl (.cons (.row (.cons (.fz (.of_isF 9 _ rfl)) (.cons (.fz (.of_isF 9 _ rfl)) .nil))) .nil) (stl_cons (.fz (Fz.fpL (ver := 0) (s := 4) (ty := 81) (rows := [[I (3 : Int), I v1.2, I v5.2, I (0 : Int)]]) rfl rfl rfl (.cons (.of_isF 9 _ rfl) (.cons (.of_isF 9 _ rfl) (.cons (.of_isF 9 _ rfl) (.cons (.of_isF 9 _ rfl) .nil)))))) stl_nil), Fin.ret (vs := [.agg (Ximpl_Instr.c (⟨(3 : Int), v1.2, v5.2, (0 : Int)⟩ : Ximpl_Instr))]) (.cons (.cellF (.agg (Ximpl_Instr.c (⟨(3 : Int), v1.2, v5.2, (0 : Int)⟩ : Ximpl_Instr))) ty81 rfl rfl) .nil) ⟨rfl, rfl⟩⟩
    · replace h := condF q4 h
      refine T.seq ?_
      refine T.clean (H0 := [some ⟨ver0, 2, 126, [[eL cY v2.1.b, I v2.1.p]]⟩, some ⟨0, 4, 81, [[I (0 : Int), I (0 : Int), I (0 : Int), I (0 : Int)]]⟩]) (e0 := envOf [(7, I v2.2), (3, I v1.2), (2, .hp 1 0 4 0 0), (0, .hp 0 ver0 2 0 0)]) rfl (weak_cons rfl (weak_cons rfl (weak_cons rfl (weak_cons rfl weak_nil)))) ?_
      refine T.region ?_
      refine oN (EvN.ieq rfl rfl) ?_
      refine oN (EvN.asg (Bo (v2.2 == (2 : Int))) rfl) ?_
      refine TO.nil ?_
      refine T.cond rfl (fun q6 => ?_) (fun q6 => ?_)
      · replace h := condT q6 h
        refine T.seq ?_
        refine T.region ?_
        refine oN (EvN.mv (I v1.2) rfl) ?_
        refine oN (EvN.mv (.hp 0 ver0 2 0 0) rfl) ?_
        obtain ⟨v7, cv7, h⟩ := bindL h
        refine oA (EvA.call rfl rfl rfl ((F_spec_l17Rd_pick_P (⟨v2.1.b, v2.1.p⟩ : Xspec_l17Rd) (2 : Int) ver0 cv7).one 0 rfl (.cons (.hp rfl) (.cons (.pF rfl) .nil)) (rowsF_row rfl) (rowsF_row rfl) rfl)) ?_
        refine oN (EvN.mv (.hp 0 ver0 2 0 0) rfl) ?_
        obtain ⟨v8, cv8, h⟩ := bindL h
        refine oA (EvA.call rfl rfl rfl ((F_spec_l17Rd_pick_P (⟨v7.1.b, v7.1.p⟩ : Xspec_l17Rd) (3 : Int) ver0 cv8).one 0 rfl (.cons (.hp rfl) (.cons (.pF rfl) .nil)) (rowsF_row rfl) (rowsF_row rfl) rfl)) ?_
        obtain ⟨g9, h⟩ := gdW h
        refine oN (EvN.add rfl rfl g9) ?_
        refine oN (EvN.build [I (5 : Int), I v1.2, I v7.2, I ((1 : Int) + v8.2)] Try.underlying81 zs81 fs81 rfl rfl) ?_
        refine oV (EvA.st (cs := [I (5 : Int), I v1.2, I v7.2, I ((1 : Int) + v8.2)]) ⟨0, 4, 81, [[I (5 : Int), I v1.2, I v7.2, I ((1 : Int) + v8.2)]]⟩ ty81 rfl rfl rfl rfl rfl rfl rfl rfl rfl) ?_
        refine TO.nil ?_
        refine T.ret ?_
        obtain rfl := Option.some.inj h
        repeat first | refine retS ?_ | refine retB ?_
        exact ⟨envOf [(2, .fp (Ximpl_Instr.c (⟨(5 : Int), v1.2, v7.2, ((1 : Int) + v8.2)⟩ : Ximpl_Instr)) 0)], [some ⟨ver0, 2, 126, [[eL cY ((⟨v8.1.b, v8.1.p⟩ : Xspec_l17Rd).b), I ((⟨v8.1.b, v8.1.p⟩ : Xspec_l17Rd).p)]]⟩], cutS rfl (.cons (.row (.cons (.fz (.of_isF 9 _ rfl)) (.cons (.fz (.of_isF 9 _ rfl)) .nil))) .nil) (stl_cons (.fz (Fz.fpL (ver := 0) (s := 4) (ty := 81) (rows := [[I (5 : Int), I v1.2, I v7.2, I ((1 : Int) + v8.2)]]) rfl rfl rfl (.cons (.of_isF 9 _ rfl) (.cons (.of_isF 9 _ rfl) (.cons (.of_isF 9 _ rfl) (.cons (.of_isF 9 _ rfl) .nil)))))) stl_nil), Fin.ret (vs := [.agg (Ximpl_Instr.c (⟨(5 : Int), v1.2, v7.2, ((1 : Int) + v8.2)⟩ : Ximpl_Instr))]) (.cons (.cellF (.agg (Ximpl_Instr.c (⟨(5 : Int), v1.2, v7.2, ((1 : Int) + v8.2)⟩ : Ximpl_Instr))) ty81 rfl rfl) .nil) ⟨rfl, rfl⟩⟩
      · replace h := condF q6 h
        obtain ⟨s10, h, ks10⟩ := bindL h
        refine T.joinF (G := Unit) (fun gh => True) (fun gh => [(26, Bo s10), (3, I v1.2), (2, .hp 1 0 4 0 0), (0, .hp 0 ver0 2 0 0)]) (fun gh => [some ⟨ver0, 2, 126, [[eL cY v2.1.b, I v2.1.p]]⟩, some ⟨0, 4, 81, [[I (0 : Int), I (0 : Int), I (0 : Int), I (0 : Int)]]⟩]) (fun gh hg => ?_) ?_
        · clear h
          have h := ks10
          clear ks10
          refine T.cond rfl (fun q12 => ?_) (fun q12 => ?_)
          · replace h := condT q12 h
            refine T.seq ?_
            refine T.region ?_
            refine oN (EvN.mv (I v1.2) rfl) ?_
            refine oN (EvN.mv (.hp 0 ver0 2 0 0) rfl) ?_
            obtain ⟨v13, cv13, h⟩ := bindL h
            refine oA (EvA.call rfl rfl rfl ((F_spec_l17Rd_pick_P (⟨v2.1.b, v2.1.p⟩ : Xspec_l17Rd) (3 : Int) ver0 cv13).one 0 rfl (.cons (.hp rfl) (.cons (.pF rfl) .nil)) (rowsF_row rfl) (rowsF_row rfl) rfl)) ?_
            obtain ⟨g14, h⟩ := gdW h
            refine oN (EvN.add rfl rfl g14) ?_
            refine oN (EvN.build [I (2 : Int), I v1.2, I (0 : Int), I ((1 : Int) + v13.2)] Try.underlying81 zs81 fs81 rfl rfl) ?_
            refine oV (EvA.st (cs := [I (2 : Int), I v1.2, I (0 : Int), I ((1 : Int) + v13.2)]) ⟨0, 4, 81, [[I (2 : Int), I v1.2, I (0 : Int), I ((1 : Int) + v13.2)]]⟩ ty81 rfl rfl rfl rfl rfl rfl rfl rfl rfl) ?_
            refine TO.nil ?_
            refine T.ret ?_
            obtain rfl := Option.some.inj h
            repeat first | refine retS ?_ | refine retB ?_
            exact ⟨envOf [(2, .fp (Ximpl_Instr.c (⟨(2 : Int), v1.2, (0 : Int), ((1 : Int) + v13.2)⟩ : Ximpl_Instr)) 0)], [some ⟨ver0, 2, 126, [[eL cY ((⟨v13.1.b, v13.1.p⟩ : Xspec_l17Rd).b), I ((⟨v13.1.b, v13.1.p⟩ : Xspec_l17Rd).p)]]⟩], cutS rfl (.cons (.row (.cons (.fz (.of_isF 9 _ rfl)) (.cons (.fz (.of_isF 9 _ rfl)) .nil))) .nil) (stl_cons (.fz (Fz.fpL (ver := 0) (s := 4) (ty := 81) (rows := [[I (2 : Int), I v1.2, I (0 : Int), I ((1 : Int) + v13.2)]]) rfl rfl rfl (.cons (.of_isF 9 _ rfl) (.cons (.of_isF 9 _ rfl) (.cons (.of_isF 9 _ rfl) (.cons (.of_isF 9 _ rfl) .nil)))))) stl_nil), Fin.ret (vs := [.agg (Ximpl_Instr.c (⟨(2 : Int), v1.2, (0 : Int), ((1 : Int) + v13.2)⟩ : Ximpl_Instr))]) (.cons (.cellF (.agg (Ximpl_Instr.c (⟨(2 : Int), v1.2, (0 : Int), ((1 : Int) + v13.2)⟩ : Ximpl_Instr))) ty81 rfl rfl) .nil) ⟨rfl, rfl⟩⟩
          · replace h := condF q12 h
            refine T.skip ?_
            refine T.seq ?_
            refine T.region ?_
            refine oN (EvN.mv (I v1.2) rfl) ?_
            refine oN (EvN.mv (.hp 0 ver0 2 0 0) rfl) ?_
            obtain ⟨v15, cv15, h⟩ := bindL h
            refine oA (EvA.call rfl rfl rfl ((F_spec_l17Rd_pick_P (⟨v2.1.b, v2.1.p⟩ : Xspec_l17Rd) (2 : Int) ver0 cv15).one 0 rfl (.cons (.hp rfl) (.cons (.pF rfl) .nil)) (rowsF_row rfl) (rowsF_row rfl) rfl)) ?_
            refine oN (EvN.build [I (1 : Int), I v1.2, I v15.2, I (0 : Int)] Try.underlying81 zs81 fs81 rfl rfl) ?_
            refine oV (EvA.st (cs := [I (1 : Int), I v1.2, I v15.2, I (0 : Int)]) ⟨0, 4, 81, [[I (1 : Int), I v1.2, I v15.2, I (0 : Int)]]⟩ ty81 rfl rfl rfl rfl rfl rfl rfl rfl rfl) ?_
            refine TO.nil ?_
            refine T.ret ?_
            obtain rfl := Option.some.inj h
            repeat first | refine retS ?_ | refine retB ?_
            exact ⟨envOf [(2, .fp (Ximpl_Instr.c (⟨(1 : Int), v1.2, v15.2, (0 : Int)⟩ : Ximpl_Instr)) 0)], [some ⟨ver0, 2, 126, [[eL cY ((⟨v15.1.b, v15.1.p⟩ : Xspec_l17Rd).b), I ((⟨v15.1.b, v15.1.p⟩ : Xspec_l17Rd).p)]]⟩], cutS rfl (.cons (.row (.cons (.fz (.of_isF 9 _ rfl)) (.cons (.fz (.of_isF 9 _ rfl)) .nil))) .nil) (stl_cons (.fz (Fz.fpL (ver := 0) (s := 4) (ty := 81) (rows := [[I (1 : Int), I v1.2, I v15.2, I (0 : Int)]]) rfl rfl rfl (.cons (.of_isF 9 _ rfl) (.cons (.of_isF 9 _ rfl) (.cons (.of_isF 9 _ rfl) (.cons (.of_isF 9 _ rfl) .nil)))))) stl_nil), Fin.ret (vs := [.agg (Ximpl_Instr.c (⟨(1 : Int), v1.2, v15.2, (0 : Int)⟩ : Ximpl_Instr))]) (.cons (.cellF (.agg (Ximpl_Instr.c (⟨(1 : Int), v1.2, v15.2, (0 : Int)⟩ : Ximpl_Instr))) ty81 rfl rfl) .nil) ⟨rfl, rfl⟩⟩
        · clear ks10
          refine T.seq ?_
          refine T.region ?_
          refine oN (EvN.ieq rfl rfl) ?_
          refine oN (EvN.asg (Bo (v2.2 == (3 : Int))) rfl) ?_
          refine TO.nil ?_
          refine T.cond rfl (fun q11 => ?_) (fun q11 => ?_)
          · replace h := condT q11 h
            refine T.skip ?_
            obtain rfl := Option.some.inj h
            exact ⟨(), trivial, cutW rfl (weak_cons rfl (weak_cons rfl (weak_cons rfl (weak_cons rfl weak_nil))))⟩
          · replace h := condF q11 h
            refine T.region ?_
            refine oN (EvN.ieq rfl rfl) ?_
            refine oN (EvN.asg (Bo (v2.2 == (4 : Int))) rfl) ?_
            refine TO.nil ?_
            obtain rfl := Option.some.inj h
            exact ⟨(), trivial, cutW rfl (weak_cons rfl (weak_cons rfl (weak_cons rfl (weak_cons rfl weak_nil))))⟩

theorem F_spec_l1Draw_P (r_ : Xspec_l17Rd) (ver0 : Nat) {q : Xspec_l17Rd × (List (List Ximpl_Instr))} (h : F_spec_l1Draw r_ = some q) : ACall Try.prog 59 [.hp 0 ver0 2 0 0] [some ⟨ver0, 2, 126, [[eL cY r_.b, I r_.p]]⟩] (eL (cL Ximpl_Instr.c) q.2) [some ⟨ver0, 2, 126, [[eL cY q.1.b, I q.1.p]]⟩] := by
  refine ACall.mkT Try.func59 rfl (by kernel_rfl) rfl (by kernel_rfl) (e0 := envOf [(0, .hp 0 ver0 2 0 0)]) (weak_cons rfl weak_nil) ?_
  refine T.seq ?_
  refine T.region ?_
  refine oN (EvN.asg (.nil) rfl) ?_
  refine TO.nil ?_
  refine T.seq ?_
  refine T.region ?_
  obtain ⟨v1, cv1, h⟩ := bindL h
  refine oN (EvN.call rfl rfl rfl (F_spec_l1Tests_P  cv1) rfl) ?_
  refine oN (EvN.asg (eL cS v1) rfl) ?_
  refine TO.nil ?_
  obtain ⟨Ks2, es2, ws2, h, ks2⟩ := sumL h
  refine T.join (S := (List Int) × Int) (G := Unit) (fun s2 => Ks2 s2 = some q) (fun s2 gh => True) (fun s2 gh => [(0, .hp 0 ver0 2 0 0)]) (fun s2 gh => [some ⟨ver0, 2, 126, [[eL cY s2.1, I s2.2]]⟩]) (fun s2 gh h hg => ?_) ?_
  · clear ks2
    subst es2
    refine T.seq ?_
    refine T.region ?_
    refine oA (EvA.mkO (c := (cL Ximpl_Instr.c)) ([] : List (List Ximpl_Instr)) [] sl23 rfl rfl rfl (fun _ => rfl) rfl rfl) ?_
    refine oN (EvN.asg (hS false 1 0 1 (([] : List (List Ximpl_Instr)).length)) rfl) ?_
    refine TO.nil ?_
    obtain ⟨s9, h, ks9⟩ := bindL h
    refine T.joinF (G := Nat) (fun gh => True) (fun gh => [(6, hS false 1 gh 1 s9.2.2.length), (0, .hp 0 ver0 2 0 0)]) (fun gh => [some ⟨ver0, 2, 126, [[eL cY s9.1, I s9.2.1]]⟩, bE false gh 1 78 (s9.2.2.map (cL Ximpl_Instr.c))]) (fun u31 hg => ?_) ?_
    · clear h
      have h := ks9
      clear ks9
      refine T.seq ?_
      refine T.seq ?_
      refine T.region ?_
      refine oN (EvN.mv (hS false 1 u31 1 s9.2.2.length) rfl) ?_
      obtain ⟨v32, cv32, h⟩ := bindL h
      refine oA (EvA.callT rfl rfl (F_spec_ProgramValid_P s9.2.2 cv32) (.cons (Fz.own (g := false) (ver := u31) (l := s9.2.2) rfl rfl rfl nofun (fun _ => rfl)) .nil) rfl) ?_
      refine TO.nil ?_
      refine T.cond rfl (fun q33 => ?_) (fun q33 => ?_)
      · replace h := condT q33 h
        refine T.seq ?_
        refine T.region ?_
        refine oN (EvN.mv (hS false 1 u31 1 s9.2.2.length) rfl) ?_
        refine oN (EvN.asg (hS false 1 u31 1 s9.2.2.length) rfl) ?_
        refine TO.nil ?_
        refine T.ret ?_
        obtain rfl := Option.some.inj h
        repeat first | refine retS ?_ | refine retB ?_
        exact ⟨envOf [(2, eL (cL Ximpl_Instr.c) s9.2.2)], [some ⟨ver0, 2, 126, [[eL cY ((⟨s9.1, s9.2.1⟩ : Xspec_l17Rd).b), I ((⟨s9.1, s9.2.1⟩ : Xspec_l17Rd).p)]]⟩], cutS rfl (.cons (.row (.cons (.fz (.of_isF 9 _ rfl)) (.cons (.fz (.of_isF 9 _ rfl)) .nil))) .nil) (stl_cons (.fz (Fz.own (g := false) (ver := u31) (l := s9.2.2) rfl rfl rfl nofun (fun _ => rfl))) stl_nil), Fin.ret (vs := [eL (cL Ximpl_Instr.c) s9.2.2]) (.cons (.tmp rfl) .nil) ⟨rfl, rfl⟩⟩
      · replace h := condF q33 h
        refine T.skip ?_
        refine T.seq ?_
        refine T.region ?_
        refine oN (EvN.mv (.hp 0 ver0 2 0 0) rfl) ?_
        obtain ⟨v34, cv34, h⟩ := bindL h
        refine oA (EvA.call rfl rfl rfl ((F_spec_l1Instr_P (⟨s9.1, s9.2.1⟩ : Xspec_l17Rd) ver0 cv34).one 0 rfl (.cons (.hp rfl) .nil) (rowsF_row rfl) (rowsF_row rfl) rfl)) ?_
        refine oN (EvN.mkF (c := Ximpl_Instr.c) ([v34.2] : List Ximpl_Instr) [[I v34.2.Op, I v34.2.Loc, I v34.2.Reg, I v34.2.Val]] sl78 rfl rfl rfl (fun _ => rfl) Ximpl_Instr.isF rfl) ?_
        refine oN (EvN.mkF (c := (cL Ximpl_Instr.c)) ([([v34.2] : List Ximpl_Instr)] : List (List Ximpl_Instr)) [[eL Ximpl_Instr.c ([v34.2] : List Ximpl_Instr)]] sl23 rfl rfl rfl (fun _ => rfl) (fun _ => rfl) rfl) ?_
        refine oN (EvN.asg (eL (cL Ximpl_Instr.c) ([([v34.2] : List Ximpl_Instr)] : List (List Ximpl_Instr))) rfl) ?_
        refine TO.nil ?_
        refine T.ret ?_
        obtain rfl := Option.some.inj h
        repeat first | refine retS ?_ | refine retB ?_
        exact ⟨envOf [(2, eL (cL Ximpl_Instr.c) ([([v34.2] : List Ximpl_Instr)] : List (List Ximpl_Instr)))], [some ⟨ver0, 2, 126, [[eL cY ((⟨v34.1.b, v34.1.p⟩ : Xspec_l17Rd).b), I ((⟨v34.1.b, v34.1.p⟩ : Xspec_l17Rd).p)]]⟩], cutS rfl (.cons (.row (.cons (.fz (.of_isF 9 _ rfl)) (.cons (.fz (.of_isF 9 _ rfl)) .nil))) .nil) (stl_cons (.fz (.of_isF 9 _ rfl)) stl_nil), Fin.ret (vs := [eL (cL Ximpl_Instr.c) ([([v34.2] : List Ximpl_Instr)] : List (List Ximpl_Instr))]) (.cons (.tmp rfl) .nil) ⟨rfl, rfl⟩⟩
    · clear ks9
      refine T.seq ?_
      refine T.region ?_
      refine oN (EvN.mv (.hp 0 ver0 2 0 0) rfl) ?_
      refine oN (EvN.mkF (c := cI) ([(2 : Int), (3 : Int), (1 : Int)] : List Int) [[I (2 : Int)], [I (3 : Int)], [I (1 : Int)]] sl37 rfl rfl rfl (fun _ => rfl) (fun _ => rfl) rfl) ?_
      obtain ⟨v10, cv10, h⟩ := bindL h
      refine oA (EvA.call rfl rfl rfl ((F_spec_l17Rd_num_P (⟨s2.1, s2.2⟩ : Xspec_l17Rd) ([(2 : Int), (3 : Int), (1 : Int)] : List Int) ver0 cv10).one 0 rfl (.cons (.hp rfl) (.cons (.pF rfl) .nil)) (rowsF_row rfl) (rowsF_row rfl) rfl)) ?_
      refine oN (EvN.asg (I v10.2) rfl) ?_
      refine TO.nil ?_
      refine T.block ?_
      refine T.loop (S := (List Int) × Int × (List (List Ximpl_Instr)) × Int) (G := Nat) F_spec_l1Draw_L13 (fun s12 gh => True) (fun s12 gh => [(7, I s12.2.2.2), (6, hS false 1 gh 1 s12.2.2.1.length), (0, .hp 0 ver0 2 0 0)]) (fun s12 gh => [some ⟨ver0, 2, 126, [[eL cY s12.1, I s12.2.1]]⟩, bE false gh 1 78 (s12.2.2.1.map (cL Ximpl_Instr.c))]) (s0 := (v10.1.b, v10.1.p, ([] : List (List Ximpl_Instr)), v10.2)) 0 h trivial (cutW rfl (weak_cons rfl (weak_cons rfl (weak_cons rfl weak_nil)))) (fun s12 u14 ws12 h hg => ?_)
      refine T.seq ?_
      refine T.seq ?_
      refine T.region ?_
      refine oN (EvN.mv (I s12.2.2.2) rfl) ?_
      refine oN (EvN.igt rfl rfl) ?_
      refine TO.nil ?_
      refine T.cond rfl (fun q15 => ?_) (fun q15 => ?_)
      · replace h := condT q15 h
        refine T.skip ?_
        obtain ⟨s16, h, ks16⟩ := bindL h
        refine T.joinF (G := Nat) (fun gh => True) (fun gh => [(6, hS false 1 gh 1 s16.2.2.length), (7, I s12.2.2.2), (0, .hp 0 ver0 2 0 0)]) (fun gh => [some ⟨ver0, 2, 126, [[eL cY s16.1, I s16.2.1]]⟩, bE false gh 1 78 (s16.2.2.map (cL Ximpl_Instr.c))]) (fun u29 hg => ?_) ?_
        · clear h
          have h := ks16
          clear ks16
          refine T.region ?_
          refine oN (EvN.mv (I s12.2.2.2) rfl) ?_
          obtain ⟨g30, h⟩ := gdW h
          refine oN (EvN.sub rfl rfl g30) ?_
          refine oN (EvN.asg (I (s12.2.2.2 - (1 : Int))) rfl) ?_
          refine TO.nil ?_
          obtain rfl := Option.some.inj h
          exact ⟨(s16.1, s16.2.1, s16.2.2, (s12.2.2.2 - (1 : Int))), u29, rfl, trivial, cutW rfl (weak_cons rfl (weak_cons rfl (weak_cons rfl weak_nil)))⟩
        · clear ks16
          refine T.block ?_
          refine T.seq ?_
          refine T.region ?_
          refine oA (EvA.mkO (c := Ximpl_Instr.c) ([] : List Ximpl_Instr) [] sl78 rfl rfl rfl (fun _ => rfl) rfl rfl) ?_
          refine oN (EvN.asg (hS false 2 0 4 (([] : List Ximpl_Instr).length)) rfl) ?_
          refine TO.nil ?_
          obtain ⟨s17, h, ks17⟩ := bindL h
          refine T.joinF (G := Nat) (fun gh => True) (fun gh => [(8, hS false 2 gh 4 s17.2.2.length), (7, I s12.2.2.2), (6, hS false 1 u14 1 s12.2.2.1.length), (0, .hp 0 ver0 2 0 0)]) (fun gh => [some ⟨ver0, 2, 126, [[eL cY s17.1, I s17.2.1]]⟩, bE false u14 1 78 (s12.2.2.1.map (cL Ximpl_Instr.c)), bE false gh 4 81 (s17.2.2.map Ximpl_Instr.c)]) (fun u27 hg => ?_) ?_
          · clear h
            have h := ks17
            clear ks17
            refine T.region ?_
            refine oN (EvN.mv (hS false 1 u14 1 s12.2.2.1.length) rfl) ?_
            refine oN (EvN.mv (hS false 2 u27 4 s17.2.2.length) rfl) ?_
            refine oA (EvA.mkR [[hS false 2 u27 4 s17.2.2.length]] sl23 rfl rfl rfl rfl) ?_
            obtain ⟨g28, h⟩ := gdL h
            refine oA (EvA.appR (g := false) (rows := s12.2.2.1.map (cL Ximpl_Instr.c)) (rows' := s12.2.2.1.map (cL Ximpl_Instr.c) ++ [[hS false 2 u27 4 s17.2.2.length]]) (n' := s12.2.2.1.length + 1) sl23 (by kernel_rfl) rfl rfl (by simp) nofun (SrcOk.raw (rows := [[hS false 2 u27 4 s17.2.2.length]]) rfl rfl rfl) g28 rfl rfl) ?_
            refine oN (EvN.asg (hS false 1 (u14 + 1) 1 (s12.2.2.1.length + 1)) rfl) ?_
            refine TO.nil ?_
            obtain rfl := Option.some.inj h
            exact ⟨u14 + 1, trivial, cutS rfl (.cons (.row (.cons (.fz (.of_isF 9 _ rfl)) (.cons (.fz (.of_isF 9 _ rfl)) .nil))) (.cons (.snoc (fun _ => rfl) (.cons (.cons (.fz (Fz.own (g := false) (ver := u27) (l := s17.2.2) rfl rfl rfl nofun Ximpl_Instr.isF)) .nil) .nil)) .nil)) (stl_cons (.eqv (congrArg (hS false 1 (u14 + 1) 1) (by simp : (s12.2.2.1.length + 1) = (s12.2.2.1 ++ [s17.2.2]).length)) (.hS (g := false) (b := 1) (ver := u14 + 1) (s := 1) (n := (s12.2.2.1 ++ [s17.2.2]).length) rfl)) (stl_cons (.fz (.of_isF 9 _ rfl)) (stl_cons (.hp (Nat.le_of_ble_eq_true rfl)) stl_nil)))⟩
          · clear ks17
            refine T.seq ?_
            refine T.region ?_
            refine oN (EvN.mv (.hp 0 ver0 2 0 0) rfl) ?_
            refine oN (EvN.mkF (c := cI) ([(2 : Int), (1 : Int), (3 : Int), (2 : Int), (0 : Int)] : List Int) [[I (2 : Int)], [I (1 : Int)], [I (3 : Int)], [I (2 : Int)], [I (0 : Int)]] sl37 rfl rfl rfl (fun _ => rfl) (fun _ => rfl) rfl) ?_
            obtain ⟨v18, cv18, h⟩ := bindL h
            refine oA (EvA.call rfl rfl rfl ((F_spec_l17Rd_num_P (⟨s12.1, s12.2.1⟩ : Xspec_l17Rd) ([(2 : Int), (1 : Int), (3 : Int), (2 : Int), (0 : Int)] : List Int) ver0 cv18).one 0 rfl (.cons (.hp rfl) (.cons (.pF rfl) .nil)) (rowsF_row rfl) (rowsF_row rfl) rfl)) ?_
            refine oN (EvN.asg (I v18.2) rfl) ?_
            refine TO.nil ?_
            refine T.block ?_
            refine T.loop (S := (List Int) × Int × (List Ximpl_Instr) × Int) (G := Nat) F_spec_l1Draw_L21 (fun s20 gh => True) (fun s20 gh => [(9, I s20.2.2.2), (8, hS false 2 gh 4 s20.2.2.1.length), (7, I s12.2.2.2), (6, hS false 1 u14 1 s12.2.2.1.length), (0, .hp 0 ver0 2 0 0)]) (fun s20 gh => [some ⟨ver0, 2, 126, [[eL cY s20.1, I s20.2.1]]⟩, bE false u14 1 78 (s12.2.2.1.map (cL Ximpl_Instr.c)), bE false gh 4 81 (s20.2.2.1.map Ximpl_Instr.c)]) (s0 := (v18.1.b, v18.1.p, ([] : List Ximpl_Instr), v18.2)) 0 h trivial (cutW rfl (weak_cons rfl (weak_cons rfl (weak_cons rfl (weak_cons rfl (weak_cons rfl weak_nil)))))) (fun s20 u22 ws20 h hg => ?_)
            refine T.seq ?_
            refine T.seq ?_
            refine T.region ?_
            refine oN (EvN.mv (I s20.2.2.2) rfl) ?_
            refine oN (EvN.igt rfl rfl) ?_
            refine TO.nil ?_
            refine T.cond rfl (fun q23 => ?_) (fun q23 => ?_)
            · replace h := condT q23 h
              refine T.skip ?_
              refine T.seq ?_
              refine T.block ?_
              refine T.region ?_
              refine oN (EvN.mv (hS false 2 u22 4 s20.2.2.1.length) rfl) ?_
              refine oN (EvN.mv (.hp 0 ver0 2 0 0) rfl) ?_
              obtain ⟨v24, cv24, h⟩ := bindL h
              refine oA (EvA.call rfl rfl rfl ((F_spec_l1Instr_P (⟨s20.1, s20.2.1⟩ : Xspec_l17Rd) ver0 cv24).one 0 rfl (.cons (.hp rfl) .nil) (rowsF_row rfl) (rowsF_row rfl) rfl)) ?_
              refine oN (EvN.mkF (c := Ximpl_Instr.c) ([v24.2] : List Ximpl_Instr) [[I v24.2.Op, I v24.2.Loc, I v24.2.Reg, I v24.2.Val]] sl78 rfl rfl rfl (fun _ => rfl) Ximpl_Instr.isF rfl) ?_
              obtain ⟨g25, h⟩ := gdL h
              refine oA (EvA.app1 (g := false) (l := s20.2.2.1) v24.2 sl78 (by kernel_rfl) rfl rfl rfl nofun (SrcOk.fz (l := ([v24.2] : List Ximpl_Instr)) rfl (fun _ => rfl)) g25) ?_
              refine oN (EvN.asg (hS false 2 (u22 + 1) 4 ((s20.2.2.1 ++ [v24.2]).length)) rfl) ?_
              refine TO.nil ?_
              refine T.clean (H0 := [some ⟨ver0, 2, 126, [[eL cY v24.1.b, I v24.1.p]]⟩, bE false u14 1 78 (s12.2.2.1.map (cL Ximpl_Instr.c)), bE false (u22 + 1) 4 81 ((s20.2.2.1 ++ [v24.2]).map Ximpl_Instr.c)]) (e0 := envOf [(8, hS false 2 (u22 + 1) 4 ((s20.2.2.1 ++ [v24.2]).length)), (9, I s20.2.2.2), (7, I s12.2.2.2), (6, hS false 1 u14 1 s12.2.2.1.length), (0, .hp 0 ver0 2 0 0)]) rfl (weak_cons rfl (weak_cons rfl (weak_cons rfl (weak_cons rfl (weak_cons rfl weak_nil))))) ?_
              refine T.region ?_
              refine oN (EvN.mv (I s20.2.2.2) rfl) ?_
              obtain ⟨g26, h⟩ := gdW h
              refine oN (EvN.sub rfl rfl g26) ?_
              refine oN (EvN.asg (I (s20.2.2.2 - (1 : Int))) rfl) ?_
              refine TO.nil ?_
              obtain rfl := Option.some.inj h
              exact ⟨(v24.1.b, v24.1.p, (s20.2.2.1 ++ [v24.2]), (s20.2.2.2 - (1 : Int))), u22 + 1, rfl, trivial, cutW rfl (weak_cons rfl (weak_cons rfl (weak_cons rfl (weak_cons rfl (weak_cons rfl weak_nil)))))⟩
            · replace h := condF q23 h
              refine T.exit ?_
              refine ⟨_, (Option.some.inj h).symm, fun h => ?_⟩
              replace h := congrArg some h
              obtain rfl := Option.some.inj h
              exact ⟨u22, trivial, cutW rfl (weak_cons rfl (weak_cons rfl (weak_cons rfl (weak_cons rfl weak_nil))))⟩
      · replace h := condF q15 h
        refine T.exit ?_
        refine ⟨_, (Option.some.inj h).symm, fun h => ?_⟩
        replace h := congrArg some h
        obtain rfl := Option.some.inj h
        exact ⟨u14, trivial, cutW rfl (weak_cons rfl (weak_cons rfl weak_nil))⟩
  · refine T.seq ?_
    refine T.region ?_
    refine oN (EvN.mv (.hp 0 ver0 2 0 0) rfl) ?_
    obtain ⟨v3, cv3, h⟩ := bindL h
    refine oA (EvA.call rfl rfl rfl ((F_spec_l17Rd_pick_P (⟨r_.b, r_.p⟩ : Xspec_l17Rd) (3 : Int) ver0 cv3).one 0 rfl (.cons (.hp rfl) (.cons (.pF rfl) .nil)) (rowsF_row rfl) (rowsF_row rfl) rfl)) ?_
    refine oN (EvN.igt rfl rfl) ?_
    refine TO.nil ?_
    refine T.cond rfl (fun q4 => ?_) (fun q4 => ?_)
    · replace h := condT q4 h
      refine T.seq ?_
      refine T.region ?_
      refine oN (EvN.mv (eL cS v1) rfl) ?_
      refine oN (EvN.mv (.hp 0 ver0 2 0 0) rfl) ?_
      refine oN (EvN.mv (eL cS v1) rfl) ?_
      refine oN (EvN.lenL sl127 rfl) ?_
      obtain ⟨v5, cv5, h⟩ := bindL h
      refine oA (EvA.call rfl rfl rfl ((F_spec_l17Rd_pick_P (⟨v3.1.b, v3.1.p⟩ : Xspec_l17Rd) (v1.length : Int) ver0 cv5).one 0 rfl (.cons (.hp rfl) (.cons (.pF rfl) .nil)) (rowsF_row rfl) (rowsF_row rfl) rfl)) ?_
      obtain ⟨g6, h⟩ := gdD h
      refine oN (EvN.ixL sl127 rfl rfl g6 (fun _ => rfl)) ?_
      refine oN (EvN.loadfp (St (v1.getD v5.2.toNat default)) ty9 rfl rfl) ?_
      obtain ⟨v7, cv7, h⟩ := bindL h
      refine oN (EvN.call rfl rfl rfl (F_spec_ParseProgram_P (v1.getD v5.2.toNat default) cv7) rfl) ?_
      refine oN (EvN.mv (.tup [eL (cL Ximpl_Instr.c) v7.1, Bo v7.2]) rfl) ?_
      refine oN (EvN.ext (eL (cL Ximpl_Instr.c) v7.1) rfl rfl) ?_
      refine oN (EvN.ext (Bo v7.2) rfl rfl) ?_
      refine oN (EvN.asg (eL (cL Ximpl_Instr.c) v7.1) rfl) ?_
      refine oN (EvN.asg (Bo v7.2) rfl) ?_
      refine TO.nil ?_
      refine T.seq ?_
      refine T.clean (H0 := [some ⟨ver0, 2, 126, [[eL cY v5.1.b, I v5.1.p]]⟩]) (e0 := envOf [(5, Bo v7.2), (4, eL (cL Ximpl_Instr.c) v7.1), (0, .hp 0 ver0 2 0 0)]) rfl (weak_cons rfl (weak_cons rfl (weak_cons rfl weak_nil))) ?_
      refine T.region ?_
      refine oN (EvN.mv (Bo v7.2) rfl) ?_
      refine TO.nil ?_
      refine T.cond rfl (fun q8 => ?_) (fun q8 => ?_)
      · replace h := condT q8 h
        refine T.seq ?_
        refine T.region ?_
        refine oN (EvN.mv (eL (cL Ximpl_Instr.c) v7.1) rfl) ?_
        refine oN (EvN.asg (eL (cL Ximpl_Instr.c) v7.1) rfl) ?_
        refine TO.nil ?_
        refine T.ret ?_
        obtain rfl := Option.some.inj h
        replace h := congrArg some (show _ = _ from ks2)
        obtain rfl := Option.some.inj h
        repeat first | refine retS ?_ | refine retB ?_
        exact ⟨envOf [(2, eL (cL Ximpl_Instr.c) v7.1)], [some ⟨ver0, 2, 126, [[eL cY ((⟨v5.1.b, v5.1.p⟩ : Xspec_l17Rd).b), I ((⟨v5.1.b, v5.1.p⟩ : Xspec_l17Rd).p)]]⟩], cutW rfl (weak_cons rfl weak_nil), Fin.ret (vs := [eL (cL Ximpl_Instr.c) v7.1]) (.cons (.tmp rfl) .nil) ⟨rfl, rfl⟩⟩
      · replace h := condF q8 h
        refine T.skip ?_
        obtain rfl := Option.some.inj h
        exact ⟨(v5.1.b, v5.1.p), (), ks2, trivial, cutW rfl (weak_cons rfl weak_nil)⟩
    · replace h := condF q4 h
      refine T.skip ?_
      obtain rfl := Option.some.inj h
      exact ⟨(v3.1.b, v3.1.p), (), ks2, trivial, cutW rfl (weak_cons rfl weak_nil)⟩

theorem F_spec_l1Writes_P (x : Ximpl_Instr) {q : Bool} (h : F_spec_l1Writes x = some q) : PCall Try.prog 138 [.agg (Ximpl_Instr.c x)] (Bo q) := by
  refine PCall.mkT Try.func138 rfl (by kernel_rfl) rfl (by kernel_rfl) (e0 := envOf [(0, .agg (Ximpl_Instr.c x))]) (weak_cons rfl weak_nil) ?_
  refine T.seq ?_
  refine T.region ?_
  refine oN (EvN.bxF [I x.Op, I x.Loc, I x.Reg, I x.Val] rfl rfl rfl) ?_
  refine oN (EvN.asg (Bo false) rfl) ?_
  refine TO.nil ?_
  refine T.seq ?_
  refine T.region ?_
  refine oN (EvN.fafp Try.underlying81 rfl (by kernel_rfl) rfl) ?_
  refine oN (EvN.loadfp (I x.Op) ty3 rfl rfl) ?_
  refine oN (EvN.ieq rfl rfl) ?_
  refine oN (EvN.mv (Bo (x.Op == (2 : Int))) rfl) ?_
  obtain ⟨s1, h, ks1⟩ := bindL h
  refine TO.joinF (G := Unit) 4 (fun _ => True) (fun _ => [(10, Bo s1), (1, .fp (Ximpl_Instr.c x) 0)]) (fun _ => []) ?_ (fun js1 => ?_)
  rotate_left
  · clear ks1
    rcases bifL h with ⟨q2, h⟩ | ⟨q2, h⟩
    · refine gS rfl q2 ?_
      refine gS rfl q2 ?_
      refine gS rfl q2 ?_
      refine oN (EvN.pickT rfl q2 (Bo true) rfl) ?_
      obtain rfl := Option.some.inj h
      exact js1 _ _ ⟨(), trivial, cutW rfl (weak_cons rfl (weak_cons rfl weak_nil))⟩
    · refine gN rfl q2 (EvN.fafp Try.underlying81 rfl (by kernel_rfl) rfl) ?_
      refine gN rfl q2 (EvN.loadfp (I x.Op) ty3 rfl rfl) ?_
      refine gN rfl q2 (EvN.ieq rfl rfl) ?_
      refine oN (EvN.pickF rfl q2 (Bo (x.Op == (3 : Int))) rfl) ?_
      obtain rfl := Option.some.inj h
      exact js1 _ _ ⟨(), trivial, cutW rfl (weak_cons rfl (weak_cons rfl weak_nil))⟩
  · intro _ _
    replace h := ks1
    clear ks1
    refine oN (EvN.mv (Bo s1) rfl) ?_
    obtain ⟨s3, h, ks3⟩ := bindL h
    refine TO.joinF (G := Unit) 4 (fun _ => True) (fun _ => [(15, Bo s3)]) (fun _ => []) ?_ (fun js3 => ?_)
    rotate_left
    · clear ks3
      rcases bifL h with ⟨q4, h⟩ | ⟨q4, h⟩
      · refine gS rfl q4 ?_
        refine gS rfl q4 ?_
        refine gS rfl q4 ?_
        refine oN (EvN.pickT rfl q4 (Bo true) rfl) ?_
        obtain rfl := Option.some.inj h
        exact js3 _ _ ⟨(), trivial, cutW rfl (weak_cons rfl weak_nil)⟩
      · refine gN rfl q4 (EvN.fafp Try.underlying81 rfl (by kernel_rfl) rfl) ?_
        refine gN rfl q4 (EvN.loadfp (I x.Op) ty3 rfl rfl) ?_
        refine gN rfl q4 (EvN.ieq rfl rfl) ?_
        refine oN (EvN.pickF rfl q4 (Bo (x.Op == (5 : Int))) rfl) ?_
        obtain rfl := Option.some.inj h
        exact js3 _ _ ⟨(), trivial, cutW rfl (weak_cons rfl weak_nil)⟩
    · intro _ _
      replace h := ks3
      clear ks3
      refine oN (EvN.asg (Bo s3) rfl) ?_
      refine TO.nil ?_
      refine T.ret ?_
      obtain rfl := Option.some.inj h
      repeat first | refine retS ?_ | refine retB ?_
      exact Fin.ret (vs := [Bo s3]) (.cons (.tmp rfl) .nil) (.of_isF 9 _ rfl)

theorem F_spec_l1Reads_P (x : Ximpl_Instr) {q : Bool} (h : F_spec_l1Reads x = some q) : PCall Try.prog 212 [.agg (Ximpl_Instr.c x)] (Bo q) := by
  refine PCall.mkT Try.func212 rfl (by kernel_rfl) rfl (by kernel_rfl) (e0 := envOf [(0, .agg (Ximpl_Instr.c x))]) (weak_cons rfl weak_nil) ?_
  refine T.seq ?_
  refine T.region ?_
  refine oN (EvN.bxF [I x.Op, I x.Loc, I x.Reg, I x.Val] rfl rfl rfl) ?_
  refine oN (EvN.asg (Bo false) rfl) ?_
  refine TO.nil ?_
  refine T.seq ?_
  refine T.region ?_
  refine oN (EvN.fafp Try.underlying81 rfl (by kernel_rfl) rfl) ?_
  refine oN (EvN.loadfp (I x.Op) ty3 rfl rfl) ?_
  refine oN (EvN.ieq rfl rfl) ?_
  refine oN (EvN.mv (Bo (x.Op == (1 : Int))) rfl) ?_
  obtain ⟨s1, h, ks1⟩ := bindL h
  refine TO.joinF (G := Unit) 4 (fun _ => True) (fun _ => [(10, Bo s1)]) (fun _ => []) ?_ (fun js1 => ?_)
  rotate_left
  · clear ks1
    rcases bifL h with ⟨q2, h⟩ | ⟨q2, h⟩
    · refine gS rfl q2 ?_
      refine gS rfl q2 ?_
      refine gS rfl q2 ?_
      refine oN (EvN.pickT rfl q2 (Bo true) rfl) ?_
      obtain rfl := Option.some.inj h
      exact js1 _ _ ⟨(), trivial, cutW rfl (weak_cons rfl weak_nil)⟩
    · refine gN rfl q2 (EvN.fafp Try.underlying81 rfl (by kernel_rfl) rfl) ?_
      refine gN rfl q2 (EvN.loadfp (I x.Op) ty3 rfl rfl) ?_
      refine gN rfl q2 (EvN.ieq rfl rfl) ?_
      refine oN (EvN.pickF rfl q2 (Bo (x.Op == (5 : Int))) rfl) ?_
      obtain rfl := Option.some.inj h
      exact js1 _ _ ⟨(), trivial, cutW rfl (weak_cons rfl weak_nil)⟩
  · intro _ _
    replace h := ks1
    clear ks1
    refine oN (EvN.asg (Bo s1) rfl) ?_
    refine TO.nil ?_
    refine T.ret ?_
    obtain rfl := Option.some.inj h
    repeat first | refine retS ?_ | refine retB ?_
    exact Fin.ret (vs := [Bo s1]) (.cons (.tmp rfl) .nil) (.of_isF 9 _ rfl)

theorem F_spec_l1Count_P (p : List (List Ximpl_Instr)) (loc : Int) (writes : Bool) {q : Int} (h : F_spec_l1Count p loc writes = some q) : PCall Try.prog 184 [eL (cL Ximpl_Instr.c) p, I loc, Bo writes] (I q) := by
  refine PCall.mkT Try.func184 rfl (by kernel_rfl) rfl (by kernel_rfl) (e0 := envOf [(0, eL (cL Ximpl_Instr.c) p), (1, I loc), (2, Bo writes)]) (weak_cons rfl (weak_cons rfl (weak_cons rfl weak_nil))) ?_
  refine T.seq ?_
  refine T.region ?_
  refine oN (EvN.asg (I (0 : Int)) rfl) ?_
  refine TO.nil ?_
  refine T.seq ?_
  refine T.region ?_
  refine oN (EvN.asg (I (0 : Int)) rfl) ?_
  refine TO.nil ?_
  obtain ⟨s1, h, ks1⟩ := bindL h
  refine T.joinF (G := Unit) (fun gh => True) (fun gh => [(7, I s1)]) (fun gh => []) (fun gh hg => ?_) ?_
  · clear h
    have h := ks1
    clear ks1
    refine T.seq ?_
    refine T.region ?_
    refine oN (EvN.mv (I s1) rfl) ?_
    refine oN (EvN.asg (I s1) rfl) ?_
    refine TO.nil ?_
    refine T.ret ?_
    obtain rfl := Option.some.inj h
    repeat first | refine retS ?_ | refine retB ?_
    exact Fin.ret (vs := [I s1]) (.cons (.tmp rfl) .nil) (.of_isF 9 _ rfl)
  · clear ks1
    refine T.seq ?_
    refine T.region ?_
    refine oN (EvN.asg (I (0 : Int)) rfl) ?_
    refine TO.nil ?_
    refine T.block ?_
    refine T.loop (S := Int × Int) (G := Unit) (F_spec_l1Count_L3 p loc writes) (fun s2 gh => True) (fun s2 gh => [(8, I s2.1), (7, I s2.2), (0, eL (cL Ximpl_Instr.c) p), (1, I loc), (2, Bo writes)]) (fun s2 gh => []) (s0 := ((0 : Int), (0 : Int))) () h trivial (cutW rfl (weak_cons rfl (weak_cons rfl (weak_cons rfl (weak_cons rfl (weak_cons rfl weak_nil)))))) (fun s2 gh ws2 h hg => ?_)
    refine T.seq ?_
    refine T.seq ?_
    refine T.region ?_
    refine oN (EvN.mv (I s2.1) rfl) ?_
    refine oN (EvN.mv (eL (cL Ximpl_Instr.c) p) rfl) ?_
    refine oN (EvN.lenL sl23 rfl) ?_
    refine oN (EvN.ilt rfl rfl) ?_
    refine TO.nil ?_
    refine T.cond rfl (fun q4 => ?_) (fun q4 => ?_)
    · replace h := condT q4 h
      refine T.skip ?_
      obtain ⟨s5, h, ks5⟩ := bindL h
      refine T.joinF (G := Unit) (fun gh => True) (fun gh => [(8, I s2.1), (7, I s5), (0, eL (cL Ximpl_Instr.c) p), (1, I loc), (2, Bo writes)]) (fun gh => []) (fun gh hg => ?_) ?_
      · clear h
        have h := ks5
        clear ks5
        refine T.region ?_
        refine oN (EvN.mv (I s2.1) rfl) ?_
        obtain ⟨g25, h⟩ := gdW h
        refine oN (EvN.add rfl rfl g25) ?_
        refine oN (EvN.asg (I (s2.1 + (1 : Int))) rfl) ?_
        refine TO.nil ?_
        obtain rfl := Option.some.inj h
        exact ⟨((s2.1 + (1 : Int)), s5), (), rfl, trivial, cutW rfl (weak_cons rfl (weak_cons rfl (weak_cons rfl (weak_cons rfl (weak_cons rfl weak_nil)))))⟩
      · clear ks5
        refine T.block ?_
        refine T.seq ?_
        refine T.region ?_
        refine oN (EvN.asg (I (0 : Int)) rfl) ?_
        refine TO.nil ?_
        refine T.block ?_
        refine T.loop (S := Int × Int) (G := Unit) (F_spec_l1Count_L7 p loc writes s2) (fun s6 gh => True) (fun s6 gh => [(9, I s6.1), (8, I s2.1), (7, I s6.2), (0, eL (cL Ximpl_Instr.c) p), (1, I loc), (2, Bo writes)]) (fun s6 gh => []) (s0 := ((0 : Int), s2.2)) () h trivial (cutW rfl (weak_cons rfl (weak_cons rfl (weak_cons rfl (weak_cons rfl (weak_cons rfl (weak_cons rfl weak_nil))))))) (fun s6 gh ws6 h hg => ?_)
        refine T.seq ?_
        refine T.seq ?_
        refine T.region ?_
        refine oN (EvN.mv (I s6.1) rfl) ?_
        refine oN (EvN.mv (eL (cL Ximpl_Instr.c) p) rfl) ?_
        refine oN (EvN.mv (I s2.1) rfl) ?_
        obtain ⟨g8, h⟩ := gdD h
        refine oN (EvN.ixL sl23 rfl rfl g8 (fun _ => rfl)) ?_
        refine oN (EvN.loadfp (eL Ximpl_Instr.c (p.getD s2.1.toNat default)) ty78 rfl rfl) ?_
        refine oN (EvN.lenL sl78 rfl) ?_
        refine oN (EvN.ilt rfl rfl) ?_
        refine TO.nil ?_
        refine T.cond rfl (fun q9 => ?_) (fun q9 => ?_)
        · replace h := condT q9 h
          refine T.skip ?_
          obtain ⟨s10, h, ks10⟩ := bindL h
          refine T.joinF (G := Unit) (fun gh => True) (fun gh => [(7, I s10), (9, I s6.1), (8, I s2.1), (0, eL (cL Ximpl_Instr.c) p), (1, I loc), (2, Bo writes)]) (fun gh => []) (fun gh hg => ?_) ?_
          · clear h
            have h := ks10
            clear ks10
            refine T.region ?_
            refine oN (EvN.mv (I s6.1) rfl) ?_
            obtain ⟨g24, h⟩ := gdW h
            refine oN (EvN.add rfl rfl g24) ?_
            refine oN (EvN.asg (I (s6.1 + (1 : Int))) rfl) ?_
            refine TO.nil ?_
            obtain rfl := Option.some.inj h
            exact ⟨((s6.1 + (1 : Int)), s10), (), rfl, trivial, cutW rfl (weak_cons rfl (weak_cons rfl (weak_cons rfl (weak_cons rfl (weak_cons rfl (weak_cons rfl weak_nil))))))⟩
          · clear ks10
            refine T.block ?_
            refine T.seq ?_
            refine T.clean (H0 := []) (e0 := envOf [(9, I s6.1), (8, I s2.1), (7, I s6.2), (0, eL (cL Ximpl_Instr.c) p), (1, I loc), (2, Bo writes)]) rfl (weak_cons rfl (weak_cons rfl (weak_cons rfl (weak_cons rfl (weak_cons rfl (weak_cons rfl weak_nil)))))) ?_
            refine T.region ?_
            refine oN (EvN.mv (eL (cL Ximpl_Instr.c) p) rfl) ?_
            refine oN (EvN.mv (I s2.1) rfl) ?_
            refine oN (EvN.ixL sl23 rfl rfl g8 (fun _ => rfl)) ?_
            refine oN (EvN.loadfp (eL Ximpl_Instr.c (p.getD s2.1.toNat default)) ty78 rfl rfl) ?_
            refine oN (EvN.mv (I s6.1) rfl) ?_
            obtain ⟨g11, h⟩ := gdD h
            refine oN (EvN.ixL sl78 rfl rfl g11 (fun _ => rfl)) ?_
            refine oN (EvN.loadfp (.agg (Ximpl_Instr.c ((p.getD s2.1.toNat default).getD s6.1.toNat default))) ty81 rfl rfl) ?_
            refine oA (EvA.al zs81 rfl rfl) ?_
            refine oV (EvA.st (cs := [I (((p.getD s2.1.toNat default).getD s6.1.toNat default).Op), I (((p.getD s2.1.toNat default).getD s6.1.toNat default).Loc), I (((p.getD s2.1.toNat default).getD s6.1.toNat default).Reg), I (((p.getD s2.1.toNat default).getD s6.1.toNat default).Val)]) ⟨0, 4, 81, [[I (((p.getD s2.1.toNat default).getD s6.1.toNat default).Op), I (((p.getD s2.1.toNat default).getD s6.1.toNat default).Loc), I (((p.getD s2.1.toNat default).getD s6.1.toNat default).Reg), I (((p.getD s2.1.toNat default).getD s6.1.toNat default).Val)]]⟩ ty81 rfl rfl rfl rfl rfl rfl rfl rfl rfl) ?_
            refine TO.nil ?_
            refine T.seq ?_
            refine T.clean (H0 := [some ⟨0, 4, 81, [[I (((p.getD s2.1.toNat default).getD s6.1.toNat default).Op), I (((p.getD s2.1.toNat default).getD s6.1.toNat default).Loc), I (((p.getD s2.1.toNat default).getD s6.1.toNat default).Reg), I (((p.getD s2.1.toNat default).getD s6.1.toNat default).Val)]]⟩]) (e0 := envOf [(10, .hp 0 0 4 0 0), (9, I s6.1), (8, I s2.1), (7, I s6.2), (0, eL (cL Ximpl_Instr.c) p), (1, I loc), (2, Bo writes)]) rfl (weak_cons rfl (weak_cons rfl (weak_cons rfl (weak_cons rfl (weak_cons rfl (weak_cons rfl (weak_cons rfl weak_nil))))))) ?_
            refine T.region ?_
            refine oN (EvN.fahp Try.underlying81 rfl (by kernel_rfl) rfl) ?_
            refine oA (EvA.loadhp (I (((p.getD s2.1.toNat default).getD s6.1.toNat default).Loc)) ty3 rfl rfl rfl rfl rfl rfl) ?_
            refine oN (EvN.mv (I loc) rfl) ?_
            refine oN (EvN.ieq rfl rfl) ?_
            refine oN (EvN.mv (Bo ((((p.getD s2.1.toNat default).getD s6.1.toNat default).Loc) == loc)) rfl) ?_
            obtain ⟨s12, h, ks12⟩ := bindL h
            refine TO.joinF (G := Unit) 14 (fun _ => True) (fun _ => [(51, Bo s12), (9, I s6.1), (8, I s2.1), (7, I s6.2), (0, eL (cL Ximpl_Instr.c) p), (1, I loc), (2, Bo writes)]) (fun _ => [some ⟨0, 4, 81, [[I (((p.getD s2.1.toNat default).getD s6.1.toNat default).Op), I (((p.getD s2.1.toNat default).getD s6.1.toNat default).Loc), I (((p.getD s2.1.toNat default).getD s6.1.toNat default).Reg), I (((p.getD s2.1.toNat default).getD s6.1.toNat default).Val)]]⟩]) ?_ (fun js12 => ?_)
            rotate_left
            · clear ks12
              rcases bifL h with ⟨q13, h⟩ | ⟨q13, h⟩
              · refine gN rfl q13 (EvN.mv (Bo writes) rfl) ?_
                refine gN rfl q13 (EvN.mv (Bo writes) rfl) ?_
                obtain ⟨s14, h, ks14⟩ := bindL h
                refine TO.joinF (G := Unit) 3 (fun _ => True) (fun _ => [(42, Bo s14), (39, Bo writes), (38, Bo writes), (37, Bo ((((p.getD s2.1.toNat default).getD s6.1.toNat default).Loc) == loc)), (10, .hp 0 0 4 0 0), (9, I s6.1), (8, I s2.1), (7, I s6.2), (0, eL (cL Ximpl_Instr.c) p), (1, I loc), (2, Bo writes)]) (fun _ => [some ⟨0, 4, 81, [[I (((p.getD s2.1.toNat default).getD s6.1.toNat default).Op), I (((p.getD s2.1.toNat default).getD s6.1.toNat default).Loc), I (((p.getD s2.1.toNat default).getD s6.1.toNat default).Reg), I (((p.getD s2.1.toNat default).getD s6.1.toNat default).Val)]]⟩]) ?_ (fun js14 => ?_)
                rotate_left
                · clear ks14
                  rcases bifL h with ⟨q15, h⟩ | ⟨q15, h⟩
                  · refine gA rfl q15 (EvA.loadhp (.agg [I (((p.getD s2.1.toNat default).getD s6.1.toNat default).Op), I (((p.getD s2.1.toNat default).getD s6.1.toNat default).Loc), I (((p.getD s2.1.toNat default).getD s6.1.toNat default).Reg), I (((p.getD s2.1.toNat default).getD s6.1.toNat default).Val)]) ty81 rfl rfl rfl rfl rfl rfl) ?_
                    obtain ⟨v16, cv16, h⟩ := bindL h
                    refine gN rfl q15 (EvN.call rfl rfl rfl (F_spec_l1Writes_P (⟨((p.getD s2.1.toNat default).getD s6.1.toNat default).Op, ((p.getD s2.1.toNat default).getD s6.1.toNat default).Loc, ((p.getD s2.1.toNat default).getD s6.1.toNat default).Reg, ((p.getD s2.1.toNat default).getD s6.1.toNat default).Val⟩ : Ximpl_Instr) cv16) rfl) ?_
                    refine gN rfl q13 (EvN.pickT rfl q15 (Bo v16) rfl) ?_
                    obtain rfl := Option.some.inj h
                    exact js14 _ _ ⟨(), trivial, cutW rfl (weak_cons rfl (weak_cons rfl (weak_cons rfl (weak_cons rfl (weak_cons rfl (weak_cons rfl (weak_cons rfl (weak_cons rfl (weak_cons rfl (weak_cons rfl (weak_cons rfl weak_nil)))))))))))⟩
                  · refine gS rfl q15 ?_
                    refine gS rfl q15 ?_
                    refine gN rfl q13 (EvN.pickF rfl q15 (Bo false) rfl) ?_
                    obtain rfl := Option.some.inj h
                    exact js14 _ _ ⟨(), trivial, cutW rfl (weak_cons rfl (weak_cons rfl (weak_cons rfl (weak_cons rfl (weak_cons rfl (weak_cons rfl (weak_cons rfl (weak_cons rfl (weak_cons rfl (weak_cons rfl (weak_cons rfl weak_nil)))))))))))⟩
                · intro _ _
                  replace h := ks14
                  clear ks14
                  refine gN rfl q13 (EvN.mv (Bo s14) rfl) ?_
                  obtain ⟨s17, h, ks17⟩ := bindL h
                  refine TO.joinF (G := Unit) 7 (fun _ => True) (fun _ => [(50, Bo s17), (43, Bo s14), (42, Bo s14), (39, Bo writes), (38, Bo writes), (37, Bo ((((p.getD s2.1.toNat default).getD s6.1.toNat default).Loc) == loc)), (9, I s6.1), (8, I s2.1), (7, I s6.2), (0, eL (cL Ximpl_Instr.c) p), (1, I loc), (2, Bo writes)]) (fun _ => [some ⟨0, 4, 81, [[I (((p.getD s2.1.toNat default).getD s6.1.toNat default).Op), I (((p.getD s2.1.toNat default).getD s6.1.toNat default).Loc), I (((p.getD s2.1.toNat default).getD s6.1.toNat default).Reg), I (((p.getD s2.1.toNat default).getD s6.1.toNat default).Val)]]⟩]) ?_ (fun js17 => ?_)
                  rotate_left
                  · clear ks17
                    rcases bifL h with ⟨q18, h⟩ | ⟨q18, h⟩
                    · refine gS rfl q18 ?_
                      refine gS rfl q18 ?_
                      refine gS rfl q18 ?_
                      refine gU rfl ?_
                      refine gU rfl ?_
                      refine gS rfl q18 ?_
                      refine gN rfl q13 (EvN.pickT rfl q18 (Bo true) rfl) ?_
                      obtain rfl := Option.some.inj h
                      exact js17 _ _ ⟨(), trivial, cutW rfl (weak_cons rfl (weak_cons rfl (weak_cons rfl (weak_cons rfl (weak_cons rfl (weak_cons rfl (weak_cons rfl (weak_cons rfl (weak_cons rfl (weak_cons rfl (weak_cons rfl (weak_cons rfl weak_nil))))))))))))⟩
                    · refine gN rfl q18 (EvN.mv (Bo writes) rfl) ?_
                      refine gN rfl q18 (EvN.not rfl) ?_
                      refine gN rfl q18 (EvN.mv (Bo (!writes)) rfl) ?_
                      obtain ⟨s19, h, ks19⟩ := bindL h
                      refine TO.joinF (G := Unit) 3 (fun _ => True) (fun _ => [(49, Bo s19), (46, Bo (!writes)), (45, Bo (!writes)), (44, Bo writes), (43, Bo s14), (42, Bo s14), (39, Bo writes), (38, Bo writes), (37, Bo ((((p.getD s2.1.toNat default).getD s6.1.toNat default).Loc) == loc)), (9, I s6.1), (8, I s2.1), (7, I s6.2), (0, eL (cL Ximpl_Instr.c) p), (1, I loc), (2, Bo writes)]) (fun _ => [some ⟨0, 4, 81, [[I (((p.getD s2.1.toNat default).getD s6.1.toNat default).Op), I (((p.getD s2.1.toNat default).getD s6.1.toNat default).Loc), I (((p.getD s2.1.toNat default).getD s6.1.toNat default).Reg), I (((p.getD s2.1.toNat default).getD s6.1.toNat default).Val)]]⟩]) ?_ (fun js19 => ?_)
                      rotate_left
                      · clear ks19
                        rcases bifL h with ⟨q20, h⟩ | ⟨q20, h⟩
                        · refine gA rfl q20 (EvA.loadhp (.agg [I (((p.getD s2.1.toNat default).getD s6.1.toNat default).Op), I (((p.getD s2.1.toNat default).getD s6.1.toNat default).Loc), I (((p.getD s2.1.toNat default).getD s6.1.toNat default).Reg), I (((p.getD s2.1.toNat default).getD s6.1.toNat default).Val)]) ty81 rfl rfl rfl rfl rfl rfl) ?_
                          obtain ⟨v21, cv21, h⟩ := bindL h
                          refine gN rfl q20 (EvN.call rfl rfl rfl (F_spec_l1Reads_P (⟨((p.getD s2.1.toNat default).getD s6.1.toNat default).Op, ((p.getD s2.1.toNat default).getD s6.1.toNat default).Loc, ((p.getD s2.1.toNat default).getD s6.1.toNat default).Reg, ((p.getD s2.1.toNat default).getD s6.1.toNat default).Val⟩ : Ximpl_Instr) cv21) rfl) ?_
                          refine gN rfl q18 (EvN.pickT rfl q20 (Bo v21) rfl) ?_
                          obtain rfl := Option.some.inj h
                          exact js19 _ _ ⟨(), trivial, cutW rfl (weak_cons rfl (weak_cons rfl (weak_cons rfl (weak_cons rfl (weak_cons rfl (weak_cons rfl (weak_cons rfl (weak_cons rfl (weak_cons rfl (weak_cons rfl (weak_cons rfl (weak_cons rfl (weak_cons rfl (weak_cons rfl (weak_cons rfl weak_nil)))))))))))))))⟩
                        · refine gS rfl q20 ?_
                          refine gS rfl q20 ?_
                          refine gN rfl q18 (EvN.pickF rfl q20 (Bo false) rfl) ?_
                          obtain rfl := Option.some.inj h
                          exact js19 _ _ ⟨(), trivial, cutW rfl (weak_cons rfl (weak_cons rfl (weak_cons rfl (weak_cons rfl (weak_cons rfl (weak_cons rfl (weak_cons rfl (weak_cons rfl (weak_cons rfl (weak_cons rfl (weak_cons rfl (weak_cons rfl (weak_cons rfl (weak_cons rfl (weak_cons rfl weak_nil)))))))))))))))⟩
                      · intro _ _
                        replace h := ks19
                        clear ks19
                        refine gN rfl q13 (EvN.pickF rfl q18 (Bo s19) rfl) ?_
                        obtain rfl := Option.some.inj h
                        exact js17 _ _ ⟨(), trivial, cutW rfl (weak_cons rfl (weak_cons rfl (weak_cons rfl (weak_cons rfl (weak_cons rfl (weak_cons rfl (weak_cons rfl (weak_cons rfl (weak_cons rfl (weak_cons rfl (weak_cons rfl (weak_cons rfl weak_nil))))))))))))⟩
                  · intro _ _
                    replace h := ks17
                    clear ks17
                    refine oN (EvN.pickT rfl q13 (Bo s17) rfl) ?_
                    obtain rfl := Option.some.inj h
                    exact js12 _ _ ⟨(), trivial, cutW rfl (weak_cons rfl (weak_cons rfl (weak_cons rfl (weak_cons rfl (weak_cons rfl (weak_cons rfl (weak_cons rfl weak_nil)))))))⟩
              · refine gS rfl q13 ?_
                refine gS rfl q13 ?_
                refine gU rfl ?_
                refine gU rfl ?_
                refine gS rfl q13 ?_
                refine gS rfl q13 ?_
                refine gU rfl ?_
                refine gU rfl ?_
                refine gU rfl ?_
                refine gU rfl ?_
                refine gU rfl ?_
                refine gU rfl ?_
                refine gS rfl q13 ?_
                refine oN (EvN.pickF rfl q13 (Bo false) rfl) ?_
                obtain rfl := Option.some.inj h
                exact js12 _ _ ⟨(), trivial, cutW rfl (weak_cons rfl (weak_cons rfl (weak_cons rfl (weak_cons rfl (weak_cons rfl (weak_cons rfl (weak_cons rfl weak_nil)))))))⟩
            · intro _ _
              replace h := ks12
              clear ks12
              refine TO.nil ?_
              refine T.cond rfl (fun q22 => ?_) (fun q22 => ?_)
              · replace h := condT q22 h
                refine T.region ?_
                refine oN (EvN.mv (I s6.2) rfl) ?_
                obtain ⟨g23, h⟩ := gdW h
                refine oN (EvN.add rfl rfl g23) ?_
                refine oN (EvN.asg (I (s6.2 + (1 : Int))) rfl) ?_
                refine TO.nil ?_
                obtain rfl := Option.some.inj h
                exact ⟨(), trivial, cutS rfl .nil (stl_cons (.fz (.of_isF 9 _ rfl)) (stl_cons (.fz (.of_isF 9 _ rfl)) (stl_cons (.fz (.of_isF 9 _ rfl)) (stl_cons (.fz (.of_isF 9 _ rfl)) (stl_cons (.fz (.of_isF 9 _ rfl)) (stl_cons (.fz (.of_isF 9 _ rfl)) stl_nil))))))⟩
              · replace h := condF q22 h
                refine T.skip ?_
                obtain rfl := Option.some.inj h
                exact ⟨(), trivial, cutS rfl .nil (stl_cons (.fz (.of_isF 9 _ rfl)) (stl_cons (.fz (.of_isF 9 _ rfl)) (stl_cons (.fz (.of_isF 9 _ rfl)) (stl_cons (.fz (.of_isF 9 _ rfl)) (stl_cons (.fz (.of_isF 9 _ rfl)) (stl_cons (.fz (.of_isF 9 _ rfl)) stl_nil))))))⟩
        · replace h := condF q9 h
          refine T.exit ?_
          refine ⟨_, (Option.some.inj h).symm, fun h => ?_⟩
          replace h := congrArg some h
          obtain rfl := Option.some.inj h
          exact ⟨(), trivial, cutW rfl (weak_cons rfl (weak_cons rfl (weak_cons rfl (weak_cons rfl (weak_cons rfl weak_nil)))))⟩
    · replace h := condF q4 h
      refine T.exit ?_
      refine ⟨_, (Option.some.inj h).symm, fun h => ?_⟩
      replace h := congrArg some h
      obtain rfl := Option.some.inj h
      exact ⟨(), trivial, cutW rfl (weak_cons rfl weak_nil)⟩

theorem F_spec_l1Execs_P (p : List (List Ximpl_Instr)) (most : Int) {q : Int} (h : F_spec_l1Execs p most = some q) : PCall Try.prog 128 [eL (cL Ximpl_Instr.c) p, I most] (I q) := by
  refine PCall.mkT Try.func128 rfl (by kernel_rfl) rfl (by kernel_rfl) (e0 := envOf [(0, eL (cL Ximpl_Instr.c) p), (1, I most)]) (weak_cons rfl (weak_cons rfl weak_nil)) ?_
  refine T.seq ?_
  refine T.region ?_
  refine oN (EvN.asg (I (0 : Int)) rfl) ?_
  refine TO.nil ?_
  refine T.seq ?_
  refine T.region ?_
  refine oN (EvN.asg (I (1 : Int)) rfl) ?_
  refine TO.nil ?_
  obtain ⟨s1, h, ks1⟩ := bindL h
  refine T.joinF (G := Unit) (fun gh => True) (fun gh => [(5, I s1), (1, I most)]) (fun gh => []) (fun gh hg => ?_) ?_
  · clear h
    have h := ks1
    clear ks1
    refine T.seq ?_
    refine T.seq ?_
    refine T.region ?_
    refine oN (EvN.mv (I s1) rfl) ?_
    refine oN (EvN.mv (I most) rfl) ?_
    refine oN (EvN.igt rfl rfl) ?_
    refine TO.nil ?_
    refine T.cond rfl (fun q25 => ?_) (fun q25 => ?_)
    · replace h := condT q25 h
      refine T.seq ?_
      refine T.region ?_
      refine oN (EvN.mv (I most) rfl) ?_
      obtain ⟨g26, h⟩ := gdW h
      refine oN (EvN.add rfl rfl g26) ?_
      refine oN (EvN.asg (I (most + (1 : Int))) rfl) ?_
      refine TO.nil ?_
      refine T.ret ?_
      obtain rfl := Option.some.inj h
      repeat first | refine retS ?_ | refine retB ?_
      exact Fin.ret (vs := [I (most + (1 : Int))]) (.cons (.tmp rfl) .nil) (.of_isF 9 _ rfl)
    · replace h := condF q25 h
      refine T.skip ?_
      refine T.seq ?_
      refine T.region ?_
      refine oN (EvN.mv (I s1) rfl) ?_
      refine oN (EvN.asg (I s1) rfl) ?_
      refine TO.nil ?_
      refine T.ret ?_
      obtain rfl := Option.some.inj h
      repeat first | refine retS ?_ | refine retB ?_
      exact Fin.ret (vs := [I s1]) (.cons (.tmp rfl) .nil) (.of_isF 9 _ rfl)
  · clear ks1
    refine T.seq ?_
    refine T.region ?_
    refine oN (EvN.asg (I (0 : Int)) rfl) ?_
    refine TO.nil ?_
    refine T.block ?_
    refine T.loop (S := Int × Int) (G := Unit) (F_spec_l1Execs_L3 p most) (fun s2 gh => True) (fun s2 gh => [(6, I s2.1), (5, I s2.2), (0, eL (cL Ximpl_Instr.c) p), (1, I most)]) (fun s2 gh => []) (s0 := ((0 : Int), (1 : Int))) () h trivial (cutW rfl (weak_cons rfl (weak_cons rfl (weak_cons rfl (weak_cons rfl weak_nil))))) (fun s2 gh ws2 h hg => ?_)
    refine T.seq ?_
    refine T.seq ?_
    refine T.region ?_
    refine oN (EvN.mv (I s2.1) rfl) ?_
    refine oN (EvN.ile rfl rfl) ?_
    refine TO.nil ?_
    refine T.cond rfl (fun q4 => ?_) (fun q4 => ?_)
    · replace h := condT q4 h
      refine T.skip ?_
      obtain ⟨s5, h, ks5⟩ := bindL h
      refine T.joinF (G := Unit) (fun gh => True) (fun gh => [(6, I s2.1), (5, I s5), (0, eL (cL Ximpl_Instr.c) p), (1, I most)]) (fun gh => []) (fun gh hg => ?_) ?_
      · clear h
        have h := ks5
        clear ks5
        refine T.region ?_
        refine oN (EvN.mv (I s2.1) rfl) ?_
        obtain ⟨g24, h⟩ := gdW h
        refine oN (EvN.add rfl rfl g24) ?_
        refine oN (EvN.asg (I (s2.1 + (1 : Int))) rfl) ?_
        refine TO.nil ?_
        obtain rfl := Option.some.inj h
        exact ⟨((s2.1 + (1 : Int)), s5), (), rfl, trivial, cutW rfl (weak_cons rfl (weak_cons rfl (weak_cons rfl (weak_cons rfl weak_nil))))⟩
      · clear ks5
        refine T.block ?_
        refine T.seq ?_
        refine T.region ?_
        refine oN (EvN.mv (eL (cL Ximpl_Instr.c) p) rfl) ?_
        refine oN (EvN.mv (I s2.1) rfl) ?_
        obtain ⟨v6, cv6, h⟩ := bindL h
        refine oN (EvN.call rfl rfl rfl (F_spec_l1Count_P p s2.1 true cv6) rfl) ?_
        refine oN (EvN.asg (I v6) rfl) ?_
        refine TO.nil ?_
        obtain ⟨s7, h, ks7⟩ := bindL h
        refine T.joinF (G := Unit) (fun gh => True) (fun gh => [(7, I v6), (6, I s2.1), (5, I s7), (0, eL (cL Ximpl_Instr.c) p), (1, I most)]) (fun gh => []) (fun gh hg => ?_) ?_
        · clear h
          have h := ks7
          clear ks7
          refine T.seq ?_
          refine T.region ?_
          refine oN (EvN.asg (I (2 : Int)) rfl) ?_
          refine TO.nil ?_
          refine T.block ?_
          refine T.loop (S := Int × Int) (G := Unit) (F_spec_l1Execs_L18 most v6) (fun s17 gh => True) (fun s17 gh => [(9, I s17.1), (7, I v6), (6, I s2.1), (5, I s17.2), (0, eL (cL Ximpl_Instr.c) p), (1, I most)]) (fun s17 gh => []) (s0 := ((2 : Int), s7)) () h trivial (cutW rfl (weak_cons rfl (weak_cons rfl (weak_cons rfl (weak_cons rfl (weak_cons rfl (weak_cons rfl weak_nil))))))) (fun s17 gh ws17 h hg => ?_)
          refine T.seq ?_
          refine T.seq ?_
          refine T.region ?_
          refine oN (EvN.mv (I s17.1) rfl) ?_
          refine oN (EvN.mv (I v6) rfl) ?_
          refine oN (EvN.ile rfl rfl) ?_
          refine oN (EvN.mv (Bo (decide (s17.1 ≤ v6))) rfl) ?_
          obtain ⟨s19, h, ks19⟩ := bindL h
          refine TO.joinF (G := Unit) 4 (fun _ => True) (fun _ => [(40, Bo s19), (9, I s17.1), (7, I v6), (6, I s2.1), (5, I s17.2), (0, eL (cL Ximpl_Instr.c) p), (1, I most)]) (fun _ => []) ?_ (fun js19 => ?_)
          rotate_left
          · clear ks19
            rcases bifL h with ⟨q20, h⟩ | ⟨q20, h⟩
            · refine gN rfl q20 (EvN.mv (I s17.2) rfl) ?_
              refine gN rfl q20 (EvN.mv (I most) rfl) ?_
              refine gN rfl q20 (EvN.ile rfl rfl) ?_
              refine oN (EvN.pickT rfl q20 (Bo (decide (s17.2 ≤ most))) rfl) ?_
              obtain rfl := Option.some.inj h
              exact js19 _ _ ⟨(), trivial, cutW rfl (weak_cons rfl (weak_cons rfl (weak_cons rfl (weak_cons rfl (weak_cons rfl (weak_cons rfl (weak_cons rfl weak_nil)))))))⟩
            · refine gS rfl q20 ?_
              refine gS rfl q20 ?_
              refine gS rfl q20 ?_
              refine oN (EvN.pickF rfl q20 (Bo false) rfl) ?_
              obtain rfl := Option.some.inj h
              exact js19 _ _ ⟨(), trivial, cutW rfl (weak_cons rfl (weak_cons rfl (weak_cons rfl (weak_cons rfl (weak_cons rfl (weak_cons rfl (weak_cons rfl weak_nil)))))))⟩
          · intro _ _
            replace h := ks19
            clear ks19
            refine TO.nil ?_
            refine T.cond rfl (fun q21 => ?_) (fun q21 => ?_)
            · replace h := condT q21 h
              refine T.skip ?_
              refine T.seq ?_
              refine T.block ?_
              refine T.region ?_
              refine oN (EvN.mv (I s17.2) rfl) ?_
              refine oN (EvN.mv (I s17.1) rfl) ?_
              obtain ⟨g22, h⟩ := gdW h
              refine oN (EvN.mul rfl rfl g22) ?_
              refine oN (EvN.asg (I (s17.2 * s17.1)) rfl) ?_
              refine TO.nil ?_
              refine T.region ?_
              refine oN (EvN.mv (I s17.1) rfl) ?_
              obtain ⟨g23, h⟩ := gdW h
              refine oN (EvN.add rfl rfl g23) ?_
              refine oN (EvN.asg (I (s17.1 + (1 : Int))) rfl) ?_
              refine TO.nil ?_
              obtain rfl := Option.some.inj h
              exact ⟨((s17.1 + (1 : Int)), (s17.2 * s17.1)), (), rfl, trivial, cutW rfl (weak_cons rfl (weak_cons rfl (weak_cons rfl (weak_cons rfl (weak_cons rfl (weak_cons rfl weak_nil))))))⟩
            · replace h := condF q21 h
              refine T.exit ?_
              refine ⟨_, (Option.some.inj h).symm, fun h => ?_⟩
              replace h := congrArg some h
              obtain rfl := Option.some.inj h
              exact ⟨(), trivial, cutW rfl (weak_cons rfl (weak_cons rfl (weak_cons rfl (weak_cons rfl weak_nil))))⟩
        · clear ks7
          refine T.seq ?_
          refine T.region ?_
          refine oN (EvN.asg (I (0 : Int)) rfl) ?_
          refine TO.nil ?_
          refine T.block ?_
          refine T.loop (S := Int × Int) (G := Unit) (F_spec_l1Execs_L9 p most s2 v6) (fun s8 gh => True) (fun s8 gh => [(8, I s8.1), (7, I v6), (6, I s2.1), (5, I s8.2), (0, eL (cL Ximpl_Instr.c) p), (1, I most)]) (fun s8 gh => []) (s0 := ((0 : Int), s2.2)) () h trivial (cutW rfl (weak_cons rfl (weak_cons rfl (weak_cons rfl (weak_cons rfl (weak_cons rfl (weak_cons rfl weak_nil))))))) (fun s8 gh ws8 h hg => ?_)
          refine T.seq ?_
          refine T.seq ?_
          refine T.region ?_
          refine oN (EvN.mv (I s8.1) rfl) ?_
          refine oN (EvN.mv (eL (cL Ximpl_Instr.c) p) rfl) ?_
          refine oN (EvN.mv (I s2.1) rfl) ?_
          obtain ⟨v10, cv10, h⟩ := bindL h
          refine oN (EvN.call rfl rfl rfl (F_spec_l1Count_P p s2.1 false cv10) rfl) ?_
          refine oN (EvN.ilt rfl rfl) ?_
          refine oN (EvN.mv (Bo (decide (s8.1 < v10))) rfl) ?_
          obtain ⟨s11, h, ks11⟩ := bindL h
          refine TO.joinF (G := Unit) 4 (fun _ => True) (fun _ => [(26, Bo s11), (8, I s8.1), (7, I v6), (6, I s2.1), (5, I s8.2), (0, eL (cL Ximpl_Instr.c) p), (1, I most)]) (fun _ => []) ?_ (fun js11 => ?_)
          rotate_left
          · clear ks11
            rcases bifL h with ⟨q12, h⟩ | ⟨q12, h⟩
            · refine gN rfl q12 (EvN.mv (I s8.2) rfl) ?_
              refine gN rfl q12 (EvN.mv (I most) rfl) ?_
              refine gN rfl q12 (EvN.ile rfl rfl) ?_
              refine oN (EvN.pickT rfl q12 (Bo (decide (s8.2 ≤ most))) rfl) ?_
              obtain rfl := Option.some.inj h
              exact js11 _ _ ⟨(), trivial, cutW rfl (weak_cons rfl (weak_cons rfl (weak_cons rfl (weak_cons rfl (weak_cons rfl (weak_cons rfl (weak_cons rfl weak_nil)))))))⟩
            · refine gS rfl q12 ?_
              refine gS rfl q12 ?_
              refine gS rfl q12 ?_
              refine oN (EvN.pickF rfl q12 (Bo false) rfl) ?_
              obtain rfl := Option.some.inj h
              exact js11 _ _ ⟨(), trivial, cutW rfl (weak_cons rfl (weak_cons rfl (weak_cons rfl (weak_cons rfl (weak_cons rfl (weak_cons rfl (weak_cons rfl weak_nil)))))))⟩
          · intro _ _
            replace h := ks11
            clear ks11
            refine TO.nil ?_
            refine T.cond rfl (fun q13 => ?_) (fun q13 => ?_)
            · replace h := condT q13 h
              refine T.skip ?_
              refine T.seq ?_
              refine T.block ?_
              refine T.region ?_
              refine oN (EvN.mv (I s8.2) rfl) ?_
              refine oN (EvN.mv (I v6) rfl) ?_
              obtain ⟨g14, h⟩ := gdW h
              refine oN (EvN.add rfl rfl g14) ?_
              obtain ⟨g15, h⟩ := gdW h
              refine oN (EvN.mul rfl rfl g15) ?_
              refine oN (EvN.asg (I (s8.2 * (v6 + (1 : Int)))) rfl) ?_
              refine TO.nil ?_
              refine T.clean (H0 := []) (e0 := envOf [(5, I (s8.2 * (v6 + (1 : Int)))), (8, I s8.1), (7, I v6), (6, I s2.1), (0, eL (cL Ximpl_Instr.c) p), (1, I most)]) rfl (weak_cons rfl (weak_cons rfl (weak_cons rfl (weak_cons rfl (weak_cons rfl (weak_cons rfl weak_nil)))))) ?_
              refine T.region ?_
              refine oN (EvN.mv (I s8.1) rfl) ?_
              obtain ⟨g16, h⟩ := gdW h
              refine oN (EvN.add rfl rfl g16) ?_
              refine oN (EvN.asg (I (s8.1 + (1 : Int))) rfl) ?_
              refine TO.nil ?_
              obtain rfl := Option.some.inj h
              exact ⟨((s8.1 + (1 : Int)), (s8.2 * (v6 + (1 : Int)))), (), rfl, trivial, cutW rfl (weak_cons rfl (weak_cons rfl (weak_cons rfl (weak_cons rfl (weak_cons rfl (weak_cons rfl weak_nil))))))⟩
            · replace h := condF q13 h
              refine T.exit ?_
              refine ⟨_, (Option.some.inj h).symm, fun h => ?_⟩
              replace h := congrArg some h
              obtain rfl := Option.some.inj h
              exact ⟨(), trivial, cutW rfl (weak_cons rfl (weak_cons rfl (weak_cons rfl (weak_cons rfl (weak_cons rfl weak_nil)))))⟩
    · replace h := condF q4 h
      refine T.exit ?_
      refine ⟨_, (Option.some.inj h).symm, fun h => ?_⟩
      replace h := congrArg some h
      obtain rfl := Option.some.inj h
      exact ⟨(), trivial, cutW rfl (weak_cons rfl (weak_cons rfl weak_nil))⟩

theorem F_spec_l8Small_P (r_ : Xspec_l17Rd) (ver0 : Nat) {q : Xspec_l17Rd × (List (List Ximpl_Instr))} (h : F_spec_l8Small r_ = some q) : ACall Try.prog 125 [.hp 0 ver0 2 0 0] [some ⟨ver0, 2, 126, [[eL cY r_.b, I r_.p]]⟩] (eL (cL Ximpl_Instr.c) q.2) [some ⟨ver0, 2, 126, [[eL cY q.1.b, I q.1.p]]⟩] := by
  refine ACall.mkT Try.func125 rfl (by kernel_rfl) rfl (by kernel_rfl) (e0 := envOf [(0, .hp 0 ver0 2 0 0)]) (weak_cons rfl weak_nil) ?_
  refine T.seq ?_
  refine T.region ?_
  refine oN (EvN.asg (.nil) rfl) ?_
  refine TO.nil ?_
  refine T.seq ?_
  refine T.region ?_
  refine oN (EvN.mv (.hp 0 ver0 2 0 0) rfl) ?_
  obtain ⟨v1, cv1, h⟩ := bindL h
  refine oA (EvA.call rfl rfl rfl ((F_spec_l1Draw_P (⟨r_.b, r_.p⟩ : Xspec_l17Rd) ver0 cv1).one 0 rfl (.cons (.hp rfl) .nil) (rowsF_row rfl) (rowsF_row rfl) rfl)) ?_
  refine oN (EvN.asg (eL (cL Ximpl_Instr.c) v1.2) rfl) ?_
  refine TO.nil ?_
  refine T.seq ?_
  refine T.seq ?_
  refine T.region ?_
  refine oN (EvN.mv (eL (cL Ximpl_Instr.c) v1.2) rfl) ?_
  obtain ⟨v2, cv2, h⟩ := bindL h
  refine oN (EvN.call rfl rfl rfl (F_spec_l1Execs_P v1.2 (200 : Int) cv2) rfl) ?_
  refine oN (EvN.ile rfl rfl) ?_
  refine TO.nil ?_
  refine T.cond rfl (fun q3 => ?_) (fun q3 => ?_)
  · replace h := condT q3 h
    refine T.seq ?_
    refine T.clean (H0 := [some ⟨ver0, 2, 126, [[eL cY v1.1.b, I v1.1.p]]⟩]) (e0 := envOf [(3, eL (cL Ximpl_Instr.c) v1.2)]) rfl (weak_cons rfl weak_nil) ?_
    refine T.region ?_
    refine oN (EvN.mv (eL (cL Ximpl_Instr.c) v1.2) rfl) ?_
    refine oN (EvN.asg (eL (cL Ximpl_Instr.c) v1.2) rfl) ?_
    refine TO.nil ?_
    refine T.ret ?_
    obtain rfl := Option.some.inj h
    repeat first | refine retS ?_ | refine retB ?_
    exact ⟨envOf [(2, eL (cL Ximpl_Instr.c) v1.2)], [some ⟨ver0, 2, 126, [[eL cY ((⟨v1.1.b, v1.1.p⟩ : Xspec_l17Rd).b), I ((⟨v1.1.b, v1.1.p⟩ : Xspec_l17Rd).p)]]⟩], cutW rfl (weak_cons rfl weak_nil), Fin.ret (vs := [eL (cL Ximpl_Instr.c) v1.2]) (.cons (.tmp rfl) .nil) ⟨rfl, rfl⟩⟩
  · replace h := condF q3 h
    refine T.skip ?_
    refine T.seq ?_
    refine T.clean (H0 := [some ⟨ver0, 2, 126, [[eL cY v1.1.b, I v1.1.p]]⟩]) (e0 := envOf []) rfl weak_nil ?_
    refine T.region ?_
    obtain ⟨v4, cv4, h⟩ := bindL h
    refine oN (EvN.call rfl rfl rfl (F_spec_ParseProgram_P (⟨#[120, 61, 49, 59, 97, 61, 121, 124, 121, 61, 49, 59, 97, 61, 120]⟩ : ByteArray) cv4) rfl) ?_
    refine oN (EvN.mv (.tup [eL (cL Ximpl_Instr.c) v4.1, Bo v4.2]) rfl) ?_
    refine oN (EvN.ext (eL (cL Ximpl_Instr.c) v4.1) rfl rfl) ?_
    refine oN (EvN.ext (Bo v4.2) rfl rfl) ?_
    refine oN (EvN.asg (eL (cL Ximpl_Instr.c) v4.1) rfl) ?_
    refine oN (EvN.asg (Bo v4.2) rfl) ?_
    refine TO.nil ?_
    refine T.seq ?_
    refine T.region ?_
    refine oN (EvN.mv (eL (cL Ximpl_Instr.c) v4.1) rfl) ?_
    refine oN (EvN.asg (eL (cL Ximpl_Instr.c) v4.1) rfl) ?_
    refine TO.nil ?_
    refine T.ret ?_
    obtain rfl := Option.some.inj h
    repeat first | refine retS ?_ | refine retB ?_
    exact ⟨envOf [(2, eL (cL Ximpl_Instr.c) v4.1)], [some ⟨ver0, 2, 126, [[eL cY ((⟨v1.1.b, v1.1.p⟩ : Xspec_l17Rd).b), I ((⟨v1.1.b, v1.1.p⟩ : Xspec_l17Rd).p)]]⟩], cutW rfl (weak_cons rfl weak_nil), Fin.ret (vs := [eL (cL Ximpl_Instr.c) v4.1]) (.cons (.tmp rfl) .nil) ⟨rfl, rfl⟩⟩
end Go.Proofs.Ytjogdblionfmiaa
