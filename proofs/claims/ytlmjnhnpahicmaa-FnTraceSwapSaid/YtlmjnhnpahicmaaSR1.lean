/-
 The program's code computes the functions over plain values; printed by lift.py. No conditions.
-/
import Derived.Test.YtlmjnhnpahicmaaSRd
import Derived.Test.YtlmjnhnpahicmaaSf
import Derived.Test.YtlmjnhnpahicmaaBrV
import Derived.Test.YtlmjnhnpahicmaaSQ1
namespace Go.Proofs.Ytlmjnhnpahicmaa
open Go.RowKit
set_option maxRecDepth 100000
theorem F_spec_l1Tests_P  {q : (List ByteArray)} (h : F_spec_l1Tests  = some q) : PCall Try.prog 125 [] (eL cS q) := by
 refine PCall.mkT Try.func125 rfl (by kernel_rfl) rfl (by kernel_rfl) (e0 := envOf []) wkN ?_
 refine T.seq ?_
 refine T.region ?_
 refine oN (EvN.asg (.nil) rfl) ?_
 refine TO.nil ?_
 refine T.seq ?_
 refine T.region ?_
 refine oN (EvN.mkF (c := cS) ([(⟨#[120, 61, 49, 59, 97, 61, 121, 124, 121, 61, 49, 59, 97, 61, 120]⟩ : ByteArray), (⟨#[120, 61, 49, 59, 102, 101, 110, 99, 101, 59, 97, 61, 121, 124, 121, 61, 49, 59, 102, 101, 110, 99, 101, 59, 97, 61, 120]⟩ : ByteArray), (⟨#[120, 61, 49, 59, 121, 61, 49, 124, 97, 61, 121, 59, 98, 61, 120]⟩ : ByteArray), (⟨#[120, 61, 49, 59, 121, 61, 49, 124, 97, 61, 121, 59, 102, 101, 110, 99, 101, 59, 98, 61, 120]⟩ : ByteArray), (⟨#[120, 61, 49, 59, 102, 101, 110, 99, 101, 59, 121, 61, 49, 124, 97, 61, 121, 59, 98, 61, 120]⟩ : ByteArray), (⟨#[97, 61, 120, 59, 121, 61, 49, 124, 97, 61, 121, 59, 120, 61, 49]⟩ : ByteArray), (⟨#[97, 61, 120, 59, 121, 61, 97, 124, 97, 61, 121, 59, 120, 61, 97]⟩ : ByteArray), (⟨#[120, 61, 49, 124, 120, 61, 50, 124, 97, 61, 120, 59, 98, 61, 120]⟩ : ByteArray), (⟨#[120, 61, 49, 124, 121, 61, 49, 124, 97, 61, 120, 59, 98, 61, 121, 124, 97, 61, 121, 59, 98, 61, 120]⟩ : ByteArray), (⟨#[120, 61, 49, 124, 97, 61, 120, 59, 121, 61, 49, 124, 97, 61, 121, 59, 98, 61, 120]⟩ : ByteArray), (⟨#[120, 61, 49, 124, 121, 61, 49, 124, 97, 61, 120, 59, 98, 61, 121]⟩ : ByteArray), (⟨#[97, 61, 120, 58, 49, 124, 97, 61, 120, 58, 50, 124, 120, 61, 51]⟩ : ByteArray), (⟨#[120, 61, 49, 59, 97, 61, 120, 59, 98, 61, 121, 124, 121, 61, 49, 59, 97, 61, 121, 59, 98, 61, 120]⟩ : ByteArray), (⟨#[120, 61, 50, 59, 121, 61, 49, 124, 121, 61, 50, 59, 120, 61, 49]⟩ : ByteArray), (⟨#[97, 61, 120, 58, 49, 59, 98, 61, 121, 124, 97, 61, 121, 58, 49, 59, 98, 61, 120]⟩ : ByteArray), (⟨#[120, 61, 49, 59, 120, 61, 50, 124, 97, 61, 120, 59, 98, 61, 120]⟩ : ByteArray), (⟨#[120, 61, 49, 59, 121, 61, 49, 59, 97, 61, 122, 124, 122, 61, 49, 59, 97, 61, 121, 59, 98, 61, 120]⟩ : ByteArray), (⟨#[97, 61, 120, 58, 49, 124, 98, 61, 120, 58, 49]⟩ : ByteArray), (⟨#[102, 101, 110, 99, 101]⟩ : ByteArray), (⟨#[]⟩ : ByteArray), (⟨#[120, 61, 49, 59, 97, 61, 121, 124, 121, 61, 49, 59, 102, 101, 110, 99, 101, 59, 97, 61, 120]⟩ : ByteArray)] : List ByteArray) [[St (⟨#[120, 61, 49, 59, 97, 61, 121, 124, 121, 61, 49, 59, 97, 61, 120]⟩ : ByteArray)], [St (⟨#[120, 61, 49, 59, 102, 101, 110, 99, 101, 59, 97, 61, 121, 124, 121, 61, 49, 59, 102, 101, 110, 99, 101, 59, 97, 61, 120]⟩ : ByteArray)], [St (⟨#[120, 61, 49, 59, 121, 61, 49, 124, 97, 61, 121, 59, 98, 61, 120]⟩ : ByteArray)], [St (⟨#[120, 61, 49, 59, 121, 61, 49, 124, 97, 61, 121, 59, 102, 101, 110, 99, 101, 59, 98, 61, 120]⟩ : ByteArray)], [St (⟨#[120, 61, 49, 59, 102, 101, 110, 99, 101, 59, 121, 61, 49, 124, 97, 61, 121, 59, 98, 61, 120]⟩ : ByteArray)], [St (⟨#[97, 61, 120, 59, 121, 61, 49, 124, 97, 61, 121, 59, 120, 61, 49]⟩ : ByteArray)], [St (⟨#[97, 61, 120, 59, 121, 61, 97, 124, 97, 61, 121, 59, 120, 61, 97]⟩ : ByteArray)], [St (⟨#[120, 61, 49, 124, 120, 61, 50, 124, 97, 61, 120, 59, 98, 61, 120]⟩ : ByteArray)], [St (⟨#[120, 61, 49, 124, 121, 61, 49, 124, 97, 61, 120, 59, 98, 61, 121, 124, 97, 61, 121, 59, 98, 61, 120]⟩ : ByteArray)], [St (⟨#[120, 61, 49, 124, 97, 61, 120, 59, 121, 61, 49, 124, 97, 61, 121, 59, 98, 61, 120]⟩ : ByteArray)], [St (⟨#[120, 61, 49, 124, 121, 61, 49, 124, 97, 61, 120, 59, 98, 61, 121]⟩ : ByteArray)], [St (⟨#[97, 61, 120, 58, 49, 124, 97, 61, 120, 58, 50, 124, 120, 61, 51]⟩ : ByteArray)], [St (⟨#[120, 61, 49, 59, 97, 61, 120, 59, 98, 61, 121, 124, 121, 61, 49, 59, 97, 61, 121, 59, 98, 61, 120]⟩ : ByteArray)], [St (⟨#[120, 61, 50, 59, 121, 61, 49, 124, 121, 61, 50, 59, 120, 61, 49]⟩ : ByteArray)], [St (⟨#[97, 61, 120, 58, 49, 59, 98, 61, 121, 124, 97, 61, 121, 58, 49, 59, 98, 61, 120]⟩ : ByteArray)], [St (⟨#[120, 61, 49, 59, 120, 61, 50, 124, 97, 61, 120, 59, 98, 61, 120]⟩ : ByteArray)], [St (⟨#[120, 61, 49, 59, 121, 61, 49, 59, 97, 61, 122, 124, 122, 61, 49, 59, 97, 61, 121, 59, 98, 61, 120]⟩ : ByteArray)], [St (⟨#[97, 61, 120, 58, 49, 124, 98, 61, 120, 58, 49]⟩ : ByteArray)], [St (⟨#[102, 101, 110, 99, 101]⟩ : ByteArray)], [St (⟨#[]⟩ : ByteArray)], [St (⟨#[120, 61, 49, 59, 97, 61, 121, 124, 121, 61, 49, 59, 102, 101, 110, 99, 101, 59, 97, 61, 120]⟩ : ByteArray)]] sl140 rfl rfl rfl (fun _ => rfl) (fun _ => rfl) rfl) ?_
 refine oN (EvN.asg (eL cS ([(⟨#[120, 61, 49, 59, 97, 61, 121, 124, 121, 61, 49, 59, 97, 61, 120]⟩ : ByteArray), (⟨#[120, 61, 49, 59, 102, 101, 110, 99, 101, 59, 97, 61, 121, 124, 121, 61, 49, 59, 102, 101, 110, 99, 101, 59, 97, 61, 120]⟩ : ByteArray), (⟨#[120, 61, 49, 59, 121, 61, 49, 124, 97, 61, 121, 59, 98, 61, 120]⟩ : ByteArray), (⟨#[120, 61, 49, 59, 121, 61, 49, 124, 97, 61, 121, 59, 102, 101, 110, 99, 101, 59, 98, 61, 120]⟩ : ByteArray), (⟨#[120, 61, 49, 59, 102, 101, 110, 99, 101, 59, 121, 61, 49, 124, 97, 61, 121, 59, 98, 61, 120]⟩ : ByteArray), (⟨#[97, 61, 120, 59, 121, 61, 49, 124, 97, 61, 121, 59, 120, 61, 49]⟩ : ByteArray), (⟨#[97, 61, 120, 59, 121, 61, 97, 124, 97, 61, 121, 59, 120, 61, 97]⟩ : ByteArray), (⟨#[120, 61, 49, 124, 120, 61, 50, 124, 97, 61, 120, 59, 98, 61, 120]⟩ : ByteArray), (⟨#[120, 61, 49, 124, 121, 61, 49, 124, 97, 61, 120, 59, 98, 61, 121, 124, 97, 61, 121, 59, 98, 61, 120]⟩ : ByteArray), (⟨#[120, 61, 49, 124, 97, 61, 120, 59, 121, 61, 49, 124, 97, 61, 121, 59, 98, 61, 120]⟩ : ByteArray), (⟨#[120, 61, 49, 124, 121, 61, 49, 124, 97, 61, 120, 59, 98, 61, 121]⟩ : ByteArray), (⟨#[97, 61, 120, 58, 49, 124, 97, 61, 120, 58, 50, 124, 120, 61, 51]⟩ : ByteArray), (⟨#[120, 61, 49, 59, 97, 61, 120, 59, 98, 61, 121, 124, 121, 61, 49, 59, 97, 61, 121, 59, 98, 61, 120]⟩ : ByteArray), (⟨#[120, 61, 50, 59, 121, 61, 49, 124, 121, 61, 50, 59, 120, 61, 49]⟩ : ByteArray), (⟨#[97, 61, 120, 58, 49, 59, 98, 61, 121, 124, 97, 61, 121, 58, 49, 59, 98, 61, 120]⟩ : ByteArray), (⟨#[120, 61, 49, 59, 120, 61, 50, 124, 97, 61, 120, 59, 98, 61, 120]⟩ : ByteArray), (⟨#[120, 61, 49, 59, 121, 61, 49, 59, 97, 61, 122, 124, 122, 61, 49, 59, 97, 61, 121, 59, 98, 61, 120]⟩ : ByteArray), (⟨#[97, 61, 120, 58, 49, 124, 98, 61, 120, 58, 49]⟩ : ByteArray), (⟨#[102, 101, 110, 99, 101]⟩ : ByteArray), (⟨#[]⟩ : ByteArray), (⟨#[120, 61, 49, 59, 97, 61, 121, 124, 121, 61, 49, 59, 102, 101, 110, 99, 101, 59, 97, 61, 120]⟩ : ByteArray)] : List ByteArray)) rfl) ?_
 refine TO.nil ?_
 refine T.ret ?_
 obtain rfl := osi h
 repeat (first|refine retS ?_|refine retB ?_)
 exact Fin.ret (vs := [eL cS ([(⟨#[120, 61, 49, 59, 97, 61, 121, 124, 121, 61, 49, 59, 97, 61, 120]⟩ : ByteArray), (⟨#[120, 61, 49, 59, 102, 101, 110, 99, 101, 59, 97, 61, 121, 124, 121, 61, 49, 59, 102, 101, 110, 99, 101, 59, 97, 61, 120]⟩ : ByteArray), (⟨#[120, 61, 49, 59, 121, 61, 49, 124, 97, 61, 121, 59, 98, 61, 120]⟩ : ByteArray), (⟨#[120, 61, 49, 59, 121, 61, 49, 124, 97, 61, 121, 59, 102, 101, 110, 99, 101, 59, 98, 61, 120]⟩ : ByteArray), (⟨#[120, 61, 49, 59, 102, 101, 110, 99, 101, 59, 121, 61, 49, 124, 97, 61, 121, 59, 98, 61, 120]⟩ : ByteArray), (⟨#[97, 61, 120, 59, 121, 61, 49, 124, 97, 61, 121, 59, 120, 61, 49]⟩ : ByteArray), (⟨#[97, 61, 120, 59, 121, 61, 97, 124, 97, 61, 121, 59, 120, 61, 97]⟩ : ByteArray), (⟨#[120, 61, 49, 124, 120, 61, 50, 124, 97, 61, 120, 59, 98, 61, 120]⟩ : ByteArray), (⟨#[120, 61, 49, 124, 121, 61, 49, 124, 97, 61, 120, 59, 98, 61, 121, 124, 97, 61, 121, 59, 98, 61, 120]⟩ : ByteArray), (⟨#[120, 61, 49, 124, 97, 61, 120, 59, 121, 61, 49, 124, 97, 61, 121, 59, 98, 61, 120]⟩ : ByteArray), (⟨#[120, 61, 49, 124, 121, 61, 49, 124, 97, 61, 120, 59, 98, 61, 121]⟩ : ByteArray), (⟨#[97, 61, 120, 58, 49, 124, 97, 61, 120, 58, 50, 124, 120, 61, 51]⟩ : ByteArray), (⟨#[120, 61, 49, 59, 97, 61, 120, 59, 98, 61, 121, 124, 121, 61, 49, 59, 97, 61, 121, 59, 98, 61, 120]⟩ : ByteArray), (⟨#[120, 61, 50, 59, 121, 61, 49, 124, 121, 61, 50, 59, 120, 61, 49]⟩ : ByteArray), (⟨#[97, 61, 120, 58, 49, 59, 98, 61, 121, 124, 97, 61, 121, 58, 49, 59, 98, 61, 120]⟩ : ByteArray), (⟨#[120, 61, 49, 59, 120, 61, 50, 124, 97, 61, 120, 59, 98, 61, 120]⟩ : ByteArray), (⟨#[120, 61, 49, 59, 121, 61, 49, 59, 97, 61, 122, 124, 122, 61, 49, 59, 97, 61, 121, 59, 98, 61, 120]⟩ : ByteArray), (⟨#[97, 61, 120, 58, 49, 124, 98, 61, 120, 58, 49]⟩ : ByteArray), (⟨#[102, 101, 110, 99, 101]⟩ : ByteArray), (⟨#[]⟩ : ByteArray), (⟨#[120, 61, 49, 59, 97, 61, 121, 124, 121, 61, 49, 59, 102, 101, 110, 99, 101, 59, 97, 61, 120]⟩ : ByteArray)] : List ByteArray)]) (.cons (.tmp rfl) .nil) (.of_isF 9 _ rfl)
theorem F_spec_l17Cut_P (s : ByteArray) (c : Int) {q : (List ByteArray)} (h : F_spec_l17Cut s c = some q) : PCall Try.prog 157 [St s, Y c] (eL cS q) := by
 refine PCall.mkT Try.func157 rfl (by kernel_rfl) rfl (by kernel_rfl) (e0 := envOf [(0, St s), (1, Y c)]) (wkC rfl (wkC rfl wkN)) ?_
 refine T.seq ?_
 refine T.region ?_
 refine oN (EvN.asg (.nil) rfl) ?_
 refine TO.nil ?_
 refine T.seq ?_
 refine T.region ?_
 refine oA (EvA.mkO (c := cS) ([] : List ByteArray) [] sl140 rfl rfl rfl (fun _ => rfl) rfl rfl) ?_
 refine oN (EvN.asg (hS false 0 0 1 (([] : List ByteArray).length)) rfl) ?_
 refine TO.nil ?_
 refine T.seq ?_
 refine T.region ?_
 refine oN (EvN.asg (I (0 : Int)) rfl) ?_
 refine TO.nil ?_
 obtain ⟨s1, h, ks1⟩ := bindL h
 refine T.joinF (G := Nat) (fun gh => True) (fun gh => [(5, hS false 0 gh 1 s1.length)]) (fun gh => [bE false gh 1 9 (s1.map cS)]) (fun u19 hg => ?_) ?_
 ·clear h
  have h := ks1
  clear ks1
  refine T.seq ?_
  refine T.region ?_
  refine oN (EvN.mv (hS false 0 u19 1 s1.length) rfl) ?_
  refine oN (EvN.asg (hS false 0 u19 1 s1.length) rfl) ?_
  refine TO.nil ?_
  refine T.ret ?_
  obtain rfl := osi h
  repeat (first|refine retS ?_|refine retB ?_)
  exact Fin.ret (vs := [hS false 0 u19 1 s1.length]) (.cons (.tmp rfl) .nil) (Fz.own (g := false) (ver := u19) (l := s1) rfl rfl rfl nofun (fun _ => rfl))
 ·clear ks1
  refine T.seq ?_
  refine T.region ?_
  refine oN (EvN.asg (I (0 : Int)) rfl) ?_
  refine TO.nil ?_
  refine T.block ?_
  refine T.loop (S := (List ByteArray) × Int × Int) (G := Nat) (F_spec_l17Cut_L6 s c) (fun s5 gh => True) (fun s5 gh => [(7, I s5.2.1), (6, I s5.2.2), (5, hS false 0 gh 1 s5.1.length), (0, St s), (1, Y c)]) (fun s5 gh => [bE false gh 1 9 (s5.1.map cS)]) (s0 := (([] : List ByteArray), (0 : Int), (0 : Int))) 0 h trivial (cutW rfl (wkC rfl (wkC rfl (wkC rfl (wkC rfl (wkC rfl wkN)))))) (fun s5 u7 ws5 h hg => ?_)
  refine T.seq ?_
  refine T.seq ?_
  refine T.region ?_
  refine oN (EvN.mv (I s5.2.1) rfl) ?_
  refine oN (EvN.mv (St s) rfl) ?_
  refine oN (EvN.lenst Try.underlying9 rfl) ?_
  refine oN (EvN.ile rfl rfl) ?_
  refine TO.nil ?_
  refine T.cond rfl (fun q8 => ?_) (fun q8 => ?_)
  ·replace h := condT q8 h
   refine T.skip ?_
   obtain ⟨s9, h, ks9⟩ := bindL h
   refine T.joinF (G := Nat) (fun gh => True) (fun gh => [(6, I s9.2), (5, hS false 0 gh 1 s9.1.length), (7, I s5.2.1), (0, St s), (1, Y c)]) (fun gh => [bE false gh 1 9 (s9.1.map cS)]) (fun u17 hg => ?_) ?_
   ·clear h
    have h := ks9
    clear ks9
    refine T.region ?_
    refine oN (EvN.mv (I s5.2.1) rfl) ?_
    obtain ⟨g18, h⟩ := gdW h
    refine oN (EvN.add rfl rfl g18) ?_
    refine oN (EvN.asg (I (s5.2.1 + (1 : Int))) rfl) ?_
    refine TO.nil ?_
    obtain rfl := osi h
    exact ⟨(s9.1, (s5.2.1 + (1 : Int)), s9.2), u17, rfl, trivial, cutW rfl (wkC rfl (wkC rfl (wkC rfl (wkC rfl (wkC rfl wkN)))))⟩
   ·clear ks9
    refine T.block ?_
    refine T.seq ?_
    refine T.region ?_
    refine oN (EvN.mv (I s5.2.1) rfl) ?_
    refine oN (EvN.mv (St s) rfl) ?_
    refine oN (EvN.lenst Try.underlying9 rfl) ?_
    refine oN (EvN.ieq rfl rfl) ?_
    refine oN (EvN.mv (Bo (s5.2.1 == (s.size : Int))) rfl) ?_
    obtain ⟨s10, h, ks10⟩ := bindL h
    refine TO.joinF (G := Unit) 6 (fun _ => True) (fun _ => [(25, Bo s10), (7, I s5.2.1), (6, I s5.2.2), (5, hS false 0 u7 1 s5.1.length), (0, St s), (1, Y c)]) (fun _ => [bE false u7 1 9 (s5.1.map cS)]) ?_ (fun js10 => ?_)
    rotate_left
    ·clear ks10
     rcases bifL h with ⟨q11, h⟩ | ⟨q11, h⟩
     ·refine gS rfl q11 ?_
      refine gS rfl q11 ?_
      refine gS rfl q11 ?_
      refine gS rfl q11 ?_
      refine gS rfl q11 ?_
      refine oN (EvN.pickT rfl q11 (Bo true) rfl) ?_
      obtain rfl := osi h
      exact js10 _ _ ⟨(), trivial, cutW rfl (wkC rfl (wkC rfl (wkC rfl (wkC rfl (wkC rfl (wkC rfl wkN))))))⟩
     ·refine gN rfl q11 (EvN.mv (St s) rfl) ?_
      refine gN rfl q11 (EvN.mv (I s5.2.1) rfl) ?_
      obtain ⟨g12, h⟩ := gdD h
      refine gN rfl q11 (EvN.ixst Try.underlying9 rfl rfl g12) ?_
      refine gN rfl q11 (EvN.mv (Y c) rfl) ?_
      refine gN rfl q11 (EvN.ieq rfl rfl) ?_
      refine oN (EvN.pickF rfl q11 (Bo (((s.data.getD s5.2.1.toNat 0).toNat : Int) == c)) rfl) ?_
      obtain rfl := osi h
      exact js10 _ _ ⟨(), trivial, cutW rfl (wkC rfl (wkC rfl (wkC rfl (wkC rfl (wkC rfl (wkC rfl wkN))))))⟩
    ·intro _ _
     replace h := ks10
     clear ks10
     refine TO.nil ?_
     refine T.cond rfl (fun q13 => ?_) (fun q13 => ?_)
     ·replace h := condT q13 h
      refine T.seq ?_
      refine T.region ?_
      refine oN (EvN.mv (hS false 0 u7 1 s5.1.length) rfl) ?_
      refine oN (EvN.mv (St s) rfl) ?_
      refine oN (EvN.mv (I s5.2.2) rfl) ?_
      refine oN (EvN.mv (I s5.2.1) rfl) ?_
      obtain ⟨g14, h⟩ := gdD h
      refine oN (EvN.slst Try.underlying9 rfl (.yes rfl) (.yes rfl) g14) ?_
      refine oN (EvN.mkF (c := cS) ([(s.extract s5.2.2.toNat s5.2.1.toNat)] : List ByteArray) [[St (s.extract s5.2.2.toNat s5.2.1.toNat)]] sl140 rfl rfl rfl (fun _ => rfl) (fun _ => rfl) rfl) ?_
      obtain ⟨g15, h⟩ := gdL h
      refine oA (EvA.app1 (g := false) (l := s5.1) (s.extract s5.2.2.toNat s5.2.1.toNat) sl140 (by kernel_rfl) rfl rfl rfl nofun (SrcOk.fz (l := ([(s.extract s5.2.2.toNat s5.2.1.toNat)] : List ByteArray)) rfl (fun _ => rfl)) g15) ?_
      refine oN (EvN.asg (hS false 0 (u7 + 1) 1 ((s5.1 ++ [(s.extract s5.2.2.toNat s5.2.1.toNat)]).length)) rfl) ?_
      refine TO.nil ?_
      refine T.clean (H0 := [bE false (u7 + 1) 1 9 ((s5.1 ++ [(s.extract s5.2.2.toNat s5.2.1.toNat)]).map cS)]) (e0 := envOf [(5, hS false 0 (u7 + 1) 1 ((s5.1 ++ [(s.extract s5.2.2.toNat s5.2.1.toNat)]).length)), (7, I s5.2.1), (0, St s), (1, Y c)]) rfl (wkC rfl (wkC rfl (wkC rfl (wkC rfl wkN)))) ?_
      refine T.region ?_
      refine oN (EvN.mv (I s5.2.1) rfl) ?_
      obtain ⟨g16, h⟩ := gdW h
      refine oN (EvN.add rfl rfl g16) ?_
      refine oN (EvN.asg (I (s5.2.1 + (1 : Int))) rfl) ?_
      refine TO.nil ?_
      obtain rfl := osi h
      exact ⟨u7 + 1, trivial, cutW rfl (wkC rfl (wkC rfl (wkC rfl (wkC rfl (wkC rfl wkN)))))⟩
     ·replace h := condF q13 h
      refine T.skip ?_
      obtain rfl := osi h
      exact ⟨u7, trivial, cutW rfl (wkC rfl (wkC rfl (wkC rfl (wkC rfl (wkC rfl wkN)))))⟩
  ·replace h := condF q8 h
   refine T.exit ?_
   refine ⟨_, (osi h).symm, fun h => ?_⟩
   replace h := congrArg some h
   obtain rfl := osi h
   exact ⟨u7, trivial, cutW rfl (wkC rfl wkN)⟩
theorem F_spec_l1Place_P (s : ByteArray) (at_ : Int) (from_ : Int) (most : Int) {q : Int} (h : F_spec_l1Place s at_ from_ most = some q) : PCall Try.prog 181 [St s, I at_, Y from_, I most] (I q) := by
 refine PCall.mkT Try.func181 rfl (by kernel_rfl) rfl (by kernel_rfl) (e0 := envOf [(0, St s), (1, I at_), (2, Y from_), (3, I most)]) (wkC rfl (wkC rfl (wkC rfl (wkC rfl wkN)))) ?_
 refine T.seq ?_
 refine T.region ?_
 refine oN (EvN.asg (I (0 : Int)) rfl) ?_
 refine TO.nil ?_
 refine T.seq ?_
 refine T.seq ?_
 refine T.region ?_
 refine oN (EvN.mv (I at_) rfl) ?_
 refine oN (EvN.mv (St s) rfl) ?_
 refine oN (EvN.lenst Try.underlying9 rfl) ?_
 refine oN (EvN.ige rfl rfl) ?_
 refine oN (EvN.mv (Bo (decide ((s.size : Int) ≤ at_))) rfl) ?_
 obtain ⟨s1, h, ks1⟩ := bindL h
 refine TO.joinF (G := Unit) 6 (fun _ => True) (fun _ => [(19, Bo s1), (0, St s), (1, I at_), (2, Y from_), (3, I most)]) (fun _ => []) ?_ (fun js1 => ?_)
 rotate_left
 ·clear ks1
  rcases bifL h with ⟨q2, h⟩ | ⟨q2, h⟩
  ·refine gS rfl q2 ?_
   refine gS rfl q2 ?_
   refine gS rfl q2 ?_
   refine gS rfl q2 ?_
   refine gS rfl q2 ?_
   refine oN (EvN.pickT rfl q2 (Bo true) rfl) ?_
   obtain rfl := osi h
   exact js1 _ _ ⟨(), trivial, cutW rfl (wkC rfl (wkC rfl (wkC rfl (wkC rfl (wkC rfl wkN)))))⟩
  ·refine gN rfl q2 (EvN.mv (St s) rfl) ?_
   refine gN rfl q2 (EvN.mv (I at_) rfl) ?_
   obtain ⟨g3, h⟩ := gdD h
   refine gN rfl q2 (EvN.ixst Try.underlying9 rfl rfl g3) ?_
   refine gN rfl q2 (EvN.mv (Y from_) rfl) ?_
   refine gN rfl q2 (EvN.ilt rfl rfl) ?_
   refine oN (EvN.pickF rfl q2 (Bo (decide (((s.data.getD at_.toNat 0).toNat : Int) < from_))) rfl) ?_
   obtain rfl := osi h
   exact js1 _ _ ⟨(), trivial, cutW rfl (wkC rfl (wkC rfl (wkC rfl (wkC rfl (wkC rfl wkN)))))⟩
 ·intro _ _
  replace h := ks1
  clear ks1
  refine oN (EvN.mv (Bo s1) rfl) ?_
  obtain ⟨s4, h, ks4⟩ := bindL h
  refine TO.joinF (G := Unit) 9 (fun _ => True) (fun _ => [(29, Bo s4), (0, St s), (1, I at_), (2, Y from_)]) (fun _ => []) ?_ (fun js4 => ?_)
  rotate_left
  ·clear ks4
   rcases bifL h with ⟨q5, h⟩ | ⟨q5, h⟩
   ·refine gS rfl q5 ?_
    refine gS rfl q5 ?_
    refine gS rfl q5 ?_
    refine gS rfl q5 ?_
    refine gS rfl q5 ?_
    refine gS rfl q5 ?_
    refine gS rfl q5 ?_
    refine gS rfl q5 ?_
    refine oN (EvN.pickT rfl q5 (Bo true) rfl) ?_
    obtain rfl := osi h
    exact js4 _ _ ⟨(), trivial, cutW rfl (wkC rfl (wkC rfl (wkC rfl (wkC rfl wkN))))⟩
   ·refine gN rfl q5 (EvN.mv (St s) rfl) ?_
    refine gN rfl q5 (EvN.mv (I at_) rfl) ?_
    obtain ⟨g6, h⟩ := gdD h
    refine gN rfl q5 (EvN.ixst Try.underlying9 rfl rfl g6) ?_
    refine gN rfl q5 (EvN.mv (Y from_) rfl) ?_
    obtain ⟨g7, h⟩ := gdW h
    refine gN rfl q5 (EvN.sub rfl rfl g7) ?_
    obtain ⟨g8, h⟩ := gdW h
    refine gN rfl q5 (EvN.iconv ty5.und Try.underlying3 rfl g8) ?_
    refine gN rfl q5 (EvN.mv (I most) rfl) ?_
    refine gN rfl q5 (EvN.igt rfl rfl) ?_
    refine oN (EvN.pickF rfl q5 (Bo (decide (most < (((s.data.getD at_.toNat 0).toNat : Int) - from_)))) rfl) ?_
    obtain rfl := osi h
    exact js4 _ _ ⟨(), trivial, cutW rfl (wkC rfl (wkC rfl (wkC rfl (wkC rfl wkN))))⟩
  ·intro _ _
   replace h := ks4
   clear ks4
   refine TO.nil ?_
   refine T.cond rfl (fun q9 => ?_) (fun q9 => ?_)
   ·replace h := condT q9 h
    refine T.seq ?_
    refine T.region ?_
    refine oN (EvN.asg (I (-1 : Int)) rfl) ?_
    refine TO.nil ?_
    refine T.ret ?_
    obtain rfl := osi h
    repeat (first|refine retS ?_|refine retB ?_)
    exact Fin.ret (vs := [I (-1 : Int)]) (.cons (.tmp rfl) .nil) (.of_isF 9 _ rfl)
   ·replace h := condF q9 h
    refine T.skip ?_
    refine T.seq ?_
    refine T.region ?_
    refine oN (EvN.mv (St s) rfl) ?_
    refine oN (EvN.mv (I at_) rfl) ?_
    obtain ⟨g10, h⟩ := gdD h
    refine oN (EvN.ixst Try.underlying9 rfl rfl g10) ?_
    refine oN (EvN.mv (Y from_) rfl) ?_
    obtain ⟨g11, h⟩ := gdW h
    refine oN (EvN.sub rfl rfl g11) ?_
    obtain ⟨g12, h⟩ := gdW h
    refine oN (EvN.iconv ty5.und Try.underlying3 rfl g12) ?_
    refine oN (EvN.asg (I (((s.data.getD at_.toNat 0).toNat : Int) - from_)) rfl) ?_
    refine TO.nil ?_
    refine T.ret ?_
    obtain rfl := osi h
    repeat (first|refine retS ?_|refine retB ?_)
    exact Fin.ret (vs := [I (((s.data.getD at_.toNat 0).toNat : Int) - from_)]) (.cons (.tmp rfl) .nil) (.of_isF 9 _ rfl)
theorem F_spec_l1Parse_P (s : ByteArray) {q : ZIn} (h : F_spec_l1Parse s = some q) : PCall Try.prog 158 [St s] (.agg (ZIn.c q)) := by
 refine PCall.mkT Try.func158 rfl (by kernel_rfl) rfl (by kernel_rfl) (e0 := envOf [(0, St s)]) (wkC rfl wkN) ?_
 refine T.seq ?_
 refine T.region ?_
 refine oA (EvA.al zs56 rfl rfl) ?_
 refine TO.nil ?_
 refine T.seq ?_
 refine T.seq ?_
 refine T.region ?_
 refine oN (EvN.mv (St s) rfl) ?_
 refine oN (EvN.seq rfl rfl) ?_
 refine TO.nil ?_
 refine T.cond rfl (fun q1 => ?_) (fun q1 => ?_)
 ·replace h := condT q1 h
  refine T.seq ?_
  refine T.region ?_
  refine oN (EvN.build [I (4 : Int), I (0 : Int), I (0 : Int), I (0 : Int)] Try.underlying56 zs56 fs56 rfl rfl) ?_
  refine oV (EvA.st (cs := [I (4 : Int), I (0 : Int), I (0 : Int), I (0 : Int)]) ⟨0, 4, 56, [[I (4 : Int), I (0 : Int), I (0 : Int), I (0 : Int)]]⟩ ty56 rfl rfl rfl rfl rfl rfl rfl rfl rfl) ?_
  refine TO.nil ?_
  refine T.ret ?_
  obtain rfl := osi h
  repeat (first|refine retS ?_|refine retB ?_)
  exact Fin.ret (vs := [.agg [I (4 : Int), I (0 : Int), I (0 : Int), I (0 : Int)]]) (.cons (.cell (.agg [I (4 : Int), I (0 : Int), I (0 : Int), I (0 : Int)]) ty56 rfl rfl rfl rfl rfl rfl) .nil) (.of_isF 9 _ rfl)
 ·replace h := condF q1 h
  refine T.skip ?_
  refine T.seq ?_
  refine T.region ?_
  refine oN (EvN.mv (St s) rfl) ?_
  obtain ⟨v2, cv2, h⟩ := bindL h
  refine oN (EvN.call rfl rfl rfl (F_spec_l1Place_P s (0 : Int) (97 : Int) (2 : Int) cv2) rfl) ?_
  refine oN (EvN.asg (I v2) rfl) ?_
  refine TO.nil ?_
  refine T.seq ?_
  refine T.region ?_
  refine oN (EvN.mv (St s) rfl) ?_
  obtain ⟨v3, cv3, h⟩ := bindL h
  refine oN (EvN.call rfl rfl rfl (F_spec_l1Place_P s (0 : Int) (120 : Int) (2 : Int) cv3) rfl) ?_
  refine oN (EvN.asg (I v3) rfl) ?_
  refine TO.nil ?_
  refine T.seq ?_
  refine T.seq ?_
  refine T.clean (H0 := [some ⟨0, 4, 56, [[I (0 : Int), I (0 : Int), I (0 : Int), I (0 : Int)]]⟩]) (e0 := envOf [(4, I v3), (3, I v2), (2, .hp 0 0 4 0 0), (0, St s)]) rfl (wkC rfl (wkC rfl (wkC rfl (wkC rfl wkN)))) ?_
  refine T.region ?_
  refine oN (EvN.mv (I v2) rfl) ?_
  refine oN (EvN.ige rfl rfl) ?_
  refine oN (EvN.mv (Bo (decide ((0 : Int) ≤ v2))) rfl) ?_
  obtain ⟨s4, h, ks4⟩ := bindL h
  refine TO.joinF (G := Unit) 4 (fun _ => True) (fun _ => [(18, Bo s4), (4, I v3), (3, I v2), (2, .hp 0 0 4 0 0), (0, St s)]) (fun _ => [some ⟨0, 4, 56, [[I (0 : Int), I (0 : Int), I (0 : Int), I (0 : Int)]]⟩]) ?_ (fun js4 => ?_)
  rotate_left
  ·clear ks4
   rcases bifL h with ⟨q5, h⟩ | ⟨q5, h⟩
   ·refine gN rfl q5 (EvN.mv (St s) rfl) ?_
    refine gN rfl q5 (EvN.lenst Try.underlying9 rfl) ?_
    refine gN rfl q5 (EvN.ieq rfl rfl) ?_
    refine oN (EvN.pickT rfl q5 (Bo ((s.size : Int) == (3 : Int))) rfl) ?_
    obtain rfl := osi h
    exact js4 _ _ ⟨(), trivial, cutW rfl (wkC rfl (wkC rfl (wkC rfl (wkC rfl (wkC rfl wkN)))))⟩
   ·refine gS rfl q5 ?_
    refine gS rfl q5 ?_
    refine gS rfl q5 ?_
    refine oN (EvN.pickF rfl q5 (Bo false) rfl) ?_
    obtain rfl := osi h
    exact js4 _ _ ⟨(), trivial, cutW rfl (wkC rfl (wkC rfl (wkC rfl (wkC rfl (wkC rfl wkN)))))⟩
  ·intro _ _
   replace h := ks4
   clear ks4
   refine TO.nil ?_
   refine T.cond rfl (fun q6 => ?_) (fun q6 => ?_)
   ·replace h := condT q6 h
    refine T.seq ?_
    refine T.region ?_
    refine oN (EvN.mv (I v2) rfl) ?_
    refine oN (EvN.mv (St s) rfl) ?_
    obtain ⟨v7, cv7, h⟩ := bindL h
    refine oN (EvN.call rfl rfl rfl (F_spec_l1Place_P s (2 : Int) (120 : Int) (2 : Int) cv7) rfl) ?_
    refine oN (EvN.build [I (1 : Int), I v7, I v2, I (0 : Int)] Try.underlying56 zs56 fs56 rfl rfl) ?_
    refine oV (EvA.st (cs := [I (1 : Int), I v7, I v2, I (0 : Int)]) ⟨0, 4, 56, [[I (1 : Int), I v7, I v2, I (0 : Int)]]⟩ ty56 rfl rfl rfl rfl rfl rfl rfl rfl rfl) ?_
    refine TO.nil ?_
    refine T.ret ?_
    obtain rfl := osi h
    repeat (first|refine retS ?_|refine retB ?_)
    exact Fin.ret (vs := [.agg [I (1 : Int), I v7, I v2, I (0 : Int)]]) (.cons (.cell (.agg [I (1 : Int), I v7, I v2, I (0 : Int)]) ty56 rfl rfl rfl rfl rfl rfl) .nil) (.of_isF 9 _ rfl)
   ·replace h := condF q6 h
    refine T.skip ?_
    refine T.seq ?_
    refine T.seq ?_
    refine T.region ?_
    refine oN (EvN.mv (I v2) rfl) ?_
    refine oN (EvN.ige rfl rfl) ?_
    refine oN (EvN.mv (Bo (decide ((0 : Int) ≤ v2))) rfl) ?_
    obtain ⟨s8, h, ks8⟩ := bindL h
    refine TO.joinF (G := Unit) 4 (fun _ => True) (fun _ => [(29, Bo s8), (4, I v3), (3, I v2), (2, .hp 0 0 4 0 0), (0, St s)]) (fun _ => [some ⟨0, 4, 56, [[I (0 : Int), I (0 : Int), I (0 : Int), I (0 : Int)]]⟩]) ?_ (fun js8 => ?_)
    rotate_left
    ·clear ks8
     rcases bifL h with ⟨q9, h⟩ | ⟨q9, h⟩
     ·refine gN rfl q9 (EvN.mv (St s) rfl) ?_
      refine gN rfl q9 (EvN.lenst Try.underlying9 rfl) ?_
      refine gN rfl q9 (EvN.ieq rfl rfl) ?_
      refine oN (EvN.pickT rfl q9 (Bo ((s.size : Int) == (5 : Int))) rfl) ?_
      obtain rfl := osi h
      exact js8 _ _ ⟨(), trivial, cutW rfl (wkC rfl (wkC rfl (wkC rfl (wkC rfl (wkC rfl wkN)))))⟩
     ·refine gS rfl q9 ?_
      refine gS rfl q9 ?_
      refine gS rfl q9 ?_
      refine oN (EvN.pickF rfl q9 (Bo false) rfl) ?_
      obtain rfl := osi h
      exact js8 _ _ ⟨(), trivial, cutW rfl (wkC rfl (wkC rfl (wkC rfl (wkC rfl (wkC rfl wkN)))))⟩
    ·intro _ _
     replace h := ks8
     clear ks8
     refine TO.nil ?_
     refine T.cond rfl (fun q10 => ?_) (fun q10 => ?_)
     ·replace h := condT q10 h
      refine T.seq ?_
      refine T.region ?_
      refine oN (EvN.mv (I v2) rfl) ?_
      refine oN (EvN.mv (St s) rfl) ?_
      obtain ⟨v11, cv11, h⟩ := bindL h
      refine oN (EvN.call rfl rfl rfl (F_spec_l1Place_P s (2 : Int) (120 : Int) (2 : Int) cv11) rfl) ?_
      refine oN (EvN.mv (St s) rfl) ?_
      obtain ⟨v12, cv12, h⟩ := bindL h
      refine oN (EvN.call rfl rfl rfl (F_spec_l1Place_P s (4 : Int) (48 : Int) (3 : Int) cv12) rfl) ?_
      refine oN (EvN.build [I (5 : Int), I v11, I v2, I v12] Try.underlying56 zs56 fs56 rfl rfl) ?_
      refine oV (EvA.st (cs := [I (5 : Int), I v11, I v2, I v12]) ⟨0, 4, 56, [[I (5 : Int), I v11, I v2, I v12]]⟩ ty56 rfl rfl rfl rfl rfl rfl rfl rfl rfl) ?_
      refine TO.nil ?_
      refine T.ret ?_
      obtain rfl := osi h
      repeat (first|refine retS ?_|refine retB ?_)
      exact Fin.ret (vs := [.agg [I (5 : Int), I v11, I v2, I v12]]) (.cons (.cell (.agg [I (5 : Int), I v11, I v2, I v12]) ty56 rfl rfl rfl rfl rfl rfl) .nil) (.of_isF 9 _ rfl)
     ·replace h := condF q10 h
      refine T.skip ?_
      refine T.seq ?_
      refine T.seq ?_
      refine T.region ?_
      refine oN (EvN.mv (I v3) rfl) ?_
      refine oN (EvN.ige rfl rfl) ?_
      refine oN (EvN.mv (Bo (decide ((0 : Int) ≤ v3))) rfl) ?_
      obtain ⟨s13, h, ks13⟩ := bindL h
      refine TO.joinF (G := Unit) 4 (fun _ => True) (fun _ => [(42, Bo s13), (4, I v3), (2, .hp 0 0 4 0 0), (0, St s)]) (fun _ => [some ⟨0, 4, 56, [[I (0 : Int), I (0 : Int), I (0 : Int), I (0 : Int)]]⟩]) ?_ (fun js13 => ?_)
      rotate_left
      ·clear ks13
       rcases bifL h with ⟨q14, h⟩ | ⟨q14, h⟩
       ·refine gN rfl q14 (EvN.mv (St s) rfl) ?_
        obtain ⟨v15, cv15, h⟩ := bindL h
        refine gN rfl q14 (EvN.call rfl rfl rfl (F_spec_l1Place_P s (2 : Int) (97 : Int) (2 : Int) cv15) rfl) ?_
        refine gN rfl q14 (EvN.ige rfl rfl) ?_
        refine oN (EvN.pickT rfl q14 (Bo (decide ((0 : Int) ≤ v15))) rfl) ?_
        obtain rfl := osi h
        exact js13 _ _ ⟨(), trivial, cutW rfl (wkC rfl (wkC rfl (wkC rfl (wkC rfl wkN))))⟩
       ·refine gS rfl q14 ?_
        refine gS rfl q14 ?_
        refine gS rfl q14 ?_
        refine oN (EvN.pickF rfl q14 (Bo false) rfl) ?_
        obtain rfl := osi h
        exact js13 _ _ ⟨(), trivial, cutW rfl (wkC rfl (wkC rfl (wkC rfl (wkC rfl wkN))))⟩
      ·intro _ _
       replace h := ks13
       clear ks13
       refine TO.nil ?_
       refine T.cond rfl (fun q16 => ?_) (fun q16 => ?_)
       ·replace h := condT q16 h
        refine T.seq ?_
        refine T.region ?_
        refine oN (EvN.mv (I v3) rfl) ?_
        refine oN (EvN.mv (St s) rfl) ?_
        obtain ⟨v17, cv17, h⟩ := bindL h
        refine oN (EvN.call rfl rfl rfl (F_spec_l1Place_P s (2 : Int) (97 : Int) (2 : Int) cv17) rfl) ?_
        refine oN (EvN.build [I (3 : Int), I v3, I v17, I (0 : Int)] Try.underlying56 zs56 fs56 rfl rfl) ?_
        refine oV (EvA.st (cs := [I (3 : Int), I v3, I v17, I (0 : Int)]) ⟨0, 4, 56, [[I (3 : Int), I v3, I v17, I (0 : Int)]]⟩ ty56 rfl rfl rfl rfl rfl rfl rfl rfl rfl) ?_
        refine TO.nil ?_
        refine T.ret ?_
        obtain rfl := osi h
        repeat (first|refine retS ?_|refine retB ?_)
        exact Fin.ret (vs := [.agg [I (3 : Int), I v3, I v17, I (0 : Int)]]) (.cons (.cell (.agg [I (3 : Int), I v3, I v17, I (0 : Int)]) ty56 rfl rfl rfl rfl rfl rfl) .nil) (.of_isF 9 _ rfl)
       ·replace h := condF q16 h
        refine T.skip ?_
        refine T.seq ?_
        refine T.region ?_
        refine oN (EvN.mv (I v3) rfl) ?_
        refine oN (EvN.mv (St s) rfl) ?_
        obtain ⟨v18, cv18, h⟩ := bindL h
        refine oN (EvN.call rfl rfl rfl (F_spec_l1Place_P s (2 : Int) (48 : Int) (3 : Int) cv18) rfl) ?_
        refine oN (EvN.build [I (2 : Int), I v3, I (0 : Int), I v18] Try.underlying56 zs56 fs56 rfl rfl) ?_
        refine oV (EvA.st (cs := [I (2 : Int), I v3, I (0 : Int), I v18]) ⟨0, 4, 56, [[I (2 : Int), I v3, I (0 : Int), I v18]]⟩ ty56 rfl rfl rfl rfl rfl rfl rfl rfl rfl) ?_
        refine TO.nil ?_
        refine T.ret ?_
        obtain rfl := osi h
        repeat (first|refine retS ?_|refine retB ?_)
        exact Fin.ret (vs := [.agg [I (2 : Int), I v3, I (0 : Int), I v18]]) (.cons (.cell (.agg [I (2 : Int), I v3, I (0 : Int), I v18]) ty56 rfl rfl rfl rfl rfl rfl) .nil) (.of_isF 9 _ rfl)
theorem F_spec_l1Letter_P (from_ : Int) (n : Int) {q : ByteArray} (h : F_spec_l1Letter from_ n = some q) : PCall Try.prog 189 [Y from_, I n] (St q) := by
 refine PCall.mkT Try.func189 rfl (by kernel_rfl) rfl (by kernel_rfl) (e0 := envOf [(0, Y from_), (1, I n)]) (wkC rfl (wkC rfl wkN)) ?_
 refine T.seq ?_
 refine T.region ?_
 refine oN (EvN.asg (St (⟨#[]⟩ : ByteArray)) rfl) ?_
 refine TO.nil ?_
 refine T.seq ?_
 refine T.region ?_
 refine oN (EvN.mv (Y from_) rfl) ?_
 refine oN (EvN.mv (I n) rfl) ?_
 obtain ⟨g1, h⟩ := gdW h
 refine oN (EvN.iconv ty3.und Try.underlying5 rfl g1) ?_
 obtain ⟨g2, h⟩ := gdW h
 refine oN (EvN.add rfl rfl g2) ?_
 refine oN (EvN.mkF (c := cY) ([(from_ + n)] : List Int) [[Y (from_ + n)]] sl52 rfl rfl rfl (fun _ => rfl) (fun _ => rfl) rfl) ?_
 refine oA (EvA.b2s (l := ([(from_ + n)] : List Int)) Try.underlying52 Try.underlying5 Try.underlying9 (slc_eL rfl) (SrcOk.fz (l := ([(from_ + n)] : List Int)) rfl (fun _ => rfl))) ?_
 refine oN (EvN.asg (St (strOfNums ([(from_ + n)] : List Int))) rfl) ?_
 refine TO.nil ?_
 refine T.ret ?_
 obtain rfl := osi h
 repeat (first|refine retS ?_|refine retB ?_)
 exact Fin.ret (vs := [St (strOfNums ([(from_ + n)] : List Int))]) (.cons (.tmp rfl) .nil) (.of_isF 9 _ rfl)
theorem F_spec_l17Dec_PN : ∀ (nf : Nat) (n : Int) {q : ByteArray} (h : F_spec_l17Dec_N nf n = some q), PCall Try.prog 190 [I n] (St q) := by
 intro nf
 induction nf with
 | zero => intros; rename_i h; cases h
 | succ nf ih =>
  intro n q h
  replace h : F_spec_l17Dec_B (F_spec_l17Dec_N nf) n = some q := h
  refine PCall.mkT Try.func190 rfl (by kernel_rfl) rfl (by kernel_rfl) (e0 := envOf [(0, I n)]) (wkC rfl wkN) ?_
  refine T.seq ?_
  refine T.region ?_
  refine oN (EvN.asg (St (⟨#[]⟩ : ByteArray)) rfl) ?_
  refine TO.nil ?_
  refine T.seq ?_
  refine T.seq ?_
  refine T.region ?_
  refine oN (EvN.mv (I n) rfl) ?_
  refine oN (EvN.ilt rfl rfl) ?_
  refine TO.nil ?_
  refine T.cond rfl (fun q1 => ?_) (fun q1 => ?_)
  ·replace h := condT q1 h
   refine T.seq ?_
   refine T.region ?_
   refine oN (EvN.asg (St (⟨#[45, 57, 50, 50, 51, 51, 55, 50, 48, 51, 54, 56, 53, 52, 55, 55, 53, 56, 48, 56]⟩ : ByteArray)) rfl) ?_
   refine TO.nil ?_
   refine T.ret ?_
   obtain rfl := osi h
   repeat (first|refine retS ?_|refine retB ?_)
   exact Fin.ret (vs := [St (⟨#[45, 57, 50, 50, 51, 51, 55, 50, 48, 51, 54, 56, 53, 52, 55, 55, 53, 56, 48, 56]⟩ : ByteArray)]) (.cons (.tmp rfl) .nil) (.of_isF 9 _ rfl)
  ·replace h := condF q1 h
   refine T.skip ?_
   refine T.seq ?_
   refine T.seq ?_
   refine T.region ?_
   refine oN (EvN.mv (I n) rfl) ?_
   refine oN (EvN.ilt rfl rfl) ?_
   refine TO.nil ?_
   refine T.cond rfl (fun q2 => ?_) (fun q2 => ?_)
   ·replace h := condT q2 h
    refine T.seq ?_
    refine T.region ?_
    refine oN (EvN.mv (I n) rfl) ?_
    obtain ⟨g3, h⟩ := gdW h
    refine oN (EvN.neg rfl g3) ?_
    obtain ⟨v4, cv4, h⟩ := bindL h
    refine oN (EvN.call rfl rfl rfl (ih (0 - n) cv4) rfl) ?_
    obtain ⟨g5, h⟩ := gdD h
    refine oN (EvN.cat rfl rfl g5) ?_
    refine oN (EvN.asg (St ((⟨#[45]⟩ : ByteArray) ++ v4)) rfl) ?_
    refine TO.nil ?_
    refine T.ret ?_
    obtain rfl := osi h
    repeat (first|refine retS ?_|refine retB ?_)
    exact Fin.ret (vs := [St ((⟨#[45]⟩ : ByteArray) ++ v4)]) (.cons (.tmp rfl) .nil) (.of_isF 9 _ rfl)
   ·replace h := condF q2 h
    refine T.skip ?_
    refine T.seq ?_
    refine T.region ?_
    refine oN (EvN.asg (St (⟨#[]⟩ : ByteArray)) rfl) ?_
    refine TO.nil ?_
    obtain ⟨s6, h, ks6⟩ := bindL h
    refine T.joinF (G := Unit) (fun gh => True) (fun gh => [(3, St s6.1), (0, I s6.2)]) (fun gh => []) (fun gh hg => ?_) ?_
    ·clear h
     have h := ks6
     clear ks6
     refine T.seq ?_
     refine T.region ?_
     refine oN (EvN.mv (I s6.2) rfl) ?_
     obtain ⟨g17, h⟩ := gdW h
     refine oN (EvN.add rfl rfl g17) ?_
     obtain ⟨g18, h⟩ := gdW h
     refine oN (EvN.iconv ty3.und Try.underlying5 rfl g18) ?_
     refine oN (EvN.mkF (c := cY) ([((48 : Int) + s6.2)] : List Int) [[Y ((48 : Int) + s6.2)]] sl52 rfl rfl rfl (fun _ => rfl) (fun _ => rfl) rfl) ?_
     refine oA (EvA.b2s (l := ([((48 : Int) + s6.2)] : List Int)) Try.underlying52 Try.underlying5 Try.underlying9 (slc_eL rfl) (SrcOk.fz (l := ([((48 : Int) + s6.2)] : List Int)) rfl (fun _ => rfl))) ?_
     refine oN (EvN.mv (St s6.1) rfl) ?_
     obtain ⟨g19, h⟩ := gdD h
     refine oN (EvN.cat rfl rfl g19) ?_
     refine oN (EvN.asg (St ((strOfNums ([((48 : Int) + s6.2)] : List Int)) ++ s6.1)) rfl) ?_
     refine TO.nil ?_
     refine T.ret ?_
     obtain rfl := osi h
     repeat (first|refine retS ?_|refine retB ?_)
     exact Fin.ret (vs := [St ((strOfNums ([((48 : Int) + s6.2)] : List Int)) ++ s6.1)]) (.cons (.tmp rfl) .nil) (.of_isF 9 _ rfl)
    ·clear ks6
     refine T.block ?_
     refine T.loop (S := ByteArray × Int) (G := Unit) F_spec_l17Dec_L10 (fun s9 gh => True) (fun s9 gh => [(3, St s9.1), (0, I s9.2)]) (fun s9 gh => []) (s0 := ((⟨#[]⟩ : ByteArray), n)) () h trivial (cutW rfl (wkC rfl (wkC rfl wkN))) (fun s9 gh ws9 h hg => ?_)
     refine T.seq ?_
     refine T.seq ?_
     refine T.region ?_
     refine oN (EvN.mv (I s9.2) rfl) ?_
     refine oN (EvN.igt rfl rfl) ?_
     refine TO.nil ?_
     refine T.cond rfl (fun q11 => ?_) (fun q11 => ?_)
     ·replace h := condT q11 h
      refine T.skip ?_
      refine T.block ?_
      refine T.seq ?_
      refine T.region ?_
      refine oN (EvN.mv (I s9.2) rfl) ?_
      obtain ⟨g12, h⟩ := gdD h
      refine oN (EvN.rem rfl rfl g12) ?_
      obtain ⟨g13, h⟩ := gdW h
      refine oN (EvN.add rfl rfl g13) ?_
      obtain ⟨g14, h⟩ := gdW h
      refine oN (EvN.iconv ty3.und Try.underlying5 rfl g14) ?_
      refine oN (EvN.mkF (c := cY) ([((48 : Int) + (s9.2.tmod (10 : Int)))] : List Int) [[Y ((48 : Int) + (s9.2.tmod (10 : Int)))]] sl52 rfl rfl rfl (fun _ => rfl) (fun _ => rfl) rfl) ?_
      refine oA (EvA.b2s (l := ([((48 : Int) + (s9.2.tmod (10 : Int)))] : List Int)) Try.underlying52 Try.underlying5 Try.underlying9 (slc_eL rfl) (SrcOk.fz (l := ([((48 : Int) + (s9.2.tmod (10 : Int)))] : List Int)) rfl (fun _ => rfl))) ?_
      refine oN (EvN.mv (St s9.1) rfl) ?_
      obtain ⟨g15, h⟩ := gdD h
      refine oN (EvN.cat rfl rfl g15) ?_
      refine oN (EvN.asg (St ((strOfNums ([((48 : Int) + (s9.2.tmod (10 : Int)))] : List Int)) ++ s9.1)) rfl) ?_
      refine TO.nil ?_
      refine T.clean (H0 := []) (e0 := envOf [(3, St ((strOfNums ([((48 : Int) + (s9.2.tmod (10 : Int)))] : List Int)) ++ s9.1)), (0, I s9.2)]) rfl (wkC rfl (wkC rfl wkN)) ?_
      refine T.region ?_
      refine oN (EvN.mv (I s9.2) rfl) ?_
      obtain ⟨g16, h⟩ := gdW h
      refine oN (EvN.quo rfl rfl g12 g16) ?_
      refine oN (EvN.asg (I (s9.2.tdiv (10 : Int))) rfl) ?_
      refine TO.nil ?_
      obtain rfl := osi h
      exact ⟨(((strOfNums ([((48 : Int) + (s9.2.tmod (10 : Int)))] : List Int)) ++ s9.1), (s9.2.tdiv (10 : Int))), (), rfl, trivial, cutW rfl (wkC rfl (wkC rfl wkN))⟩
     ·replace h := condF q11 h
      refine T.exit ?_
      refine ⟨_, (osi h).symm, fun h => ?_⟩
      replace h := congrArg some h
      obtain rfl := osi h
      exact ⟨(), trivial, cutW rfl (wkC rfl (wkC rfl wkN))⟩
theorem F_spec_l17Dec_P (n : Int) {q : ByteArray} (h : F_spec_l17Dec n = some q) : PCall Try.prog 190 [I n] (St q) := by
 obtain ⟨nf, h⟩ := fixC_is h
 exact F_spec_l17Dec_PN nf n h
theorem F_spec_l1Text_P (x : ZIn) {q : ByteArray} (h : F_spec_l1Text x = some q) : PCall Try.prog 182 [.agg (ZIn.c x)] (St q) := by
 refine PCall.mkT Try.func182 rfl (by kernel_rfl) rfl (by kernel_rfl) (e0 := envOf [(0, .agg (ZIn.c x))]) (wkC rfl wkN) ?_
 refine T.seq ?_
 refine T.region ?_
 refine oN (EvN.bxF [I x.Op, I x.Loc, I x.Reg, I x.Val] rfl rfl rfl) ?_
 refine oN (EvN.asg (St (⟨#[]⟩ : ByteArray)) rfl) ?_
 refine TO.nil ?_
 refine T.seq ?_
 refine T.region ?_
 refine oN (EvN.fafp Try.underlying56 rfl (by kernel_rfl) rfl) ?_
 refine oN (EvN.loadfp (I x.Loc) ty3 rfl rfl) ?_
 obtain ⟨v1, cv1, h⟩ := bindL h
 refine oN (EvN.call rfl rfl rfl (F_spec_l1Letter_P (120 : Int) x.Loc cv1) rfl) ?_
 refine oN (EvN.asg (St v1) rfl) ?_
 refine TO.nil ?_
 refine T.seq ?_
 refine T.region ?_
 refine oN (EvN.fafp Try.underlying56 rfl (by kernel_rfl) rfl) ?_
 refine oN (EvN.loadfp (I x.Reg) ty3 rfl rfl) ?_
 obtain ⟨v2, cv2, h⟩ := bindL h
 refine oN (EvN.call rfl rfl rfl (F_spec_l1Letter_P (97 : Int) x.Reg cv2) rfl) ?_
 refine oN (EvN.asg (St v2) rfl) ?_
 refine TO.nil ?_
 refine T.seq ?_
 refine T.seq ?_
 refine T.clean (H0 := []) (e0 := envOf [(4, St v2), (3, St v1), (1, .fp (ZIn.c x) 0)]) rfl (wkC rfl (wkC rfl (wkC rfl wkN))) ?_
 refine T.region ?_
 refine oN (EvN.fafp Try.underlying56 rfl (by kernel_rfl) rfl) ?_
 refine oN (EvN.loadfp (I x.Op) ty3 rfl rfl) ?_
 refine TO.nil ?_
 refine T.block ?_
 refine T.seq ?_
 refine T.region ?_
 refine oN (EvN.ieq rfl rfl) ?_
 refine oN (EvN.asg (Bo (x.Op == (1 : Int))) rfl) ?_
 refine TO.nil ?_
 refine T.cond rfl (fun q3 => ?_) (fun q3 => ?_)
 ·replace h := condT q3 h
  refine T.seq ?_
  refine T.region ?_
  refine oN (EvN.mv (St v2) rfl) ?_
  obtain ⟨g4, h⟩ := gdD h
  refine oN (EvN.cat rfl rfl g4) ?_
  refine oN (EvN.mv (St v1) rfl) ?_
  obtain ⟨g5, h⟩ := gdD h
  refine oN (EvN.cat rfl rfl g5) ?_
  refine oN (EvN.asg (St ((v2 ++ (⟨#[61]⟩ : ByteArray)) ++ v1)) rfl) ?_
  refine TO.nil ?_
  refine T.ret ?_
  obtain rfl := osi h
  repeat (first|refine retS ?_|refine retB ?_)
  exact Fin.ret (vs := [St ((v2 ++ (⟨#[61]⟩ : ByteArray)) ++ v1)]) (.cons (.tmp rfl) .nil) (.of_isF 9 _ rfl)
 ·replace h := condF q3 h
  refine T.seq ?_
  refine T.region ?_
  refine oN (EvN.ieq rfl rfl) ?_
  refine oN (EvN.asg (Bo (x.Op == (2 : Int))) rfl) ?_
  refine TO.nil ?_
  refine T.cond rfl (fun q6 => ?_) (fun q6 => ?_)
  ·replace h := condT q6 h
   refine T.seq ?_
   refine T.clean (H0 := []) (e0 := envOf [(3, St v1), (1, .fp (ZIn.c x) 0)]) rfl (wkC rfl (wkC rfl wkN)) ?_
   refine T.region ?_
   refine oN (EvN.mv (St v1) rfl) ?_
   obtain ⟨g7, h⟩ := gdD h
   refine oN (EvN.cat rfl rfl g7) ?_
   refine oN (EvN.fafp Try.underlying56 rfl (by kernel_rfl) rfl) ?_
   refine oN (EvN.loadfp (I x.Val) ty3 rfl rfl) ?_
   obtain ⟨v8, cv8, h⟩ := bindL h
   refine oN (EvN.call rfl rfl rfl (F_spec_l17Dec_P x.Val cv8) rfl) ?_
   obtain ⟨g9, h⟩ := gdD h
   refine oN (EvN.cat rfl rfl g9) ?_
   refine oN (EvN.asg (St ((v1 ++ (⟨#[61]⟩ : ByteArray)) ++ v8)) rfl) ?_
   refine TO.nil ?_
   refine T.ret ?_
   obtain rfl := osi h
   repeat (first|refine retS ?_|refine retB ?_)
   exact Fin.ret (vs := [St ((v1 ++ (⟨#[61]⟩ : ByteArray)) ++ v8)]) (.cons (.tmp rfl) .nil) (.of_isF 9 _ rfl)
  ·replace h := condF q6 h
   refine T.seq ?_
   refine T.region ?_
   refine oN (EvN.ieq rfl rfl) ?_
   refine oN (EvN.asg (Bo (x.Op == (3 : Int))) rfl) ?_
   refine TO.nil ?_
   refine T.cond rfl (fun q10 => ?_) (fun q10 => ?_)
   ·replace h := condT q10 h
    refine T.seq ?_
    refine T.clean (H0 := []) (e0 := envOf [(4, St v2), (3, St v1)]) rfl (wkC rfl (wkC rfl wkN)) ?_
    refine T.region ?_
    refine oN (EvN.mv (St v1) rfl) ?_
    obtain ⟨g11, h⟩ := gdD h
    refine oN (EvN.cat rfl rfl g11) ?_
    refine oN (EvN.mv (St v2) rfl) ?_
    obtain ⟨g12, h⟩ := gdD h
    refine oN (EvN.cat rfl rfl g12) ?_
    refine oN (EvN.asg (St ((v1 ++ (⟨#[61]⟩ : ByteArray)) ++ v2)) rfl) ?_
    refine TO.nil ?_
    refine T.ret ?_
    obtain rfl := osi h
    repeat (first|refine retS ?_|refine retB ?_)
    exact Fin.ret (vs := [St ((v1 ++ (⟨#[61]⟩ : ByteArray)) ++ v2)]) (.cons (.tmp rfl) .nil) (.of_isF 9 _ rfl)
   ·replace h := condF q10 h
    refine T.seq ?_
    refine T.clean (H0 := []) (e0 := envOf [(12, I x.Op), (4, St v2), (3, St v1), (1, .fp (ZIn.c x) 0)]) rfl (wkC rfl (wkC rfl (wkC rfl (wkC rfl wkN)))) ?_
    refine T.region ?_
    refine oN (EvN.ieq rfl rfl) ?_
    refine oN (EvN.asg (Bo (x.Op == (5 : Int))) rfl) ?_
    refine TO.nil ?_
    refine T.cond rfl (fun q13 => ?_) (fun q13 => ?_)
    ·replace h := condT q13 h
     refine T.seq ?_
     refine T.region ?_
     refine oN (EvN.mv (St v2) rfl) ?_
     obtain ⟨g14, h⟩ := gdD h
     refine oN (EvN.cat rfl rfl g14) ?_
     refine oN (EvN.mv (St v1) rfl) ?_
     obtain ⟨g15, h⟩ := gdD h
     refine oN (EvN.cat rfl rfl g15) ?_
     obtain ⟨g16, h⟩ := gdD h
     refine oN (EvN.cat rfl rfl g16) ?_
     refine oN (EvN.fafp Try.underlying56 rfl (by kernel_rfl) rfl) ?_
     refine oN (EvN.loadfp (I x.Val) ty3 rfl rfl) ?_
     obtain ⟨v17, cv17, h⟩ := bindL h
     refine oN (EvN.call rfl rfl rfl (F_spec_l17Dec_P x.Val cv17) rfl) ?_
     obtain ⟨g18, h⟩ := gdD h
     refine oN (EvN.cat rfl rfl g18) ?_
     refine oN (EvN.asg (St ((((v2 ++ (⟨#[61]⟩ : ByteArray)) ++ v1) ++ (⟨#[58]⟩ : ByteArray)) ++ v17)) rfl) ?_
     refine TO.nil ?_
     refine T.ret ?_
     obtain rfl := osi h
     repeat (first|refine retS ?_|refine retB ?_)
     exact Fin.ret (vs := [St ((((v2 ++ (⟨#[61]⟩ : ByteArray)) ++ v1) ++ (⟨#[58]⟩ : ByteArray)) ++ v17)]) (.cons (.tmp rfl) .nil) (.of_isF 9 _ rfl)
    ·replace h := condF q13 h
     refine T.skip ?_
     refine T.seq ?_
     refine T.clean (H0 := []) (e0 := envOf []) rfl wkN ?_
     refine T.region ?_
     refine oN (EvN.asg (St (⟨#[102, 101, 110, 99, 101]⟩ : ByteArray)) rfl) ?_
     refine TO.nil ?_
     refine T.ret ?_
     obtain rfl := osi h
     repeat (first|refine retS ?_|refine retB ?_)
     exact Fin.ret (vs := [St (⟨#[102, 101, 110, 99, 101]⟩ : ByteArray)]) (.cons (.tmp rfl) .nil) (.of_isF 9 _ rfl)
theorem F_spec_l1Program_P (p : List (List ZIn)) {q : ByteArray} (h : F_spec_l1Program p = some q) : PCall Try.prog 159 [eL (cL ZIn.c) p] (St q) := by
 refine PCall.mkT Try.func159 rfl (by kernel_rfl) rfl (by kernel_rfl) (e0 := envOf [(0, eL (cL ZIn.c) p)]) (wkC rfl wkN) ?_
 refine T.seq ?_
 refine T.region ?_
 refine oN (EvN.asg (St (⟨#[]⟩ : ByteArray)) rfl) ?_
 refine TO.nil ?_
 refine T.seq ?_
 refine T.region ?_
 refine oN (EvN.asg (St (⟨#[]⟩ : ByteArray)) rfl) ?_
 refine TO.nil ?_
 obtain ⟨s1, h, ks1⟩ := bindL h
 refine T.joinF (G := Unit) (fun gh => True) (fun gh => [(3, St s1)]) (fun gh => []) (fun gh hg => ?_) ?_
 ·clear h
  have h := ks1
  clear ks1
  refine T.seq ?_
  refine T.region ?_
  refine oN (EvN.mv (St s1) rfl) ?_
  refine oN (EvN.asg (St s1) rfl) ?_
  refine TO.nil ?_
  refine T.ret ?_
  obtain rfl := osi h
  repeat (first|refine retS ?_|refine retB ?_)
  exact Fin.ret (vs := [St s1]) (.cons (.tmp rfl) .nil) (.of_isF 9 _ rfl)
 ·clear ks1
  refine T.seq ?_
  refine T.region ?_
  refine oN (EvN.asg (I (0 : Int)) rfl) ?_
  refine TO.nil ?_
  refine T.block ?_
  refine T.loop (S := Int × ByteArray) (G := Unit) (F_spec_l1Program_L5 p) (fun s4 gh => True) (fun s4 gh => [(4, I s4.1), (3, St s4.2), (0, eL (cL ZIn.c) p)]) (fun s4 gh => []) (s0 := ((0 : Int), (⟨#[]⟩ : ByteArray))) () h trivial (cutW rfl (wkC rfl (wkC rfl (wkC rfl wkN)))) (fun s4 gh ws4 h hg => ?_)
  refine T.seq ?_
  refine T.seq ?_
  refine T.region ?_
  refine oN (EvN.mv (I s4.1) rfl) ?_
  refine oN (EvN.mv (eL (cL ZIn.c) p) rfl) ?_
  refine oN (EvN.lenL sl27 rfl) ?_
  refine oN (EvN.ilt rfl rfl) ?_
  refine TO.nil ?_
  refine T.cond rfl (fun q6 => ?_) (fun q6 => ?_)
  ·replace h := condT q6 h
   refine T.skip ?_
   obtain ⟨s7, h, ks7⟩ := bindL h
   refine T.joinF (G := Unit) (fun gh => True) (fun gh => [(3, St s7), (4, I s4.1), (0, eL (cL ZIn.c) p)]) (fun gh => []) (fun gh hg => ?_) ?_
   ·clear h
    have h := ks7
    clear ks7
    refine T.region ?_
    refine oN (EvN.mv (I s4.1) rfl) ?_
    obtain ⟨g24, h⟩ := gdW h
    refine oN (EvN.add rfl rfl g24) ?_
    refine oN (EvN.asg (I (s4.1 + (1 : Int))) rfl) ?_
    refine TO.nil ?_
    obtain rfl := osi h
    exact ⟨((s4.1 + (1 : Int)), s7), (), rfl, trivial, cutW rfl (wkC rfl (wkC rfl (wkC rfl wkN)))⟩
   ·clear ks7
    refine T.block ?_
    obtain ⟨s8, h, ks8⟩ := bindL h
    refine T.joinF (G := Unit) (fun gh => True) (fun gh => [(3, St s8), (4, I s4.1), (0, eL (cL ZIn.c) p)]) (fun gh => []) (fun gh hg => ?_) ?_
    ·clear h
     have h := ks8
     clear ks8
     refine T.seq ?_
     refine T.region ?_
     refine oN (EvN.asg (I (0 : Int)) rfl) ?_
     refine TO.nil ?_
     refine T.block ?_
     refine T.loop (S := Int × ByteArray) (G := Unit) (F_spec_l1Program_L14 p s4) (fun s13 gh => True) (fun s13 gh => [(5, I s13.1), (3, St s13.2), (4, I s4.1), (0, eL (cL ZIn.c) p)]) (fun s13 gh => []) (s0 := ((0 : Int), s8)) () h trivial (cutW rfl (wkC rfl (wkC rfl (wkC rfl (wkC rfl wkN))))) (fun s13 gh ws13 h hg => ?_)
     refine T.seq ?_
     refine T.seq ?_
     refine T.region ?_
     refine oN (EvN.mv (I s13.1) rfl) ?_
     refine oN (EvN.mv (eL (cL ZIn.c) p) rfl) ?_
     refine oN (EvN.mv (I s4.1) rfl) ?_
     obtain ⟨g15, h⟩ := gdD h
     refine oN (EvN.ixL sl27 rfl rfl g15 (fun _ => rfl)) ?_
     refine oN (EvN.loadfp (eL ZIn.c (p.getD s4.1.toNat default)) ty57 rfl rfl) ?_
     refine oN (EvN.lenL sl57 rfl) ?_
     refine oN (EvN.ilt rfl rfl) ?_
     refine TO.nil ?_
     refine T.cond rfl (fun q16 => ?_) (fun q16 => ?_)
     ·replace h := condT q16 h
      refine T.skip ?_
      refine T.seq ?_
      refine T.block ?_
      obtain ⟨s17, h, ks17⟩ := bindL h
      refine T.joinF (G := Unit) (fun gh => True) (fun gh => [(3, St s17), (5, I s13.1), (4, I s4.1), (0, eL (cL ZIn.c) p)]) (fun gh => []) (fun gh hg => ?_) ?_
      ·clear h
       have h := ks17
       clear ks17
       refine T.region ?_
       refine oN (EvN.mv (St s17) rfl) ?_
       refine oN (EvN.mv (eL (cL ZIn.c) p) rfl) ?_
       refine oN (EvN.mv (I s4.1) rfl) ?_
       refine oN (EvN.ixL sl27 rfl rfl g15 (fun _ => rfl)) ?_
       refine oN (EvN.loadfp (eL ZIn.c (p.getD s4.1.toNat default)) ty57 rfl rfl) ?_
       refine oN (EvN.mv (I s13.1) rfl) ?_
       obtain ⟨g20, h⟩ := gdD h
       refine oN (EvN.ixL sl57 rfl rfl g20 (fun _ => rfl)) ?_
       refine oN (EvN.loadfp (.agg (ZIn.c ((p.getD s4.1.toNat default).getD s13.1.toNat default))) ty56 rfl rfl) ?_
       obtain ⟨v21, cv21, h⟩ := bindL h
       refine oN (EvN.call rfl rfl rfl (F_spec_l1Text_P ((p.getD s4.1.toNat default).getD s13.1.toNat default) cv21) rfl) ?_
       obtain ⟨g22, h⟩ := gdD h
       refine oN (EvN.cat rfl rfl g22) ?_
       refine oN (EvN.asg (St (s17 ++ v21)) rfl) ?_
       refine TO.nil ?_
       refine T.clean (H0 := []) (e0 := envOf [(3, St (s17 ++ v21)), (5, I s13.1), (4, I s4.1), (0, eL (cL ZIn.c) p)]) rfl (wkC rfl (wkC rfl (wkC rfl (wkC rfl wkN)))) ?_
       refine T.region ?_
       refine oN (EvN.mv (I s13.1) rfl) ?_
       obtain ⟨g23, h⟩ := gdW h
       refine oN (EvN.add rfl rfl g23) ?_
       refine oN (EvN.asg (I (s13.1 + (1 : Int))) rfl) ?_
       refine TO.nil ?_
       obtain rfl := osi h
       exact ⟨((s13.1 + (1 : Int)), (s17 ++ v21)), (), rfl, trivial, cutW rfl (wkC rfl (wkC rfl (wkC rfl (wkC rfl wkN))))⟩
      ·clear ks17
       refine T.seq ?_
       refine T.clean (H0 := []) (e0 := envOf [(5, I s13.1), (3, St s13.2), (4, I s4.1), (0, eL (cL ZIn.c) p)]) rfl (wkC rfl (wkC rfl (wkC rfl (wkC rfl wkN)))) ?_
       refine T.region ?_
       refine oN (EvN.mv (I s13.1) rfl) ?_
       refine oN (EvN.igt rfl rfl) ?_
       refine TO.nil ?_
       refine T.cond rfl (fun q18 => ?_) (fun q18 => ?_)
       ·replace h := condT q18 h
        refine T.region ?_
        refine oN (EvN.mv (St s13.2) rfl) ?_
        obtain ⟨g19, h⟩ := gdD h
        refine oN (EvN.cat rfl rfl g19) ?_
        refine oN (EvN.asg (St (s13.2 ++ (⟨#[59]⟩ : ByteArray))) rfl) ?_
        refine TO.nil ?_
        obtain rfl := osi h
        exact ⟨(), trivial, cutW rfl (wkC rfl (wkC rfl (wkC rfl (wkC rfl wkN))))⟩
       ·replace h := condF q18 h
        refine T.skip ?_
        obtain rfl := osi h
        exact ⟨(), trivial, cutW rfl (wkC rfl (wkC rfl (wkC rfl (wkC rfl wkN))))⟩
     ·replace h := condF q16 h
      refine T.exit ?_
      refine ⟨_, (osi h).symm, fun h => ?_⟩
      replace h := congrArg some h
      obtain rfl := osi h
      exact ⟨(), trivial, cutW rfl (wkC rfl (wkC rfl (wkC rfl wkN)))⟩
    ·clear ks8
     refine T.seq ?_
     refine T.region ?_
     refine oN (EvN.mv (I s4.1) rfl) ?_
     refine oN (EvN.igt rfl rfl) ?_
     refine TO.nil ?_
     refine T.cond rfl (fun q9 => ?_) (fun q9 => ?_)
     ·replace h := condT q9 h
      refine T.clean (H0 := []) (e0 := envOf [(4, I s4.1), (3, St s4.2), (0, eL (cL ZIn.c) p)]) rfl (wkC rfl (wkC rfl (wkC rfl wkN))) ?_
      refine T.region ?_
      refine oN (EvN.mv (St s4.2) rfl) ?_
      obtain ⟨g10, h⟩ := gdD h
      refine oN (EvN.cat rfl rfl g10) ?_
      refine oN (EvN.asg (St (s4.2 ++ (⟨#[124]⟩ : ByteArray))) rfl) ?_
      refine TO.nil ?_
      obtain rfl := osi h
      exact ⟨(), trivial, cutW rfl (wkC rfl (wkC rfl (wkC rfl wkN)))⟩
     ·replace h := condF q9 h
      refine T.skip ?_
      obtain rfl := osi h
      exact ⟨(), trivial, cutW rfl (wkC rfl (wkC rfl (wkC rfl wkN)))⟩
  ·replace h := condF q6 h
   refine T.exit ?_
   refine ⟨_, (osi h).symm, fun h => ?_⟩
   replace h := congrArg some h
   obtain rfl := osi h
   exact ⟨(), trivial, cutW rfl (wkC rfl wkN)⟩
theorem F_spec_ParseProgram_P (text : ByteArray) {q : (List (List ZIn)) × Bool} (h : F_spec_ParseProgram text = some q) : PCall Try.prog 127 [St text] (.tup [eL (cL ZIn.c) q.1, Bo q.2]) := by
 refine PCall.mkT Try.func127 rfl (by kernel_rfl) rfl (by kernel_rfl) (e0 := envOf [(0, St text)]) (wkC rfl wkN) ?_
 refine T.seq ?_
 refine T.region ?_
 refine oN (EvN.asg (.nil) rfl) ?_
 refine oN (EvN.asg (Bo false) rfl) ?_
 refine TO.nil ?_
 refine T.seq ?_
 refine T.region ?_
 refine oA (EvA.mkO (c := (cL ZIn.c)) ([] : List (List ZIn)) [] sl27 rfl rfl rfl (fun _ => rfl) rfl rfl) ?_
 refine oN (EvN.asg (hS false 0 0 1 (([] : List (List ZIn)).length)) rfl) ?_
 refine TO.nil ?_
 refine T.seq ?_
 refine T.region ?_
 refine oN (EvN.mv (St text) rfl) ?_
 obtain ⟨v1, cv1, h⟩ := bindL h
 refine oN (EvN.call rfl rfl rfl (F_spec_l17Cut_P text (124 : Int) cv1) rfl) ?_
 refine oN (EvN.asg (eL cS v1) rfl) ?_
 refine TO.nil ?_
 obtain ⟨s2, h, ks2⟩ := bindL h
 refine T.joinF (G := Nat) (fun gh => True) (fun gh => [(4, hS false 0 gh 1 s2.length), (0, St text)]) (fun gh => [bE false gh 1 57 (s2.map (cL ZIn.c))]) (fun u35 hg => ?_) ?_
 ·clear h
  have h := ks2
  clear ks2
  refine T.seq ?_
  refine T.seq ?_
  refine T.region ?_
  refine oN (EvN.mv (hS false 0 u35 1 s2.length) rfl) ?_
  obtain ⟨v36, cv36, h⟩ := bindL h
  refine oA (EvA.callT rfl rfl (F_spec_ProgramValid_P s2 cv36) (.cons (Fz.own (g := false) (ver := u35) (l := s2) rfl rfl rfl nofun (fun _ => rfl)) .nil) rfl) ?_
  refine oN (EvN.not rfl) ?_
  refine oN (EvN.mv (Bo (!v36)) rfl) ?_
  obtain ⟨s37, h, ks37⟩ := bindL h
  refine TO.joinF (G := Unit) 5 (fun _ => True) (fun _ => [(66, Bo s37), (4, hS false 0 u35 1 s2.length)]) (fun _ => [bE false u35 1 57 (s2.map (cL ZIn.c))]) ?_ (fun js37 => ?_)
  rotate_left
  ·clear ks37
   rcases bifL h with ⟨q38, h⟩ | ⟨q38, h⟩
   ·refine gS rfl q38 ?_
    refine gS rfl q38 ?_
    refine gS rfl q38 ?_
    refine gS rfl q38 ?_
    refine oN (EvN.pickT rfl q38 (Bo true) rfl) ?_
    obtain rfl := osi h
    exact js37 _ _ ⟨(), trivial, cutW rfl (wkC rfl (wkC rfl wkN))⟩
   ·refine gN rfl q38 (EvN.mv (hS false 0 u35 1 s2.length) rfl) ?_
    obtain ⟨v39, cv39, h⟩ := bindL h
    refine gA rfl q38 (EvA.callT rfl rfl (F_spec_l1Program_P s2 cv39) (.cons (Fz.own (g := false) (ver := u35) (l := s2) rfl rfl rfl nofun (fun _ => rfl)) .nil) rfl) ?_
    refine gN rfl q38 (EvN.mv (St text) rfl) ?_
    refine gN rfl q38 (EvN.sne rfl rfl) ?_
    refine oN (EvN.pickF rfl q38 (Bo (!decide (v39 = text))) rfl) ?_
    obtain rfl := osi h
    exact js37 _ _ ⟨(), trivial, cutW rfl (wkC rfl (wkC rfl wkN))⟩
  ·intro _ _
   replace h := ks37
   clear ks37
   refine TO.nil ?_
   refine T.cond rfl (fun q40 => ?_) (fun q40 => ?_)
   ·replace h := condT q40 h
    refine T.seq ?_
    refine T.region ?_
    refine oN (EvN.mkF (c := (cL ZIn.c)) ([] : List (List ZIn)) [] sl27 rfl rfl rfl (fun _ => rfl) (fun _ => rfl) rfl) ?_
    refine oN (EvN.asg (eL (cL ZIn.c) ([] : List (List ZIn))) rfl) ?_
    refine oN (EvN.asg (Bo false) rfl) ?_
    refine TO.nil ?_
    refine T.ret ?_
    obtain rfl := osi h
    repeat (first|refine retS ?_|refine retB ?_)
    exact Fin.ret (vs := [eL (cL ZIn.c) ([] : List (List ZIn)), Bo false]) (.cons (.tmp rfl) (.cons (.tmp rfl) .nil)) (.tupL (.cons (.of_isF 9 _ rfl) (.cons (.of_isF 9 _ rfl) .nil)))
   ·replace h := condF q40 h
    refine T.skip ?_
    refine T.seq ?_
    refine T.region ?_
    refine oN (EvN.mv (hS false 0 u35 1 s2.length) rfl) ?_
    refine oN (EvN.asg (hS false 0 u35 1 s2.length) rfl) ?_
    refine oN (EvN.asg (Bo true) rfl) ?_
    refine TO.nil ?_
    refine T.ret ?_
    obtain rfl := osi h
    repeat (first|refine retS ?_|refine retB ?_)
    exact Fin.ret (vs := [hS false 0 u35 1 s2.length, Bo true]) (.cons (.tmp rfl) (.cons (.tmp rfl) .nil)) (.tupL (.cons (Fz.own (g := false) (ver := u35) (l := s2) rfl rfl rfl nofun (fun _ => rfl)) (.cons (.of_isF 9 _ rfl) .nil)))
 ·clear ks2
  refine T.seq ?_
  refine T.region ?_
  refine oN (EvN.asg (I (0 : Int)) rfl) ?_
  refine TO.nil ?_
  refine T.block ?_
  refine T.loop (S := (List (List ZIn)) × Int) (G := Nat) (F_spec_ParseProgram_L7 v1) (fun s6 gh => True) (fun s6 gh => [(6, I s6.2), (5, eL cS v1), (4, hS false 0 gh 1 s6.1.length), (0, St text)]) (fun s6 gh => [bE false gh 1 57 (s6.1.map (cL ZIn.c))]) (s0 := (([] : List (List ZIn)), (0 : Int))) 0 h trivial (cutW rfl (wkC rfl (wkC rfl (wkC rfl (wkC rfl wkN))))) (fun s6 u8 ws6 h hg => ?_)
  refine T.seq ?_
  refine T.seq ?_
  refine T.region ?_
  refine oN (EvN.mv (I s6.2) rfl) ?_
  refine oN (EvN.mv (eL cS v1) rfl) ?_
  refine oN (EvN.lenL sl140 rfl) ?_
  refine oN (EvN.ilt rfl rfl) ?_
  refine oN (EvN.mv (Bo (decide (s6.2 < (v1.length : Int)))) rfl) ?_
  obtain ⟨s9, h, ks9⟩ := bindL h
  refine TO.joinF (G := Unit) 3 (fun _ => True) (fun _ => [(20, Bo s9), (6, I s6.2), (5, eL cS v1), (4, hS false 0 u8 1 s6.1.length), (0, St text)]) (fun _ => [bE false u8 1 57 (s6.1.map (cL ZIn.c))]) ?_ (fun js9 => ?_)
  rotate_left
  ·clear ks9
   rcases bifL h with ⟨q10, h⟩ | ⟨q10, h⟩
   ·refine gN rfl q10 (EvN.mv (I s6.2) rfl) ?_
    refine gN rfl q10 (EvN.ile rfl rfl) ?_
    refine oN (EvN.pickT rfl q10 (Bo (decide (s6.2 ≤ (3 : Int)))) rfl) ?_
    obtain rfl := osi h
    exact js9 _ _ ⟨(), trivial, cutW rfl (wkC rfl (wkC rfl (wkC rfl (wkC rfl (wkC rfl wkN)))))⟩
   ·refine gS rfl q10 ?_
    refine gS rfl q10 ?_
    refine oN (EvN.pickF rfl q10 (Bo false) rfl) ?_
    obtain rfl := osi h
    exact js9 _ _ ⟨(), trivial, cutW rfl (wkC rfl (wkC rfl (wkC rfl (wkC rfl (wkC rfl wkN)))))⟩
  ·intro _ _
   replace h := ks9
   clear ks9
   refine TO.nil ?_
   refine T.cond rfl (fun q11 => ?_) (fun q11 => ?_)
   ·replace h := condT q11 h
    refine T.skip ?_
    obtain ⟨s12, h, ks12⟩ := bindL h
    refine T.joinF (G := Nat) (fun gh => True) (fun gh => [(4, hS false 0 gh 1 s12.length), (6, I s6.2), (5, eL cS v1), (0, St text)]) (fun gh => [bE false gh 1 57 (s12.map (cL ZIn.c))]) (fun u33 hg => ?_) ?_
    ·clear h
     have h := ks12
     clear ks12
     refine T.region ?_
     refine oN (EvN.mv (I s6.2) rfl) ?_
     obtain ⟨g34, h⟩ := gdW h
     refine oN (EvN.add rfl rfl g34) ?_
     refine oN (EvN.asg (I (s6.2 + (1 : Int))) rfl) ?_
     refine TO.nil ?_
     obtain rfl := osi h
     exact ⟨(s12, (s6.2 + (1 : Int))), u33, rfl, trivial, cutW rfl (wkC rfl (wkC rfl (wkC rfl (wkC rfl wkN))))⟩
    ·clear ks12
     refine T.block ?_
     refine T.seq ?_
     refine T.region ?_
     refine oA (EvA.mkO (c := ZIn.c) ([] : List ZIn) [] sl57 rfl rfl rfl (fun _ => rfl) rfl rfl) ?_
     refine oN (EvN.asg (hS false 1 0 4 (([] : List ZIn).length)) rfl) ?_
     refine TO.nil ?_
     refine T.seq ?_
     refine T.region ?_
     refine oN (EvN.mv (eL cS v1) rfl) ?_
     refine oN (EvN.mv (I s6.2) rfl) ?_
     obtain ⟨g13, h⟩ := gdD h
     refine oN (EvN.ixL sl140 rfl rfl g13 (fun _ => rfl)) ?_
     refine oN (EvN.loadfp (St (v1.getD s6.2.toNat default)) ty9 rfl rfl) ?_
     obtain ⟨v14, cv14, h⟩ := bindL h
     refine oN (EvN.call rfl rfl rfl (F_spec_l17Cut_P (v1.getD s6.2.toNat default) (59 : Int) cv14) rfl) ?_
     refine oN (EvN.asg (eL cS v14) rfl) ?_
     refine TO.nil ?_
     obtain ⟨s15, h, ks15⟩ := bindL h
     refine T.joinF (G := Nat) (fun gh => True) (fun gh => [(7, hS false 1 gh 4 s15.length), (6, I s6.2), (5, eL cS v1), (4, hS false 0 u8 1 s6.1.length), (0, St text)]) (fun gh => [bE false u8 1 57 (s6.1.map (cL ZIn.c)), bE false gh 4 56 (s15.map ZIn.c)]) (fun u31 hg => ?_) ?_
     ·clear h
      have h := ks15
      clear ks15
      refine T.region ?_
      refine oN (EvN.mv (hS false 0 u8 1 s6.1.length) rfl) ?_
      refine oN (EvN.mv (hS false 1 u31 4 s15.length) rfl) ?_
      refine oA (EvA.mkR [[hS false 1 u31 4 s15.length]] sl27 rfl rfl rfl rfl) ?_
      obtain ⟨g32, h⟩ := gdL h
      refine oA (EvA.appR (g := false) (rows := s6.1.map (cL ZIn.c)) (rows' := s6.1.map (cL ZIn.c) ++ [[hS false 1 u31 4 s15.length]]) (n' := s6.1.length + 1) sl27 (by kernel_rfl) rfl rfl (by simp) nofun (SrcOk.raw (rows := [[hS false 1 u31 4 s15.length]]) rfl rfl rfl) g32 rfl rfl) ?_
      refine oN (EvN.asg (hS false 0 (u8 + 1) 1 (s6.1.length + 1)) rfl) ?_
      refine TO.nil ?_
      obtain rfl := osi h
      exact ⟨u8 + 1, trivial, cutS rfl (.cons (.snoc (fun _ => rfl) (.cons (.cons (.fz (Fz.own (g := false) (ver := u31) (l := s15) rfl rfl rfl nofun ZIn.isF)) .nil) .nil)) .nil) (stl_cons (.eqv (congrArg (hS false 0 (u8 + 1) 1) (by simp : (s6.1.length + 1) = (s6.1 ++ [s15]).length)) (.hS (g := false) (b := 0) (ver := u8 + 1) (s := 1) (n := (s6.1 ++ [s15]).length) rfl)) (stl_cons (.fz (.of_isF 9 _ rfl)) (stl_cons (.fz (.of_isF 9 _ rfl)) (stl_cons (.fz (.of_isF 9 _ rfl)) stl_nil))))⟩
     ·clear ks15
      refine T.seq ?_
      refine T.clean (H0 := [bE false u8 1 57 (s6.1.map (cL ZIn.c)), bE false 0 4 56 (([] : List ZIn).map ZIn.c)]) (e0 := envOf [(8, eL cS v14), (7, hS false 1 0 4 (([] : List ZIn).length)), (6, I s6.2), (5, eL cS v1), (4, hS false 0 u8 1 s6.1.length), (0, St text)]) rfl (wkC rfl (wkC rfl (wkC rfl (wkC rfl (wkC rfl (wkC rfl wkN)))))) ?_
      refine T.region ?_
      refine oN (EvN.asg (I (0 : Int)) rfl) ?_
      refine TO.nil ?_
      refine T.block ?_
      refine T.loop (S := (List ZIn) × Int) (G := Nat) (F_spec_ParseProgram_L20 v1 s6 v14) (fun s19 gh => True) (fun s19 gh => [(9, I s19.2), (8, eL cS v14), (7, hS false 1 gh 4 s19.1.length), (6, I s6.2), (5, eL cS v1), (4, hS false 0 u8 1 s6.1.length), (0, St text)]) (fun s19 gh => [bE false u8 1 57 (s6.1.map (cL ZIn.c)), bE false gh 4 56 (s19.1.map ZIn.c)]) (s0 := (([] : List ZIn), (0 : Int))) 0 h trivial (cutW rfl (wkC rfl (wkC rfl (wkC rfl (wkC rfl (wkC rfl (wkC rfl (wkC rfl wkN)))))))) (fun s19 u21 ws19 h hg => ?_)
      refine T.seq ?_
      refine T.seq ?_
      refine T.region ?_
      refine oN (EvN.mv (I s19.2) rfl) ?_
      refine oN (EvN.mv (eL cS v14) rfl) ?_
      refine oN (EvN.lenL sl140 rfl) ?_
      refine oN (EvN.ilt rfl rfl) ?_
      refine oN (EvN.mv (Bo (decide (s19.2 < (v14.length : Int)))) rfl) ?_
      obtain ⟨s22, h, ks22⟩ := bindL h
      refine TO.joinF (G := Unit) 3 (fun _ => True) (fun _ => [(36, Bo s22), (9, I s19.2), (8, eL cS v14), (7, hS false 1 u21 4 s19.1.length), (6, I s6.2), (5, eL cS v1), (4, hS false 0 u8 1 s6.1.length), (0, St text)]) (fun _ => [bE false u8 1 57 (s6.1.map (cL ZIn.c)), bE false u21 4 56 (s19.1.map ZIn.c)]) ?_ (fun js22 => ?_)
      rotate_left
      ·clear ks22
       rcases bifL h with ⟨q23, h⟩ | ⟨q23, h⟩
       ·refine gN rfl q23 (EvN.mv (I s19.2) rfl) ?_
        refine gN rfl q23 (EvN.ile rfl rfl) ?_
        refine oN (EvN.pickT rfl q23 (Bo (decide (s19.2 ≤ (7 : Int)))) rfl) ?_
        obtain rfl := osi h
        exact js22 _ _ ⟨(), trivial, cutW rfl (wkC rfl (wkC rfl (wkC rfl (wkC rfl (wkC rfl (wkC rfl (wkC rfl (wkC rfl wkN))))))))⟩
       ·refine gS rfl q23 ?_
        refine gS rfl q23 ?_
        refine oN (EvN.pickF rfl q23 (Bo false) rfl) ?_
        obtain rfl := osi h
        exact js22 _ _ ⟨(), trivial, cutW rfl (wkC rfl (wkC rfl (wkC rfl (wkC rfl (wkC rfl (wkC rfl (wkC rfl (wkC rfl wkN))))))))⟩
      ·intro _ _
       replace h := ks22
       clear ks22
       refine oN (EvN.mv (Bo s22) rfl) ?_
       obtain ⟨s24, h, ks24⟩ := bindL h
       refine TO.joinF (G := Unit) 6 (fun _ => True) (fun _ => [(43, Bo s24), (9, I s19.2), (8, eL cS v14), (7, hS false 1 u21 4 s19.1.length), (6, I s6.2), (5, eL cS v1), (4, hS false 0 u8 1 s6.1.length), (0, St text)]) (fun _ => [bE false u8 1 57 (s6.1.map (cL ZIn.c)), bE false u21 4 56 (s19.1.map ZIn.c)]) ?_ (fun js24 => ?_)
       rotate_left
       ·clear ks24
        rcases bifL h with ⟨q25, h⟩ | ⟨q25, h⟩
        ·refine gN rfl q25 (EvN.mv (eL cS v1) rfl) ?_
         refine gN rfl q25 (EvN.mv (I s6.2) rfl) ?_
         refine gN rfl q25 (EvN.ixL sl140 rfl rfl g13 (fun _ => rfl)) ?_
         refine gN rfl q25 (EvN.loadfp (St (v1.getD s6.2.toNat default)) ty9 rfl rfl) ?_
         refine gN rfl q25 (EvN.sne rfl rfl) ?_
         refine oN (EvN.pickT rfl q25 (Bo (!decide ((v1.getD s6.2.toNat default) = (⟨#[]⟩ : ByteArray)))) rfl) ?_
         obtain rfl := osi h
         exact js24 _ _ ⟨(), trivial, cutW rfl (wkC rfl (wkC rfl (wkC rfl (wkC rfl (wkC rfl (wkC rfl (wkC rfl (wkC rfl wkN))))))))⟩
        ·refine gS rfl q25 ?_
         refine gS rfl q25 ?_
         refine gS rfl q25 ?_
         refine gS rfl q25 ?_
         refine gS rfl q25 ?_
         refine oN (EvN.pickF rfl q25 (Bo false) rfl) ?_
         obtain rfl := osi h
         exact js24 _ _ ⟨(), trivial, cutW rfl (wkC rfl (wkC rfl (wkC rfl (wkC rfl (wkC rfl (wkC rfl (wkC rfl (wkC rfl wkN))))))))⟩
       ·intro _ _
        replace h := ks24
        clear ks24
        refine TO.nil ?_
        refine T.cond rfl (fun q26 => ?_) (fun q26 => ?_)
        ·replace h := condT q26 h
         refine T.skip ?_
         refine T.seq ?_
         refine T.block ?_
         refine T.region ?_
         refine oN (EvN.mv (hS false 1 u21 4 s19.1.length) rfl) ?_
         refine oN (EvN.mv (eL cS v14) rfl) ?_
         refine oN (EvN.mv (I s19.2) rfl) ?_
         obtain ⟨g27, h⟩ := gdD h
         refine oN (EvN.ixL sl140 rfl rfl g27 (fun _ => rfl)) ?_
         refine oN (EvN.loadfp (St (v14.getD s19.2.toNat default)) ty9 rfl rfl) ?_
         obtain ⟨v28, cv28, h⟩ := bindL h
         refine oN (EvN.call rfl rfl rfl (F_spec_l1Parse_P (v14.getD s19.2.toNat default) cv28) rfl) ?_
         refine oN (EvN.mkF (c := ZIn.c) ([v28] : List ZIn) [[I v28.Op, I v28.Loc, I v28.Reg, I v28.Val]] sl57 rfl rfl rfl (fun _ => rfl) ZIn.isF rfl) ?_
         obtain ⟨g29, h⟩ := gdL h
         refine oA (EvA.app1 (g := false) (l := s19.1) v28 sl57 (by kernel_rfl) rfl rfl rfl nofun (SrcOk.fz (l := ([v28] : List ZIn)) rfl (fun _ => rfl)) g29) ?_
         refine oN (EvN.asg (hS false 1 (u21 + 1) 4 ((s19.1 ++ [v28]).length)) rfl) ?_
         refine TO.nil ?_
         refine T.clean (H0 := [bE false u8 1 57 (s6.1.map (cL ZIn.c)), bE false (u21 + 1) 4 56 ((s19.1 ++ [v28]).map ZIn.c)]) (e0 := envOf [(7, hS false 1 (u21 + 1) 4 ((s19.1 ++ [v28]).length)), (9, I s19.2), (8, eL cS v14), (6, I s6.2), (5, eL cS v1), (4, hS false 0 u8 1 s6.1.length), (0, St text)]) rfl (wkC rfl (wkC rfl (wkC rfl (wkC rfl (wkC rfl (wkC rfl (wkC rfl wkN))))))) ?_
         refine T.region ?_
         refine oN (EvN.mv (I s19.2) rfl) ?_
         obtain ⟨g30, h⟩ := gdW h
         refine oN (EvN.add rfl rfl g30) ?_
         refine oN (EvN.asg (I (s19.2 + (1 : Int))) rfl) ?_
         refine TO.nil ?_
         obtain rfl := osi h
         exact ⟨((s19.1 ++ [v28]), (s19.2 + (1 : Int))), u21 + 1, rfl, trivial, cutW rfl (wkC rfl (wkC rfl (wkC rfl (wkC rfl (wkC rfl (wkC rfl (wkC rfl wkN)))))))⟩
        ·replace h := condF q26 h
         refine T.exit ?_
         refine ⟨_, (osi h).symm, fun h => ?_⟩
         replace h := congrArg some h
         obtain rfl := osi h
         exact ⟨u21, trivial, cutW rfl (wkC rfl (wkC rfl (wkC rfl (wkC rfl (wkC rfl wkN)))))⟩
   ·replace h := condF q11 h
    refine T.exit ?_
    refine ⟨_, (osi h).symm, fun h => ?_⟩
    replace h := congrArg some h
    obtain rfl := osi h
    exact ⟨u8, trivial, cutW rfl (wkC rfl (wkC rfl wkN))⟩
theorem F_spec_l1Instr_P (r_ : Xspec_l17Rd) (ver0 : Nat) {q : Xspec_l17Rd × ZIn} (h : F_spec_l1Instr r_ = some q) : ACall Try.prog 129 [.hp 0 ver0 2 0 0] [some ⟨ver0, 2, 139, [[eL cY r_.b, I r_.p]]⟩] (.agg (ZIn.c q.2)) [some ⟨ver0, 2, 139, [[eL cY q.1.b, I q.1.p]]⟩] := by
 refine ACall.mkT Try.func129 rfl (by kernel_rfl) rfl (by kernel_rfl) (e0 := envOf [(0, .hp 0 ver0 2 0 0)]) (wkC rfl wkN) ?_
 refine T.seq ?_
 refine T.region ?_
 refine oA (EvA.al zs56 rfl rfl) ?_
 refine TO.nil ?_
 refine T.seq ?_
 refine T.region ?_
 refine oN (EvN.mv (.hp 0 ver0 2 0 0) rfl) ?_
 obtain ⟨v1, cv1, h⟩ := bindL h
 refine oA (EvA.call rfl rfl rfl ((F_spec_l17Rd_pick_P (⟨r_.b, r_.p⟩ : Xspec_l17Rd) (2 : Int) ver0 cv1).one 0 rfl (.cons (.hp rfl) (.cons (.pF rfl) .nil)) (rowsF_row rfl) (rowsF_row rfl) rfl)) ?_
 refine oN (EvN.asg (I v1.2) rfl) ?_
 refine TO.nil ?_
 refine T.seq ?_
 refine T.seq ?_
 refine T.region ?_
 refine oN (EvN.mv (.hp 0 ver0 2 0 0) rfl) ?_
 obtain ⟨v2, cv2, h⟩ := bindL h
 refine oA (EvA.call rfl rfl rfl ((F_spec_l17Rd_pick_P (⟨v1.1.b, v1.1.p⟩ : Xspec_l17Rd) (7 : Int) ver0 cv2).one 0 rfl (.cons (.hp rfl) (.cons (.pF rfl) .nil)) (rowsF_row rfl) (rowsF_row rfl) rfl)) ?_
 refine TO.nil ?_
 refine T.block ?_
 refine T.seq ?_
 refine T.region ?_
 refine oN (EvN.ieq rfl rfl) ?_
 refine oN (EvN.asg (Bo (v2.2 == (0 : Int))) rfl) ?_
 refine TO.nil ?_
 refine T.cond rfl (fun q3 => ?_) (fun q3 => ?_)
 ·replace h := condT q3 h
  refine T.seq ?_
  refine T.clean (H0 := [some ⟨ver0, 2, 139, [[eL cY v2.1.b, I v2.1.p]]⟩, some ⟨0, 4, 56, [[I (0 : Int), I (0 : Int), I (0 : Int), I (0 : Int)]]⟩]) (e0 := envOf [(2, .hp 1 0 4 0 0)]) rfl (wkC rfl wkN) ?_
  refine T.region ?_
  refine oN (EvN.build [I (4 : Int), I (0 : Int), I (0 : Int), I (0 : Int)] Try.underlying56 zs56 fs56 rfl rfl) ?_
  refine oV (EvA.st (cs := [I (4 : Int), I (0 : Int), I (0 : Int), I (0 : Int)]) ⟨0, 4, 56, [[I (4 : Int), I (0 : Int), I (0 : Int), I (0 : Int)]]⟩ ty56 rfl rfl rfl rfl rfl rfl rfl rfl rfl) ?_
  refine TO.nil ?_
  refine T.ret ?_
  obtain rfl := osi h
  repeat (first|refine retS ?_|refine retB ?_)
  exact ⟨envOf [(2, .fp (ZIn.c (⟨(4 : Int), (0 : Int), (0 : Int), (0 : Int)⟩ : ZIn)) 0)], [some ⟨ver0, 2, 139, [[eL cY ((⟨v2.1.b, v2.1.p⟩ : Xspec_l17Rd).b), I ((⟨v2.1.b, v2.1.p⟩ : Xspec_l17Rd).p)]]⟩], cutS rfl (.cons (.row (.cons (.fz (.of_isF 9 _ rfl)) (.cons (.fz (.of_isF 9 _ rfl)) .nil))) .nil) (stl_cons (.fz (Fz.fpL (ver := 0) (s := 4) (ty := 56) (rows := [[I (4 : Int), I (0 : Int), I (0 : Int), I (0 : Int)]]) rfl rfl rfl (.cons (.of_isF 9 _ rfl) (.cons (.of_isF 9 _ rfl) (.cons (.of_isF 9 _ rfl) (.cons (.of_isF 9 _ rfl) .nil)))))) stl_nil), Fin.ret (vs := [.agg (ZIn.c (⟨(4 : Int), (0 : Int), (0 : Int), (0 : Int)⟩ : ZIn))]) (.cons (.cellF (.agg (ZIn.c (⟨(4 : Int), (0 : Int), (0 : Int), (0 : Int)⟩ : ZIn))) ty56 rfl rfl) .nil) ⟨rfl, rfl⟩⟩
 ·replace h := condF q3 h
  refine T.seq ?_
  refine T.region ?_
  refine oN (EvN.ieq rfl rfl) ?_
  refine oN (EvN.asg (Bo (v2.2 == (1 : Int))) rfl) ?_
  refine TO.nil ?_
  refine T.cond rfl (fun q4 => ?_) (fun q4 => ?_)
  ·replace h := condT q4 h
   refine T.seq ?_
   refine T.clean (H0 := [some ⟨ver0, 2, 139, [[eL cY v2.1.b, I v2.1.p]]⟩, some ⟨0, 4, 56, [[I (0 : Int), I (0 : Int), I (0 : Int), I (0 : Int)]]⟩]) (e0 := envOf [(3, I v1.2), (2, .hp 1 0 4 0 0), (0, .hp 0 ver0 2 0 0)]) rfl (wkC rfl (wkC rfl (wkC rfl wkN))) ?_
   refine T.region ?_
   refine oN (EvN.mv (I v1.2) rfl) ?_
   refine oN (EvN.mv (.hp 0 ver0 2 0 0) rfl) ?_
   obtain ⟨v5, cv5, h⟩ := bindL h
   refine oA (EvA.call rfl rfl rfl ((F_spec_l17Rd_pick_P (⟨v2.1.b, v2.1.p⟩ : Xspec_l17Rd) (2 : Int) ver0 cv5).one 0 rfl (.cons (.hp rfl) (.cons (.pF rfl) .nil)) (rowsF_row rfl) (rowsF_row rfl) rfl)) ?_
   refine oN (EvN.build [I (3 : Int), I v1.2, I v5.2, I (0 : Int)] Try.underlying56 zs56 fs56 rfl rfl) ?_
   refine oV (EvA.st (cs := [I (3 : Int), I v1.2, I v5.2, I (0 : Int)]) ⟨0, 4, 56, [[I (3 : Int), I v1.2, I v5.2, I (0 : Int)]]⟩ ty56 rfl rfl rfl rfl rfl rfl rfl rfl rfl) ?_
   refine TO.nil ?_
   refine T.ret ?_
   obtain rfl := osi h
   repeat (first|refine retS ?_|refine retB ?_)
   exact ⟨envOf [(2, .fp (ZIn.c (⟨(3 : Int), v1.2, v5.2, (0 : Int)⟩ : ZIn)) 0)], [some ⟨ver0, 2, 139, [[eL cY ((⟨v5.1.b, v5.1.p⟩ : Xspec_l17Rd).b), I ((⟨v5.1.b, v5.1.p⟩ : Xspec_l17Rd).p)]]⟩], cutS rfl (.cons (.row (.cons (.fz (.of_isF 9 _ rfl)) (.cons (.fz (.of_isF 9 _ rfl)) .nil))) .nil) (stl_cons (.fz (Fz.fpL (ver := 0) (s := 4) (ty := 56) (rows := [[I (3 : Int), I v1.2, I v5.2, I (0 : Int)]]) rfl rfl rfl (.cons (.of_isF 9 _ rfl) (.cons (.of_isF 9 _ rfl) (.cons (.of_isF 9 _ rfl) (.cons (.of_isF 9 _ rfl) .nil)))))) stl_nil), Fin.ret (vs := [.agg (ZIn.c (⟨(3 : Int), v1.2, v5.2, (0 : Int)⟩ : ZIn))]) (.cons (.cellF (.agg (ZIn.c (⟨(3 : Int), v1.2, v5.2, (0 : Int)⟩ : ZIn))) ty56 rfl rfl) .nil) ⟨rfl, rfl⟩⟩
  ·replace h := condF q4 h
   refine T.seq ?_
   refine T.clean (H0 := [some ⟨ver0, 2, 139, [[eL cY v2.1.b, I v2.1.p]]⟩, some ⟨0, 4, 56, [[I (0 : Int), I (0 : Int), I (0 : Int), I (0 : Int)]]⟩]) (e0 := envOf [(7, I v2.2), (3, I v1.2), (2, .hp 1 0 4 0 0), (0, .hp 0 ver0 2 0 0)]) rfl (wkC rfl (wkC rfl (wkC rfl (wkC rfl wkN)))) ?_
   refine T.region ?_
   refine oN (EvN.ieq rfl rfl) ?_
   refine oN (EvN.asg (Bo (v2.2 == (2 : Int))) rfl) ?_
   refine TO.nil ?_
   refine T.cond rfl (fun q6 => ?_) (fun q6 => ?_)
   ·replace h := condT q6 h
    refine T.seq ?_
    refine T.region ?_
    refine oN (EvN.mv (I v1.2) rfl) ?_
    refine oN (EvN.mv (.hp 0 ver0 2 0 0) rfl) ?_
    obtain ⟨v7, cv7, h⟩ := bindL h
    refine oA (EvA.call rfl rfl rfl ((F_spec_l17Rd_pick_P (⟨v2.1.b, v2.1.p⟩ : Xspec_l17Rd) (2 : Int) ver0 cv7).one 0 rfl (.cons (.hp rfl) (.cons (.pF rfl) .nil)) (rowsF_row rfl) (rowsF_row rfl) rfl)) ?_
    refine oN (EvN.mv (.hp 0 ver0 2 0 0) rfl) ?_
    obtain ⟨v8, cv8, h⟩ := bindL h
    refine oA (EvA.call rfl rfl rfl ((F_spec_l17Rd_pick_P (⟨v7.1.b, v7.1.p⟩ : Xspec_l17Rd) (3 : Int) ver0 cv8).one 0 rfl (.cons (.hp rfl) (.cons (.pF rfl) .nil)) (rowsF_row rfl) (rowsF_row rfl) rfl)) ?_
    obtain ⟨g9, h⟩ := gdW h
    refine oN (EvN.add rfl rfl g9) ?_
    refine oN (EvN.build [I (5 : Int), I v1.2, I v7.2, I ((1 : Int) + v8.2)] Try.underlying56 zs56 fs56 rfl rfl) ?_
    refine oV (EvA.st (cs := [I (5 : Int), I v1.2, I v7.2, I ((1 : Int) + v8.2)]) ⟨0, 4, 56, [[I (5 : Int), I v1.2, I v7.2, I ((1 : Int) + v8.2)]]⟩ ty56 rfl rfl rfl rfl rfl rfl rfl rfl rfl) ?_
    refine TO.nil ?_
    refine T.ret ?_
    obtain rfl := osi h
    repeat (first|refine retS ?_|refine retB ?_)
    exact ⟨envOf [(2, .fp (ZIn.c (⟨(5 : Int), v1.2, v7.2, ((1 : Int) + v8.2)⟩ : ZIn)) 0)], [some ⟨ver0, 2, 139, [[eL cY ((⟨v8.1.b, v8.1.p⟩ : Xspec_l17Rd).b), I ((⟨v8.1.b, v8.1.p⟩ : Xspec_l17Rd).p)]]⟩], cutS rfl (.cons (.row (.cons (.fz (.of_isF 9 _ rfl)) (.cons (.fz (.of_isF 9 _ rfl)) .nil))) .nil) (stl_cons (.fz (Fz.fpL (ver := 0) (s := 4) (ty := 56) (rows := [[I (5 : Int), I v1.2, I v7.2, I ((1 : Int) + v8.2)]]) rfl rfl rfl (.cons (.of_isF 9 _ rfl) (.cons (.of_isF 9 _ rfl) (.cons (.of_isF 9 _ rfl) (.cons (.of_isF 9 _ rfl) .nil)))))) stl_nil), Fin.ret (vs := [.agg (ZIn.c (⟨(5 : Int), v1.2, v7.2, ((1 : Int) + v8.2)⟩ : ZIn))]) (.cons (.cellF (.agg (ZIn.c (⟨(5 : Int), v1.2, v7.2, ((1 : Int) + v8.2)⟩ : ZIn))) ty56 rfl rfl) .nil) ⟨rfl, rfl⟩⟩
   ·replace h := condF q6 h
    obtain ⟨s10, h, ks10⟩ := bindL h
    refine T.joinF (G := Unit) (fun gh => True) (fun gh => [(26, Bo s10), (3, I v1.2), (2, .hp 1 0 4 0 0), (0, .hp 0 ver0 2 0 0)]) (fun gh => [some ⟨ver0, 2, 139, [[eL cY v2.1.b, I v2.1.p]]⟩, some ⟨0, 4, 56, [[I (0 : Int), I (0 : Int), I (0 : Int), I (0 : Int)]]⟩]) (fun gh hg => ?_) ?_
    ·clear h
     have h := ks10
     clear ks10
     refine T.cond rfl (fun q12 => ?_) (fun q12 => ?_)
     ·replace h := condT q12 h
      refine T.seq ?_
      refine T.region ?_
      refine oN (EvN.mv (I v1.2) rfl) ?_
      refine oN (EvN.mv (.hp 0 ver0 2 0 0) rfl) ?_
      obtain ⟨v13, cv13, h⟩ := bindL h
      refine oA (EvA.call rfl rfl rfl ((F_spec_l17Rd_pick_P (⟨v2.1.b, v2.1.p⟩ : Xspec_l17Rd) (3 : Int) ver0 cv13).one 0 rfl (.cons (.hp rfl) (.cons (.pF rfl) .nil)) (rowsF_row rfl) (rowsF_row rfl) rfl)) ?_
      obtain ⟨g14, h⟩ := gdW h
      refine oN (EvN.add rfl rfl g14) ?_
      refine oN (EvN.build [I (2 : Int), I v1.2, I (0 : Int), I ((1 : Int) + v13.2)] Try.underlying56 zs56 fs56 rfl rfl) ?_
      refine oV (EvA.st (cs := [I (2 : Int), I v1.2, I (0 : Int), I ((1 : Int) + v13.2)]) ⟨0, 4, 56, [[I (2 : Int), I v1.2, I (0 : Int), I ((1 : Int) + v13.2)]]⟩ ty56 rfl rfl rfl rfl rfl rfl rfl rfl rfl) ?_
      refine TO.nil ?_
      refine T.ret ?_
      obtain rfl := osi h
      repeat (first|refine retS ?_|refine retB ?_)
      exact ⟨envOf [(2, .fp (ZIn.c (⟨(2 : Int), v1.2, (0 : Int), ((1 : Int) + v13.2)⟩ : ZIn)) 0)], [some ⟨ver0, 2, 139, [[eL cY ((⟨v13.1.b, v13.1.p⟩ : Xspec_l17Rd).b), I ((⟨v13.1.b, v13.1.p⟩ : Xspec_l17Rd).p)]]⟩], cutS rfl (.cons (.row (.cons (.fz (.of_isF 9 _ rfl)) (.cons (.fz (.of_isF 9 _ rfl)) .nil))) .nil) (stl_cons (.fz (Fz.fpL (ver := 0) (s := 4) (ty := 56) (rows := [[I (2 : Int), I v1.2, I (0 : Int), I ((1 : Int) + v13.2)]]) rfl rfl rfl (.cons (.of_isF 9 _ rfl) (.cons (.of_isF 9 _ rfl) (.cons (.of_isF 9 _ rfl) (.cons (.of_isF 9 _ rfl) .nil)))))) stl_nil), Fin.ret (vs := [.agg (ZIn.c (⟨(2 : Int), v1.2, (0 : Int), ((1 : Int) + v13.2)⟩ : ZIn))]) (.cons (.cellF (.agg (ZIn.c (⟨(2 : Int), v1.2, (0 : Int), ((1 : Int) + v13.2)⟩ : ZIn))) ty56 rfl rfl) .nil) ⟨rfl, rfl⟩⟩
     ·replace h := condF q12 h
      refine T.skip ?_
      refine T.seq ?_
      refine T.region ?_
      refine oN (EvN.mv (I v1.2) rfl) ?_
      refine oN (EvN.mv (.hp 0 ver0 2 0 0) rfl) ?_
      obtain ⟨v15, cv15, h⟩ := bindL h
      refine oA (EvA.call rfl rfl rfl ((F_spec_l17Rd_pick_P (⟨v2.1.b, v2.1.p⟩ : Xspec_l17Rd) (2 : Int) ver0 cv15).one 0 rfl (.cons (.hp rfl) (.cons (.pF rfl) .nil)) (rowsF_row rfl) (rowsF_row rfl) rfl)) ?_
      refine oN (EvN.build [I (1 : Int), I v1.2, I v15.2, I (0 : Int)] Try.underlying56 zs56 fs56 rfl rfl) ?_
      refine oV (EvA.st (cs := [I (1 : Int), I v1.2, I v15.2, I (0 : Int)]) ⟨0, 4, 56, [[I (1 : Int), I v1.2, I v15.2, I (0 : Int)]]⟩ ty56 rfl rfl rfl rfl rfl rfl rfl rfl rfl) ?_
      refine TO.nil ?_
      refine T.ret ?_
      obtain rfl := osi h
      repeat (first|refine retS ?_|refine retB ?_)
      exact ⟨envOf [(2, .fp (ZIn.c (⟨(1 : Int), v1.2, v15.2, (0 : Int)⟩ : ZIn)) 0)], [some ⟨ver0, 2, 139, [[eL cY ((⟨v15.1.b, v15.1.p⟩ : Xspec_l17Rd).b), I ((⟨v15.1.b, v15.1.p⟩ : Xspec_l17Rd).p)]]⟩], cutS rfl (.cons (.row (.cons (.fz (.of_isF 9 _ rfl)) (.cons (.fz (.of_isF 9 _ rfl)) .nil))) .nil) (stl_cons (.fz (Fz.fpL (ver := 0) (s := 4) (ty := 56) (rows := [[I (1 : Int), I v1.2, I v15.2, I (0 : Int)]]) rfl rfl rfl (.cons (.of_isF 9 _ rfl) (.cons (.of_isF 9 _ rfl) (.cons (.of_isF 9 _ rfl) (.cons (.of_isF 9 _ rfl) .nil)))))) stl_nil), Fin.ret (vs := [.agg (ZIn.c (⟨(1 : Int), v1.2, v15.2, (0 : Int)⟩ : ZIn))]) (.cons (.cellF (.agg (ZIn.c (⟨(1 : Int), v1.2, v15.2, (0 : Int)⟩ : ZIn))) ty56 rfl rfl) .nil) ⟨rfl, rfl⟩⟩
    ·clear ks10
     refine T.seq ?_
     refine T.region ?_
     refine oN (EvN.ieq rfl rfl) ?_
     refine oN (EvN.asg (Bo (v2.2 == (3 : Int))) rfl) ?_
     refine TO.nil ?_
     refine T.cond rfl (fun q11 => ?_) (fun q11 => ?_)
     ·replace h := condT q11 h
      refine T.skip ?_
      obtain rfl := osi h
      exact ⟨(), trivial, cutW rfl (wkC rfl (wkC rfl (wkC rfl (wkC rfl wkN))))⟩
     ·replace h := condF q11 h
      refine T.region ?_
      refine oN (EvN.ieq rfl rfl) ?_
      refine oN (EvN.asg (Bo (v2.2 == (4 : Int))) rfl) ?_
      refine TO.nil ?_
      obtain rfl := osi h
      exact ⟨(), trivial, cutW rfl (wkC rfl (wkC rfl (wkC rfl (wkC rfl wkN))))⟩
theorem F_spec_l1Draw_P (r_ : Xspec_l17Rd) (ver0 : Nat) {q : Xspec_l17Rd × (List (List ZIn))} (h : F_spec_l1Draw r_ = some q) : ACall Try.prog 74 [.hp 0 ver0 2 0 0] [some ⟨ver0, 2, 139, [[eL cY r_.b, I r_.p]]⟩] (eL (cL ZIn.c) q.2) [some ⟨ver0, 2, 139, [[eL cY q.1.b, I q.1.p]]⟩] := by
 refine ACall.mkT Try.func74 rfl (by kernel_rfl) rfl (by kernel_rfl) (e0 := envOf [(0, .hp 0 ver0 2 0 0)]) (wkC rfl wkN) ?_
 refine T.seq ?_
 refine T.region ?_
 refine oN (EvN.asg (.nil) rfl) ?_
 refine TO.nil ?_
 refine T.seq ?_
 refine T.region ?_
 obtain ⟨v1, cv1, h⟩ := bindL h
 refine oN (EvN.call rfl rfl rfl (F_spec_l1Tests_P  cv1) rfl) ?_
 refine oN (EvN.asg (eL cS v1) rfl) ?_
 refine TO.nil ?_
 obtain ⟨Ks2, es2, ws2, h, ks2⟩ := sumL h
 refine T.join (S := (List Int) × Int) (G := Unit) (fun s2 => Ks2 s2 = some q) (fun s2 gh => True) (fun s2 gh => [(0, .hp 0 ver0 2 0 0)]) (fun s2 gh => [some ⟨ver0, 2, 139, [[eL cY s2.1, I s2.2]]⟩]) (fun s2 gh h hg => ?_) ?_
 ·clear ks2
  subst es2
  refine T.seq ?_
  refine T.region ?_
  refine oA (EvA.mkO (c := (cL ZIn.c)) ([] : List (List ZIn)) [] sl27 rfl rfl rfl (fun _ => rfl) rfl rfl) ?_
  refine oN (EvN.asg (hS false 1 0 1 (([] : List (List ZIn)).length)) rfl) ?_
  refine TO.nil ?_
  obtain ⟨s9, h, ks9⟩ := bindL h
  refine T.joinF (G := Nat) (fun gh => True) (fun gh => [(6, hS false 1 gh 1 s9.2.2.length), (0, .hp 0 ver0 2 0 0)]) (fun gh => [some ⟨ver0, 2, 139, [[eL cY s9.1, I s9.2.1]]⟩, bE false gh 1 57 (s9.2.2.map (cL ZIn.c))]) (fun u35 hg => ?_) ?_
  ·clear h
   have h := ks9
   clear ks9
   refine T.seq ?_
   refine T.seq ?_
   refine T.region ?_
   refine oN (EvN.mv (hS false 1 u35 1 s9.2.2.length) rfl) ?_
   obtain ⟨v36, cv36, h⟩ := bindL h
   refine oA (EvA.callT rfl rfl (F_spec_ProgramValid_P s9.2.2 cv36) (.cons (Fz.own (g := false) (ver := u35) (l := s9.2.2) rfl rfl rfl nofun (fun _ => rfl)) .nil) rfl) ?_
   refine TO.nil ?_
   refine T.cond rfl (fun q37 => ?_) (fun q37 => ?_)
   ·replace h := condT q37 h
    refine T.seq ?_
    refine T.region ?_
    refine oN (EvN.mv (hS false 1 u35 1 s9.2.2.length) rfl) ?_
    refine oN (EvN.asg (hS false 1 u35 1 s9.2.2.length) rfl) ?_
    refine TO.nil ?_
    refine T.ret ?_
    obtain rfl := osi h
    repeat (first|refine retS ?_|refine retB ?_)
    exact ⟨envOf [(2, eL (cL ZIn.c) s9.2.2)], [some ⟨ver0, 2, 139, [[eL cY ((⟨s9.1, s9.2.1⟩ : Xspec_l17Rd).b), I ((⟨s9.1, s9.2.1⟩ : Xspec_l17Rd).p)]]⟩], cutS rfl (.cons (.row (.cons (.fz (.of_isF 9 _ rfl)) (.cons (.fz (.of_isF 9 _ rfl)) .nil))) .nil) (stl_cons (.fz (Fz.own (g := false) (ver := u35) (l := s9.2.2) rfl rfl rfl nofun (fun _ => rfl))) stl_nil), Fin.ret (vs := [eL (cL ZIn.c) s9.2.2]) (.cons (.tmp rfl) .nil) ⟨rfl, rfl⟩⟩
   ·replace h := condF q37 h
    refine T.skip ?_
    refine T.seq ?_
    refine T.region ?_
    refine oN (EvN.mv (.hp 0 ver0 2 0 0) rfl) ?_
    obtain ⟨v38, cv38, h⟩ := bindL h
    refine oA (EvA.call rfl rfl rfl ((F_spec_l1Instr_P (⟨s9.1, s9.2.1⟩ : Xspec_l17Rd) ver0 cv38).one 0 rfl (.cons (.hp rfl) .nil) (rowsF_row rfl) (rowsF_row rfl) rfl)) ?_
    refine oN (EvN.mkF (c := ZIn.c) ([v38.2] : List ZIn) [[I v38.2.Op, I v38.2.Loc, I v38.2.Reg, I v38.2.Val]] sl57 rfl rfl rfl (fun _ => rfl) ZIn.isF rfl) ?_
    refine oN (EvN.mkF (c := (cL ZIn.c)) ([([v38.2] : List ZIn)] : List (List ZIn)) [[eL ZIn.c ([v38.2] : List ZIn)]] sl27 rfl rfl rfl (fun _ => rfl) (fun _ => rfl) rfl) ?_
    refine oN (EvN.asg (eL (cL ZIn.c) ([([v38.2] : List ZIn)] : List (List ZIn))) rfl) ?_
    refine TO.nil ?_
    refine T.ret ?_
    obtain rfl := osi h
    repeat (first|refine retS ?_|refine retB ?_)
    exact ⟨envOf [(2, eL (cL ZIn.c) ([([v38.2] : List ZIn)] : List (List ZIn)))], [some ⟨ver0, 2, 139, [[eL cY ((⟨v38.1.b, v38.1.p⟩ : Xspec_l17Rd).b), I ((⟨v38.1.b, v38.1.p⟩ : Xspec_l17Rd).p)]]⟩], cutS rfl (.cons (.row (.cons (.fz (.of_isF 9 _ rfl)) (.cons (.fz (.of_isF 9 _ rfl)) .nil))) .nil) (stl_cons (.fz (.of_isF 9 _ rfl)) stl_nil), Fin.ret (vs := [eL (cL ZIn.c) ([([v38.2] : List ZIn)] : List (List ZIn))]) (.cons (.tmp rfl) .nil) ⟨rfl, rfl⟩⟩
  ·clear ks9
   refine T.seq ?_
   refine T.region ?_
   refine oN (EvN.mv (.hp 0 ver0 2 0 0) rfl) ?_
   refine oN (EvN.mkF (c := cI) ([(2 : Int), (3 : Int), (1 : Int)] : List Int) [[I (2 : Int)], [I (3 : Int)], [I (1 : Int)]] sl23 rfl rfl rfl (fun _ => rfl) (fun _ => rfl) rfl) ?_
   obtain ⟨v10, cv10, h⟩ := bindL h
   refine oA (EvA.call rfl rfl rfl ((F_spec_l17Rd_num_P (⟨s2.1, s2.2⟩ : Xspec_l17Rd) ([(2 : Int), (3 : Int), (1 : Int)] : List Int) ver0 cv10).one 0 rfl (.cons (.hp rfl) (.cons (.pF rfl) .nil)) (rowsF_row rfl) (rowsF_row rfl) rfl)) ?_
   refine oN (EvN.asg (I v10.2) rfl) ?_
   refine TO.nil ?_
   refine T.block ?_
   refine T.loop (S := (List Int) × Int × (List (List ZIn)) × Int) (G := Nat) F_spec_l1Draw_L15 (fun s14 gh => True) (fun s14 gh => [(7, I s14.2.2.2), (6, hS false 1 gh 1 s14.2.2.1.length), (0, .hp 0 ver0 2 0 0)]) (fun s14 gh => [some ⟨ver0, 2, 139, [[eL cY s14.1, I s14.2.1]]⟩, bE false gh 1 57 (s14.2.2.1.map (cL ZIn.c))]) (s0 := (v10.1.b, v10.1.p, ([] : List (List ZIn)), v10.2)) 0 h trivial (cutW rfl (wkC rfl (wkC rfl (wkC rfl wkN)))) (fun s14 u16 ws14 h hg => ?_)
   refine T.seq ?_
   refine T.seq ?_
   refine T.region ?_
   refine oN (EvN.mv (I s14.2.2.2) rfl) ?_
   refine oN (EvN.igt rfl rfl) ?_
   refine TO.nil ?_
   refine T.cond rfl (fun q17 => ?_) (fun q17 => ?_)
   ·replace h := condT q17 h
    refine T.skip ?_
    obtain ⟨s18, h, ks18⟩ := bindL h
    refine T.joinF (G := Nat) (fun gh => True) (fun gh => [(6, hS false 1 gh 1 s18.2.2.length), (7, I s14.2.2.2), (0, .hp 0 ver0 2 0 0)]) (fun gh => [some ⟨ver0, 2, 139, [[eL cY s18.1, I s18.2.1]]⟩, bE false gh 1 57 (s18.2.2.map (cL ZIn.c))]) (fun u33 hg => ?_) ?_
    ·clear h
     have h := ks18
     clear ks18
     refine T.region ?_
     refine oN (EvN.mv (I s14.2.2.2) rfl) ?_
     obtain ⟨g34, h⟩ := gdW h
     refine oN (EvN.sub rfl rfl g34) ?_
     refine oN (EvN.asg (I (s14.2.2.2 - (1 : Int))) rfl) ?_
     refine TO.nil ?_
     obtain rfl := osi h
     exact ⟨(s18.1, s18.2.1, s18.2.2, (s14.2.2.2 - (1 : Int))), u33, rfl, trivial, cutW rfl (wkC rfl (wkC rfl (wkC rfl wkN)))⟩
    ·clear ks18
     refine T.block ?_
     refine T.seq ?_
     refine T.region ?_
     refine oA (EvA.mkO (c := ZIn.c) ([] : List ZIn) [] sl57 rfl rfl rfl (fun _ => rfl) rfl rfl) ?_
     refine oN (EvN.asg (hS false 2 0 4 (([] : List ZIn).length)) rfl) ?_
     refine TO.nil ?_
     obtain ⟨s19, h, ks19⟩ := bindL h
     refine T.joinF (G := Nat) (fun gh => True) (fun gh => [(8, hS false 2 gh 4 s19.2.2.length), (7, I s14.2.2.2), (6, hS false 1 u16 1 s14.2.2.1.length), (0, .hp 0 ver0 2 0 0)]) (fun gh => [some ⟨ver0, 2, 139, [[eL cY s19.1, I s19.2.1]]⟩, bE false u16 1 57 (s14.2.2.1.map (cL ZIn.c)), bE false gh 4 56 (s19.2.2.map ZIn.c)]) (fun u31 hg => ?_) ?_
     ·clear h
      have h := ks19
      clear ks19
      refine T.region ?_
      refine oN (EvN.mv (hS false 1 u16 1 s14.2.2.1.length) rfl) ?_
      refine oN (EvN.mv (hS false 2 u31 4 s19.2.2.length) rfl) ?_
      refine oA (EvA.mkR [[hS false 2 u31 4 s19.2.2.length]] sl27 rfl rfl rfl rfl) ?_
      obtain ⟨g32, h⟩ := gdL h
      refine oA (EvA.appR (g := false) (rows := s14.2.2.1.map (cL ZIn.c)) (rows' := s14.2.2.1.map (cL ZIn.c) ++ [[hS false 2 u31 4 s19.2.2.length]]) (n' := s14.2.2.1.length + 1) sl27 (by kernel_rfl) rfl rfl (by simp) nofun (SrcOk.raw (rows := [[hS false 2 u31 4 s19.2.2.length]]) rfl rfl rfl) g32 rfl rfl) ?_
      refine oN (EvN.asg (hS false 1 (u16 + 1) 1 (s14.2.2.1.length + 1)) rfl) ?_
      refine TO.nil ?_
      obtain rfl := osi h
      exact ⟨u16 + 1, trivial, cutS rfl (.cons (.row (.cons (.fz (.of_isF 9 _ rfl)) (.cons (.fz (.of_isF 9 _ rfl)) .nil))) (.cons (.snoc (fun _ => rfl) (.cons (.cons (.fz (Fz.own (g := false) (ver := u31) (l := s19.2.2) rfl rfl rfl nofun ZIn.isF)) .nil) .nil)) .nil)) (stl_cons (.eqv (congrArg (hS false 1 (u16 + 1) 1) (by simp : (s14.2.2.1.length + 1) = (s14.2.2.1 ++ [s19.2.2]).length)) (.hS (g := false) (b := 1) (ver := u16 + 1) (s := 1) (n := (s14.2.2.1 ++ [s19.2.2]).length) rfl)) (stl_cons (.fz (.of_isF 9 _ rfl)) (stl_cons (.hp (Nat.le_of_ble_eq_true rfl)) stl_nil)))⟩
     ·clear ks19
      refine T.seq ?_
      refine T.region ?_
      refine oN (EvN.mv (.hp 0 ver0 2 0 0) rfl) ?_
      refine oN (EvN.mkF (c := cI) ([(2 : Int), (1 : Int), (3 : Int), (2 : Int), (0 : Int)] : List Int) [[I (2 : Int)], [I (1 : Int)], [I (3 : Int)], [I (2 : Int)], [I (0 : Int)]] sl23 rfl rfl rfl (fun _ => rfl) (fun _ => rfl) rfl) ?_
      obtain ⟨v20, cv20, h⟩ := bindL h
      refine oA (EvA.call rfl rfl rfl ((F_spec_l17Rd_num_P (⟨s14.1, s14.2.1⟩ : Xspec_l17Rd) ([(2 : Int), (1 : Int), (3 : Int), (2 : Int), (0 : Int)] : List Int) ver0 cv20).one 0 rfl (.cons (.hp rfl) (.cons (.pF rfl) .nil)) (rowsF_row rfl) (rowsF_row rfl) rfl)) ?_
      refine oN (EvN.asg (I v20.2) rfl) ?_
      refine TO.nil ?_
      refine T.block ?_
      refine T.loop (S := (List Int) × Int × (List ZIn) × Int) (G := Nat) F_spec_l1Draw_L25 (fun s24 gh => True) (fun s24 gh => [(9, I s24.2.2.2), (8, hS false 2 gh 4 s24.2.2.1.length), (7, I s14.2.2.2), (6, hS false 1 u16 1 s14.2.2.1.length), (0, .hp 0 ver0 2 0 0)]) (fun s24 gh => [some ⟨ver0, 2, 139, [[eL cY s24.1, I s24.2.1]]⟩, bE false u16 1 57 (s14.2.2.1.map (cL ZIn.c)), bE false gh 4 56 (s24.2.2.1.map ZIn.c)]) (s0 := (v20.1.b, v20.1.p, ([] : List ZIn), v20.2)) 0 h trivial (cutW rfl (wkC rfl (wkC rfl (wkC rfl (wkC rfl (wkC rfl wkN)))))) (fun s24 u26 ws24 h hg => ?_)
      refine T.seq ?_
      refine T.seq ?_
      refine T.region ?_
      refine oN (EvN.mv (I s24.2.2.2) rfl) ?_
      refine oN (EvN.igt rfl rfl) ?_
      refine TO.nil ?_
      refine T.cond rfl (fun q27 => ?_) (fun q27 => ?_)
      ·replace h := condT q27 h
       refine T.skip ?_
       refine T.seq ?_
       refine T.block ?_
       refine T.region ?_
       refine oN (EvN.mv (hS false 2 u26 4 s24.2.2.1.length) rfl) ?_
       refine oN (EvN.mv (.hp 0 ver0 2 0 0) rfl) ?_
       obtain ⟨v28, cv28, h⟩ := bindL h
       refine oA (EvA.call rfl rfl rfl ((F_spec_l1Instr_P (⟨s24.1, s24.2.1⟩ : Xspec_l17Rd) ver0 cv28).one 0 rfl (.cons (.hp rfl) .nil) (rowsF_row rfl) (rowsF_row rfl) rfl)) ?_
       refine oN (EvN.mkF (c := ZIn.c) ([v28.2] : List ZIn) [[I v28.2.Op, I v28.2.Loc, I v28.2.Reg, I v28.2.Val]] sl57 rfl rfl rfl (fun _ => rfl) ZIn.isF rfl) ?_
       obtain ⟨g29, h⟩ := gdL h
       refine oA (EvA.app1 (g := false) (l := s24.2.2.1) v28.2 sl57 (by kernel_rfl) rfl rfl rfl nofun (SrcOk.fz (l := ([v28.2] : List ZIn)) rfl (fun _ => rfl)) g29) ?_
       refine oN (EvN.asg (hS false 2 (u26 + 1) 4 ((s24.2.2.1 ++ [v28.2]).length)) rfl) ?_
       refine TO.nil ?_
       refine T.clean (H0 := [some ⟨ver0, 2, 139, [[eL cY v28.1.b, I v28.1.p]]⟩, bE false u16 1 57 (s14.2.2.1.map (cL ZIn.c)), bE false (u26 + 1) 4 56 ((s24.2.2.1 ++ [v28.2]).map ZIn.c)]) (e0 := envOf [(8, hS false 2 (u26 + 1) 4 ((s24.2.2.1 ++ [v28.2]).length)), (9, I s24.2.2.2), (7, I s14.2.2.2), (6, hS false 1 u16 1 s14.2.2.1.length), (0, .hp 0 ver0 2 0 0)]) rfl (wkC rfl (wkC rfl (wkC rfl (wkC rfl (wkC rfl wkN))))) ?_
       refine T.region ?_
       refine oN (EvN.mv (I s24.2.2.2) rfl) ?_
       obtain ⟨g30, h⟩ := gdW h
       refine oN (EvN.sub rfl rfl g30) ?_
       refine oN (EvN.asg (I (s24.2.2.2 - (1 : Int))) rfl) ?_
       refine TO.nil ?_
       obtain rfl := osi h
       exact ⟨(v28.1.b, v28.1.p, (s24.2.2.1 ++ [v28.2]), (s24.2.2.2 - (1 : Int))), u26 + 1, rfl, trivial, cutW rfl (wkC rfl (wkC rfl (wkC rfl (wkC rfl (wkC rfl wkN)))))⟩
      ·replace h := condF q27 h
       refine T.exit ?_
       refine ⟨_, (osi h).symm, fun h => ?_⟩
       replace h := congrArg some h
       obtain rfl := osi h
       exact ⟨u26, trivial, cutW rfl (wkC rfl (wkC rfl (wkC rfl (wkC rfl wkN))))⟩
   ·replace h := condF q17 h
    refine T.exit ?_
    refine ⟨_, (osi h).symm, fun h => ?_⟩
    replace h := congrArg some h
    obtain rfl := osi h
    exact ⟨u16, trivial, cutW rfl (wkC rfl (wkC rfl wkN))⟩
 ·refine T.seq ?_
  refine T.region ?_
  refine oN (EvN.mv (.hp 0 ver0 2 0 0) rfl) ?_
  obtain ⟨v3, cv3, h⟩ := bindL h
  refine oA (EvA.call rfl rfl rfl ((F_spec_l17Rd_pick_P (⟨r_.b, r_.p⟩ : Xspec_l17Rd) (3 : Int) ver0 cv3).one 0 rfl (.cons (.hp rfl) (.cons (.pF rfl) .nil)) (rowsF_row rfl) (rowsF_row rfl) rfl)) ?_
  refine oN (EvN.igt rfl rfl) ?_
  refine TO.nil ?_
  refine T.cond rfl (fun q4 => ?_) (fun q4 => ?_)
  ·replace h := condT q4 h
   refine T.seq ?_
   refine T.region ?_
   refine oN (EvN.mv (eL cS v1) rfl) ?_
   refine oN (EvN.mv (.hp 0 ver0 2 0 0) rfl) ?_
   refine oN (EvN.mv (eL cS v1) rfl) ?_
   refine oN (EvN.lenL sl140 rfl) ?_
   obtain ⟨v5, cv5, h⟩ := bindL h
   refine oA (EvA.call rfl rfl rfl ((F_spec_l17Rd_pick_P (⟨v3.1.b, v3.1.p⟩ : Xspec_l17Rd) (v1.length : Int) ver0 cv5).one 0 rfl (.cons (.hp rfl) (.cons (.pF rfl) .nil)) (rowsF_row rfl) (rowsF_row rfl) rfl)) ?_
   obtain ⟨g6, h⟩ := gdD h
   refine oN (EvN.ixL sl140 rfl rfl g6 (fun _ => rfl)) ?_
   refine oN (EvN.loadfp (St (v1.getD v5.2.toNat default)) ty9 rfl rfl) ?_
   obtain ⟨v7, cv7, h⟩ := bindL h
   refine oN (EvN.call rfl rfl rfl (F_spec_ParseProgram_P (v1.getD v5.2.toNat default) cv7) rfl) ?_
   refine oN (EvN.mv (.tup [eL (cL ZIn.c) v7.1, Bo v7.2]) rfl) ?_
   refine oN (EvN.ext (eL (cL ZIn.c) v7.1) rfl rfl) ?_
   refine oN (EvN.ext (Bo v7.2) rfl rfl) ?_
   refine oN (EvN.asg (eL (cL ZIn.c) v7.1) rfl) ?_
   refine oN (EvN.asg (Bo v7.2) rfl) ?_
   refine TO.nil ?_
   refine T.seq ?_
   refine T.clean (H0 := [some ⟨ver0, 2, 139, [[eL cY v5.1.b, I v5.1.p]]⟩]) (e0 := envOf [(5, Bo v7.2), (4, eL (cL ZIn.c) v7.1), (0, .hp 0 ver0 2 0 0)]) rfl (wkC rfl (wkC rfl (wkC rfl wkN))) ?_
   refine T.region ?_
   refine oN (EvN.mv (Bo v7.2) rfl) ?_
   refine TO.nil ?_
   refine T.cond rfl (fun q8 => ?_) (fun q8 => ?_)
   ·replace h := condT q8 h
    refine T.seq ?_
    refine T.region ?_
    refine oN (EvN.mv (eL (cL ZIn.c) v7.1) rfl) ?_
    refine oN (EvN.asg (eL (cL ZIn.c) v7.1) rfl) ?_
    refine TO.nil ?_
    refine T.ret ?_
    obtain rfl := osi h
    replace h := congrArg some (show _ = _ from ks2)
    obtain rfl := osi h
    repeat (first|refine retS ?_|refine retB ?_)
    exact ⟨envOf [(2, eL (cL ZIn.c) v7.1)], [some ⟨ver0, 2, 139, [[eL cY ((⟨v5.1.b, v5.1.p⟩ : Xspec_l17Rd).b), I ((⟨v5.1.b, v5.1.p⟩ : Xspec_l17Rd).p)]]⟩], cutW rfl (wkC rfl wkN), Fin.ret (vs := [eL (cL ZIn.c) v7.1]) (.cons (.tmp rfl) .nil) ⟨rfl, rfl⟩⟩
   ·replace h := condF q8 h
    refine T.skip ?_
    obtain rfl := osi h
    exact ⟨(v5.1.b, v5.1.p), (), ks2, trivial, cutW rfl (wkC rfl wkN)⟩
  ·replace h := condF q4 h
   refine T.skip ?_
   obtain rfl := osi h
   exact ⟨(v3.1.b, v3.1.p), (), ks2, trivial, cutW rfl (wkC rfl wkN)⟩
end Go.Proofs.Ytlmjnhnpahicmaa
