/-
 slices.Sort of numbers, as a plain function. No conditions.
-/
import Derived.Test.YtlmjnhnpahicmaaSt
namespace Go.Proofs.Ytlmjnhnpahicmaa
open Go.RowKit
def srtI (l:List Int):List Int:=l.mergeSort fun x y=>decide (x<=y)
theorem srtI_perm (l:List Int):(srtI l).Perm l:=List.mergeSort_perm l _
theorem srtI_sorted (l:List Int):(srtI l).Pairwise (· <= ·):=
 (List.pairwise_mergeSort (le:=fun x y:Int=>decide (x<=y)) (fun a b c h1 h2=>by simp only [decide_eq_true_eq] at *;omega) (fun a b=>by simp only [Bool.or_eq_true,decide_eq_true_eq];omega) l).imp fun h=>of_decide_eq_true h
def F_slices_Sort (l:List Int):Option (List Int):=gd (decide (l.length<4611686018427387904)) (some (srtI l))
theorem F_slices_Sort_nil {l q:List Int} (h:l=[]) (c:F_slices_Sort l=some q):q=[]:=by
 subst h
 obtain ⟨_,c⟩:=gdD c
 rw [<- Option.some.inj c]
 exact (srtI_perm []).eq_nil
theorem F_slices_Sort_len {l q:List Int} (c:F_slices_Sort l=some q):q.length=l.length:=by
 obtain ⟨_,c⟩:=gdD c
 rw [<- Option.some.inj c]
 exact (srtI_perm l).length_eq
end Go.Proofs.Ytlmjnhnpahicmaa
