/-
 The program's code computes the functions over plain values; printed by lift.py. No conditions.
-/
import Derived.Test.YtlmjnhnpahicmaaS33d
import Derived.Test.YtlmjnhnpahicmaaSf
import Derived.Test.YtlmjnhnpahicmaaBrV
import Derived.Test.YtlmjnhnpahicmaaS263
import Derived.Test.YtlmjnhnpahicmaaS271
import Derived.Test.YtlmjnhnpahicmaaS331
namespace Go.Proofs.Ytlmjnhnpahicmaa
open Go.RowKit
set_option maxRecDepth 100000
theorem F_spec_l13Sort_P (p : List (List ZIn)) (before : List Int) {q : (List Int) × Bool} (h : F_spec_l13Sort p before = some q) : PCall Try.prog 60 [eL (cL ZIn.c) p,eL cI before] (.tup [eL cI q.1,Bo q.2]) := by
 refine PCall.mkT Try.func60 rfl (by kernel_rfl) rfl (by kernel_rfl) (e0:=envOf [(0,eL (cL ZIn.c) p),(1,eL cI before)]) (wkC rfl (wkC rfl wkN)) (T.seq (T.region (oN (EvN.asg (.nil) rfl) (oN (EvN.asg (Bo false) rfl) (TO.nil (T.seq (T.region ?_)))))))
 refine oN (EvN.mv (eL (cL ZIn.c) p) rfl) ?_
 obtain ⟨v1,cv1,h⟩ := bindL h
 refine oN (EvN.call rfl rfl rfl (F_spec_l6Events_P p cv1) rfl) (oN (EvN.asg (eL ZEv.c v1) rfl) (TO.nil (T.seq (T.region (oN (EvN.mv (eL (cL ZIn.c) p) rfl) (oN (EvN.lenL sl27 rfl) ?_))))))
 obtain ⟨g2,h⟩ := gdD h
 refine oA (EvA.mkN (c:=cI) (default : Int) sl23 rfl rfl g2 rfl rfl rfl) (oN (EvN.asg (hS false 0 0 1 ((List.replicate (p.length : Int).toNat (default : Int)).length)) rfl) (TO.nil (T.seq (T.clean (H0:=[bE false 0 1 3 ((List.replicate (p.length : Int).toNat (default : Int)).map cI)]) (e0:=envOf [(7,hS false 0 0 1 ((List.replicate (p.length : Int).toNat (default : Int)).length)),(6,eL ZEv.c v1),(0,eL (cL ZIn.c) p),(1,eL cI before)]) rfl (wkC rfl (wkC rfl (wkC rfl (wkC rfl wkN)))) (T.region ?_)))))
 obtain ⟨v3,cv3,h⟩ := bindL h
 refine oN (EvN.call rfl rfl rfl (F_spec_l2Full_P (3 : Int) cv3) rfl) (oN (EvN.asg (I v3) rfl) (TO.nil (T.seq (T.region (oA (EvA.mkO (c:=cI) ([] : List Int) [] sl23 rfl rfl rfl (fun _ => rfl) rfl rfl) (oN (EvN.asg (hS false 1 0 1 (([] : List Int).length)) rfl) (TO.nil ?_)))))))
 refine T.seq (T.region (oN (EvN.asg (Bo true) rfl) (TO.nil ?_)))
 obtain ⟨s4,h,ks4⟩ := bindL h
 refine T.joinF (G:=Nat × Nat) (fun gh => True) (fun gh => [(9,hS false 1 gh.2 1 s4.2.length),(7,hS false 0 gh.1 1 s4.1.length),(0,eL (cL ZIn.c) p)]) (fun gh => [bE false gh.1 1 3 (s4.1.map cI),bE false gh.2 1 3 (s4.2.map cI)]) (fun gh hg => ?_) ?_
 ·clear h
  have h := ks4
  clear ks4
  obtain ⟨u42,u43⟩ := gh
  obtain ⟨Ks44,es44,ws44,h,ks44⟩ := sumL h
  refine T.join (S:=Unit) (G:=Unit) (fun s44 => Ks44 s44 = some q) (fun s44 gh => True) (fun s44 gh => [(9,hS false 1 u43 1 s4.2.length)]) (fun s44 gh => [bE false u42 1 3 (s4.1.map cI),bE false u43 1 3 (s4.2.map cI)]) (fun s44 gh h hg => ?_) ?_
  ·clear ks44
   subst es44
   refine T.seq (T.region (oN (EvN.mv (hS false 1 u43 1 s4.2.length) rfl) (oN (EvN.asg (hS false 1 u43 1 s4.2.length) rfl) (oN (EvN.asg (Bo true) rfl) (TO.nil (T.ret ?_))))))
   obtain rfl := osi h
   repeat (first|refine retS ?_|refine retB ?_)
   exact Fin.ret (vs:=[hS false 1 u43 1 s4.2.length,Bo true]) (.cons (.tmp rfl) (.cons (.tmp rfl) .nil)) (.tupL (.cons (Fz.own (g:=false) (ver:=u43) (l:=s4.2) rfl rfl rfl nofun (fun _ => rfl)) (.cons (.of_isF 9 _ rfl) .nil)))
  ·refine T.seq (T.region (oN (EvN.asg (I (0 : Int)) rfl) (TO.nil (T.block ?_))))
   refine T.loop (S:=Int) (G:=Unit) (F_spec_l13Sort_L48 p s4) (fun s47 gh => True) (fun s47 gh => [(13,I s47),(9,hS false 1 u43 1 s4.2.length),(7,hS false 0 u42 1 s4.1.length),(0,eL (cL ZIn.c) p)]) (fun s47 gh => [bE false u42 1 3 (s4.1.map cI),bE false u43 1 3 (s4.2.map cI)]) (s0:=(0 : Int)) () h trivial (cutW rfl (wkC rfl (wkC rfl (wkC rfl (wkC rfl wkN))))) (fun s47 gh ws47 h hg => ?_)
   refine T.seq (T.seq (T.region (oN (EvN.mv (I s47) rfl) (oN (EvN.mv (eL (cL ZIn.c) p) rfl) (oN (EvN.lenL sl27 rfl) (oN (EvN.ilt rfl rfl) (TO.nil ?_)))))))
   refine T.cond rfl (fun q49 => ?_) (fun q49 => ?_)
   ·replace h := condT q49 h
    refine T.skip (T.seq (T.block (T.seq (T.drawF (fun i => [([],false),([],false),([],false),([0],false),([],false),([],false),([],false),([],false),([],false),([],false)].getD i ([],false)) (by kernel_rfl) (by kernel_rfl) (fN rfl (EvN.mv (hS false 0 u42 1 s4.1.length) rfl) (fN rfl (EvN.mv (I s47) rfl) ?_))))))
    obtain ⟨g50,h⟩ := gdD h
    refine fN rfl (EvN.ixO (g:=false) sl23 rfl rfl nofun g50) (fR [0] rfl (fun G hG => EvA.ldO (g:=false) (l:=s4.1) (I (s4.1.getD s47.toNat default)) ty3 rfl (hG.a0 rfl) nofun (toNat_lt' rfl g50) rfl) (fN rfl (EvN.mv (eL (cL ZIn.c) p) rfl) (fN rfl (EvN.mv (I s47) rfl) ?_)))
    obtain ⟨g51,h⟩ := gdD h
    refine fN rfl (EvN.ixL sl27 rfl rfl g51 (fun _ => rfl)) (fN rfl (EvN.loadfp (eL ZIn.c (p.getD s47.toNat default)) ty57 rfl rfl) (fN rfl (EvN.lenL sl57 rfl) (fN rfl (EvN.ilt rfl rfl) (TF.nil ?_))))
    refine T.cond rfl (fun q52 => ?_) (fun q52 => ?_)
    ·replace h := condT q52 h
     refine T.seq (T.clean (H0:=[bE false u42 1 3 (s4.1.map cI),bE false u43 1 3 (s4.2.map cI)]) (e0:=envOf []) rfl wkN (T.region (oN (EvN.mkF (c:=cI) ([] : List Int) [] sl23 rfl rfl rfl (fun _ => rfl) (fun _ => rfl) rfl) (oN (EvN.asg (eL cI ([] : List Int)) rfl) (oN (EvN.asg (Bo false) rfl) (TO.nil (T.ret ?_)))))))
     refine ⟨_,(osi h).symm,fun h => ?_⟩
     replace h := congrArg some h
     obtain rfl := osi h
     replace h := congrArg some (show _ = _ from ks44)
     obtain rfl := osi h
     repeat (first|refine retS ?_|refine retB ?_)
     exact Fin.ret (vs:=[eL cI ([] : List Int),Bo false]) (.cons (.tmp rfl) (.cons (.tmp rfl) .nil)) (.tupL (.cons (.of_isF 9 _ rfl) (.cons (.of_isF 9 _ rfl) .nil)))
    ·replace h := condF q52 h
     refine T.skip (T.clean (H0:=[bE false u42 1 3 (s4.1.map cI),bE false u43 1 3 (s4.2.map cI)]) (e0:=envOf [(13,I s47),(9,hS false 1 u43 1 s4.2.length),(7,hS false 0 u42 1 s4.1.length),(0,eL (cL ZIn.c) p)]) rfl (wkC rfl (wkC rfl (wkC rfl (wkC rfl wkN)))) (T.region (oN (EvN.mv (I s47) rfl) ?_)))
     obtain ⟨g53,h⟩ := gdW h
     refine oN (EvN.add rfl rfl g53) (oN (EvN.asg (I (s47 + (1 : Int))) rfl) (TO.nil ?_))
     obtain rfl := osi h
     exact ⟨(s47 + (1 : Int)),(),rfl,trivial,cutW rfl (wkC rfl (wkC rfl (wkC rfl (wkC rfl wkN))))⟩
   ·replace h := condF q49 h
    refine T.exit ?_
    refine ⟨_,(osi h).symm,fun h => ?_⟩
    replace h := congrArg some h
    obtain rfl := osi h
    exact ⟨(),(),ks44,trivial,cutW rfl (wkC rfl wkN)⟩
 ·clear ks4
  refine T.block ?_
  refine T.loop (S:=(List Int) × (List Int) × Bool × Int) (G:=Nat × Nat) (F_spec_l13Sort_L10 p before v1) (fun s9 gh => True) (fun s9 gh => [(10,Bo s9.2.2.1),(9,hS false 1 gh.2 1 s9.2.1.length),(8,I s9.2.2.2),(7,hS false 0 gh.1 1 s9.1.length),(6,eL ZEv.c v1),(0,eL (cL ZIn.c) p),(1,eL cI before)]) (fun s9 gh => [bE false gh.1 1 3 (s9.1.map cI),bE false gh.2 1 3 (s9.2.1.map cI)]) (s0:=((List.replicate (p.length : Int).toNat (default : Int)),([] : List Int),true,v3)) (0,0) h trivial (cutW rfl (wkC rfl (wkC rfl (wkC rfl (wkC rfl (wkC rfl (wkC rfl (wkC rfl wkN)))))))) (fun s9 gh ws9 h hg => ?_)
  obtain ⟨u11,u12⟩ := gh
  refine T.seq (T.seq (T.region (oN (EvN.mv (Bo s9.2.2.1) rfl) (TO.nil ?_))))
  refine T.cond rfl (fun q13 => ?_) (fun q13 => ?_)
  ·replace h := condT q13 h
   refine T.skip (T.block (T.seq (T.region (oN (EvN.asg (Bo false) rfl) (TO.nil (T.seq (T.region ?_)))))))
   refine oN (EvN.asg (I (0 : Int)) rfl) (TO.nil (T.block ?_))
   refine T.loop (S:=(List Int) × (List Int) × Int × Bool × Int) (G:=Nat × Nat) (F_spec_l13Sort_L19 p before v1) (fun s18 gh => True) (fun s18 gh => [(11,I s18.2.2.1),(10,Bo s18.2.2.2.1),(9,hS false 1 gh.2 1 s18.2.1.length),(8,I s18.2.2.2.2),(7,hS false 0 gh.1 1 s18.1.length),(6,eL ZEv.c v1),(0,eL (cL ZIn.c) p),(1,eL cI before)]) (fun s18 gh => [bE false gh.1 1 3 (s18.1.map cI),bE false gh.2 1 3 (s18.2.1.map cI)]) (s0:=(s9.1,s9.2.1,(0 : Int),false,s9.2.2.2)) (u11,u12) h trivial (cutW rfl (wkC rfl (wkC rfl (wkC rfl (wkC rfl (wkC rfl (wkC rfl (wkC rfl (wkC rfl wkN))))))))) (fun s18 gh ws18 h hg => ?_)
   let d0 := s18.1.getD s18.2.2.1.toNat default
   obtain ⟨u20,u21⟩ := gh
   refine T.seq (T.seq (T.region (oN (EvN.mv (I s18.2.2.1) rfl) (oN (EvN.mv (eL (cL ZIn.c) p) rfl) (oN (EvN.lenL sl27 rfl) (oN (EvN.ilt rfl rfl) (oN (EvN.mv (Bo (decide (s18.2.2.1 < (p.length : Int)))) rfl) ?_)))))))
   obtain ⟨s22,h,ks22⟩ := bindL h
   refine TO.joinF (G:=Unit) 3 (fun _ => True) (fun _ => [(29,Bo s22),(11,I s18.2.2.1),(10,Bo s18.2.2.2.1),(9,hS false 1 u21 1 s18.2.1.length),(8,I s18.2.2.2.2),(7,hS false 0 u20 1 s18.1.length),(6,eL ZEv.c v1),(0,eL (cL ZIn.c) p),(1,eL cI before)]) (fun _ => [bE false u20 1 3 (s18.1.map cI),bE false u21 1 3 (s18.2.1.map cI)]) ?_ (fun js22 => ?_)
   rotate_left
   ·clear ks22
    rcases bifL h with ⟨q23,h⟩ | ⟨q23,h⟩
    ·refine gN rfl q23 (EvN.mv (Bo s18.2.2.2.1) rfl) (gN rfl q23 (EvN.not rfl) (oN (EvN.pickT rfl q23 (Bo (!s18.2.2.2.1)) rfl) ?_))
     obtain rfl := osi h
     exact js22 _ _ ⟨(),trivial,cutW rfl (wkC rfl (wkC rfl (wkC rfl (wkC rfl (wkC rfl (wkC rfl (wkC rfl (wkC rfl (wkC rfl wkN)))))))))⟩
    ·refine gS rfl q23 (gS rfl q23 (oN (EvN.pickF rfl q23 (Bo false) rfl) ?_))
     obtain rfl := osi h
     exact js22 _ _ ⟨(),trivial,cutW rfl (wkC rfl (wkC rfl (wkC rfl (wkC rfl (wkC rfl (wkC rfl (wkC rfl (wkC rfl (wkC rfl wkN)))))))))⟩
   ·intro _ _
    replace h := ks22
    clear ks22
    refine TO.nil ?_
    refine T.cond rfl (fun q24 => ?_) (fun q24 => ?_)
    ·replace h := condT q24 h
     refine T.skip ?_
     obtain ⟨s25,h,ks25⟩ := bindL h
     refine T.joinF (G:=Nat × Nat) (fun gh => True) (fun gh => [(11,I s18.2.2.1),(10,Bo s25.2.2.1),(9,hS false 1 gh.2 1 s25.2.1.length),(8,I s25.2.2.2),(7,hS false 0 gh.1 1 s25.1.length),(6,eL ZEv.c v1),(0,eL (cL ZIn.c) p),(1,eL cI before)]) (fun gh => [bE false gh.1 1 3 (s25.1.map cI),bE false gh.2 1 3 (s25.2.1.map cI)]) (fun gh hg => ?_) ?_
     ·clear h
      have h := ks25
      clear ks25
      obtain ⟨u39,u40⟩ := gh
      refine T.region (oN (EvN.mv (I s18.2.2.1) rfl) ?_)
      obtain ⟨g41,h⟩ := gdW h
      refine oN (EvN.add rfl rfl g41) (oN (EvN.asg (I (s18.2.2.1 + (1 : Int))) rfl) (TO.nil ?_))
      obtain rfl := osi h
      exact ⟨(s25.1,s25.2.1,(s18.2.2.1 + (1 : Int)),s25.2.2.1,s25.2.2.2),(u39,u40),rfl,trivial,cutW rfl (wkC rfl (wkC rfl (wkC rfl (wkC rfl (wkC rfl (wkC rfl (wkC rfl (wkC rfl wkN))))))))⟩
     ·clear ks25
      refine T.block (T.seq (T.seq (T.drawF (fun i => [([],false),([],false),([],false),([0],false),([],false),([],false),([],false),([],false),([],false),([],false)].getD i ([],false)) (by kernel_rfl) (by kernel_rfl) (fN rfl (EvN.mv (hS false 0 u20 1 s18.1.length) rfl) (fN rfl (EvN.mv (I s18.2.2.1) rfl) ?_)))))
      obtain ⟨g26,h⟩ := gdD h
      refine fN rfl (EvN.ixO (g:=false) sl23 rfl rfl nofun g26) (fR [0] rfl (fun G hG => EvA.ldO (g:=false) (l:=s18.1) (I d0) ty3 rfl (hG.a0 rfl) nofun (toNat_lt' rfl g26) rfl) (fN rfl (EvN.mv (eL (cL ZIn.c) p) rfl) (fN rfl (EvN.mv (I s18.2.2.1) rfl) ?_)))
      obtain ⟨g27,h⟩ := gdD h
      refine fN rfl (EvN.ixL sl27 rfl rfl g27 (fun _ => rfl)) (fN rfl (EvN.loadfp (eL ZIn.c (p.getD s18.2.2.1.toNat default)) ty57 rfl rfl) (fN rfl (EvN.lenL sl57 rfl) (fN rfl (EvN.ieq rfl rfl) (TF.nil ?_))))
      refine T.cond rfl (fun q28 => ?_) (fun q28 => ?_)
      ·replace h := condT q28 h
       refine T.exit ?_
       obtain rfl := osi h
       exact ⟨(u20,u21),trivial,cutW rfl (wkC rfl (wkC rfl (wkC rfl (wkC rfl (wkC rfl (wkC rfl (wkC rfl (wkC rfl wkN))))))))⟩
      ·replace h := condF q28 h
       refine T.skip (T.seq (T.clean (H0:=[bE false u20 1 3 (s18.1.map cI),bE false u21 1 3 (s18.2.1.map cI)]) (e0:=envOf [(11,I s18.2.2.1),(10,Bo s18.2.2.2.1),(9,hS false 1 u21 1 s18.2.1.length),(8,I s18.2.2.2.2),(7,hS false 0 u20 1 s18.1.length),(6,eL ZEv.c v1),(0,eL (cL ZIn.c) p),(1,eL cI before)]) rfl (wkC rfl (wkC rfl (wkC rfl (wkC rfl (wkC rfl (wkC rfl (wkC rfl (wkC rfl wkN)))))))) (T.region (oN (EvN.mv (eL ZEv.c v1) rfl) (oN (EvN.mv (I s18.2.2.1) rfl) (oN (EvN.mv (hS false 0 u20 1 s18.1.length) rfl) (oN (EvN.mv (I s18.2.2.1) rfl) ?_)))))))
       refine oN (EvN.ixO (g:=false) sl23 rfl rfl nofun g26) (oA (EvA.ldO (g:=false) (l:=s18.1) (I d0) ty3 rfl rfl nofun (toNat_lt' rfl g26) rfl) ?_)
       obtain ⟨v29,cv29,h⟩ := bindL h
       refine oN (EvN.call rfl rfl rfl (F_spec_l13Event_P v1 s18.2.2.1 d0 cv29) rfl) (oN (EvN.asg (I v29) rfl) (TO.nil (T.seq (T.seq (T.clean (H0:=[bE false u20 1 3 (s18.1.map cI),bE false u21 1 3 (s18.2.1.map cI)]) (e0:=envOf [(12,I v29),(11,I s18.2.2.1),(10,Bo s18.2.2.2.1),(9,hS false 1 u21 1 s18.2.1.length),(8,I s18.2.2.2.2),(7,hS false 0 u20 1 s18.1.length),(6,eL ZEv.c v1),(0,eL (cL ZIn.c) p),(1,eL cI before)]) rfl (wkC rfl (wkC rfl (wkC rfl (wkC rfl (wkC rfl (wkC rfl (wkC rfl (wkC rfl (wkC rfl wkN))))))))) (T.region (oN (EvN.mv (I v29) rfl) ?_)))))))
       refine oN (EvN.ige rfl rfl) (oN (EvN.mv (Bo (decide ((0 : Int) <= v29))) rfl) ?_)
       obtain ⟨s30,h,ks30⟩ := bindL h
       refine TO.joinF (G:=Unit) 6 (fun _ => True) (fun _ => [(57,Bo s30),(12,I v29),(11,I s18.2.2.1),(10,Bo s18.2.2.2.1),(9,hS false 1 u21 1 s18.2.1.length),(8,I s18.2.2.2.2),(7,hS false 0 u20 1 s18.1.length),(6,eL ZEv.c v1),(0,eL (cL ZIn.c) p),(1,eL cI before)]) (fun _ => [bE false u20 1 3 (s18.1.map cI),bE false u21 1 3 (s18.2.1.map cI)]) ?_ (fun js30 => ?_)
       rotate_left
       ·clear ks30
        rcases bifL h with ⟨q31,h⟩ | ⟨q31,h⟩
        ·refine gN rfl q31 (EvN.mv (eL cI before) rfl) (gN rfl q31 (EvN.mv (I s18.2.2.2.2) rfl) (gN rfl q31 (EvN.mv (I v29) rfl) ?_))
         obtain ⟨v32,cv32,h⟩ := bindL h
         refine gN rfl q31 (EvN.call rfl rfl rfl (F_spec_l13Ready_P before s18.2.2.2.2 v29 cv32) rfl) (gN rfl q31 (EvN.not rfl) (oN (EvN.pickT rfl q31 (Bo (!v32)) rfl) ?_))
         obtain rfl := osi h
         exact js30 _ _ ⟨(),trivial,cutW rfl (wkC rfl (wkC rfl (wkC rfl (wkC rfl (wkC rfl (wkC rfl (wkC rfl (wkC rfl (wkC rfl (wkC rfl wkN))))))))))⟩
        ·refine gS rfl q31 (gS rfl q31 (gS rfl q31 (gS rfl q31 (gS rfl q31 (oN (EvN.pickF rfl q31 (Bo false) rfl) ?_)))))
         obtain rfl := osi h
         exact js30 _ _ ⟨(),trivial,cutW rfl (wkC rfl (wkC rfl (wkC rfl (wkC rfl (wkC rfl (wkC rfl (wkC rfl (wkC rfl (wkC rfl (wkC rfl wkN))))))))))⟩
       ·intro _ _
        replace h := ks30
        clear ks30
        refine TO.nil ?_
        refine T.cond rfl (fun q33 => ?_) (fun q33 => ?_)
        ·replace h := condT q33 h
         refine T.exit ?_
         obtain rfl := osi h
         exact ⟨(u20,u21),trivial,cutW rfl (wkC rfl (wkC rfl (wkC rfl (wkC rfl (wkC rfl (wkC rfl (wkC rfl (wkC rfl wkN))))))))⟩
        ·replace h := condF q33 h
         refine T.skip ?_
         obtain ⟨s34,h,ks34⟩ := bindL h
         refine T.joinF (G:=Unit) (fun gh => True) (fun gh => [(8,I s34),(11,I s18.2.2.1),(9,hS false 1 u21 1 s18.2.1.length),(7,hS false 0 u20 1 s18.1.length),(6,eL ZEv.c v1),(0,eL (cL ZIn.c) p),(1,eL cI before)]) (fun gh => [bE false u20 1 3 (s18.1.map cI),bE false u21 1 3 (s18.2.1.map cI)]) (fun gh hg => ?_) ?_
         ·clear h
          have h := ks34
          clear ks34
          refine T.seq (T.region (oN (EvN.mv (hS false 0 u20 1 s18.1.length) rfl) (oN (EvN.mv (I s18.2.2.1) rfl) (oN (EvN.mv (hS false 0 u20 1 s18.1.length) rfl) (oN (EvN.mv (I s18.2.2.1) rfl) (oN (EvN.ixO (g:=false) sl23 rfl rfl nofun g26) (oA (EvA.ldO (g:=false) (l:=s18.1) (I d0) ty3 rfl rfl nofun (toNat_lt' rfl g26) rfl) ?_)))))))
          obtain ⟨g37,h⟩ := gdW h
          refine oN (EvN.add rfl rfl g37) (oN (EvN.ixO (g:=false) sl23 rfl rfl nofun g26) (oV (EvA.stO (g:=false) (l:=s18.1) (cs:=[I (d0 + (1 : Int))]) (d0 + (1 : Int)) ty3 rfl rfl rfl nofun (toNat_lt' rfl g26) rfl rfl rfl) (TO.nil (T.seq (T.clean (H0:=[bE false u20 1 3 ((s18.1.set s18.2.2.1.toNat (d0 + (1 : Int))).map cI),bE false u21 1 3 (s18.2.1.map cI)]) (e0:=envOf [(8,I s34),(11,I s18.2.2.1),(9,hS false 1 u21 1 s18.2.1.length),(7,hS false 0 u20 1 s18.1.length),(6,eL ZEv.c v1),(0,eL (cL ZIn.c) p),(1,eL cI before)]) rfl (wkC rfl (wkC rfl (wkC rfl (wkC rfl (wkC rfl (wkC rfl (wkC rfl wkN))))))) (T.region (oN (EvN.mv (hS false 1 u21 1 s18.2.1.length) rfl) ?_)))))))
          refine oN (EvN.mv (I s18.2.2.1) rfl) (oN (EvN.mkF (c:=cI) ([s18.2.2.1] : List Int) [[I s18.2.2.1]] sl23 rfl rfl rfl (fun _ => rfl) (fun _ => rfl) rfl) ?_)
          obtain ⟨g38,h⟩ := gdL h
          refine oA (EvA.app1 (g:=false) (l:=s18.2.1) s18.2.2.1 sl23 (by kernel_rfl) rfl rfl rfl nofun (SrcOk.fz (l:=([s18.2.2.1] : List Int)) rfl (fun _ => rfl)) g38) (oN (EvN.asg (hS false 1 (u21 + 1) 1 ((s18.2.1 ++ [s18.2.2.1]).length)) rfl) (TO.nil (T.region (oN (EvN.asg (Bo true) rfl) (TO.nil ?_)))))
          obtain rfl := osi h
          exact ⟨(u20,u21 + 1),trivial,cutW rfl (wkC rfl (wkC rfl (wkC rfl (wkC rfl (wkC (congrArg (hS false 0 u20 1) (by simp : s18.1.length = (s18.1.set s18.2.2.1.toNat (d0 + (1 : Int))).length)) (wkC rfl (wkC rfl (wkC rfl wkN))))))))⟩
         ·clear ks34
          refine T.seq (T.region (oN (EvN.mv (I v29) rfl) (oN (EvN.ige rfl rfl) (TO.nil ?_))))
          refine T.cond rfl (fun q35 => ?_) (fun q35 => ?_)
          ·replace h := condT q35 h
           refine T.region (oN (EvN.mv (I s18.2.2.2.2) rfl) (oN (EvN.mv (I v29) rfl) ?_))
           obtain ⟨g36,h⟩ := gdD h
           refine oN (EvN.shl rfl rfl g36) (oN (EvN.bor rfl rfl) (oN (EvN.asg (I (bOr .i64 s18.2.2.2.2 (bShl .i64 (1 : Int) v29))) rfl) (TO.nil ?_)))
           obtain rfl := osi h
           exact ⟨(),trivial,cutW rfl (wkC rfl (wkC rfl (wkC rfl (wkC rfl (wkC rfl (wkC rfl (wkC rfl wkN)))))))⟩
          ·replace h := condF q35 h
           refine T.skip ?_
           obtain rfl := osi h
           exact ⟨(),trivial,cutW rfl (wkC rfl (wkC rfl (wkC rfl (wkC rfl (wkC rfl (wkC rfl (wkC rfl wkN)))))))⟩
    ·replace h := condF q24 h
     refine T.exit ?_
     refine ⟨_,(osi h).symm,fun h => ?_⟩
     replace h := congrArg some h
     obtain rfl := osi h
     exact ⟨(s18.1,s18.2.1,s18.2.2.2.1,s18.2.2.2.2),(u20,u21),rfl,trivial,cutW rfl (wkC rfl (wkC rfl (wkC rfl (wkC rfl (wkC rfl (wkC rfl (wkC rfl wkN)))))))⟩
  ·replace h := condF q13 h
   refine T.exit ?_
   refine ⟨_,(osi h).symm,fun h => ?_⟩
   replace h := congrArg some h
   obtain rfl := osi h
   exact ⟨(u11,u12),trivial,cutW rfl (wkC rfl (wkC rfl (wkC rfl wkN)))⟩
theorem F_spec_ScheduleOf_P (p : List (List ZIn)) (x : ZEx) {q : (List Int) × Bool} (h : F_spec_ScheduleOf p x = some q) : PCall Try.prog 24 [eL (cL ZIn.c) p,.agg (ZEx.c x)] (.tup [eL cI q.1,Bo q.2]) := by
 refine PCall.mkT Try.func24 rfl (by kernel_rfl) rfl (by kernel_rfl) (e0:=envOf [(0,eL (cL ZIn.c) p),(1,.agg (ZEx.c x))]) (wkC rfl (wkC rfl wkN)) (T.seq (T.region (oN (EvN.bxF [eL cI x.From,eL (cL cI) x.Order] rfl rfl rfl) (oN (EvN.asg (.nil) rfl) (oN (EvN.asg (Bo false) rfl) (TO.nil (T.seq ?_)))))))
 refine T.seq (T.region (oN (EvN.mv (eL (cL ZIn.c) p) rfl) (oN (EvN.loadfp (.agg (ZEx.c x)) ty43 rfl rfl) ?_)))
 obtain ⟨v1,cv1,h⟩ := bindL h
 refine oN (EvN.call rfl rfl rfl (F_spec_ExecValid_P p x cv1) rfl) (oN (EvN.not rfl) (TO.nil ?_))
 refine T.cond rfl (fun q2 => ?_) (fun q2 => ?_)
 ·replace h := condT q2 h
  refine T.seq (T.clean (H0:=[]) (e0:=envOf []) rfl wkN (T.region (oN (EvN.mkF (c:=cI) ([] : List Int) [] sl23 rfl rfl rfl (fun _ => rfl) (fun _ => rfl) rfl) (oN (EvN.asg (eL cI ([] : List Int)) rfl) (oN (EvN.asg (Bo false) rfl) (TO.nil (T.ret ?_)))))))
  obtain rfl := osi h
  repeat (first|refine retS ?_|refine retB ?_)
  exact Fin.ret (vs:=[eL cI ([] : List Int),Bo false]) (.cons (.tmp rfl) (.cons (.tmp rfl) .nil)) (.tupL (.cons (.of_isF 9 _ rfl) (.cons (.of_isF 9 _ rfl) .nil)))
 ·replace h := condF q2 h
  refine T.skip (T.seq (T.clean (H0:=[]) (e0:=envOf [(3,.fp (ZEx.c x) 0),(0,eL (cL ZIn.c) p)]) rfl (wkC rfl (wkC rfl wkN)) (T.region (oN (EvN.mv (eL (cL ZIn.c) p) rfl) (oN (EvN.mv (eL (cL ZIn.c) p) rfl) (oN (EvN.loadfp (.agg (ZEx.c x)) ty43 rfl rfl) ?_))))))
  obtain ⟨v3,cv3,h⟩ := bindL h
  refine oN (EvN.call rfl rfl rfl (F_spec_l13Before_P p x cv3) rfl) ?_
  obtain ⟨v4,cv4,h⟩ := bindL h
  refine oN (EvN.call rfl rfl rfl (F_spec_l13Sort_P p v3 cv4) rfl) (oN (EvN.ext (eL cI v4.1) rfl rfl) (oN (EvN.ext (Bo v4.2) rfl rfl) (oN (EvN.asg (eL cI v4.1) rfl) (oN (EvN.asg (Bo v4.2) rfl) (TO.nil (T.ret ?_))))))
  obtain rfl := osi h
  repeat (first|refine retS ?_|refine retB ?_)
  exact Fin.ret (vs:=[eL cI v4.1,Bo v4.2]) (.cons (.tmp rfl) (.cons (.tmp rfl) .nil)) (.tupL (.cons (.of_isF 9 _ rfl) (.cons (.of_isF 9 _ rfl) .nil)))
theorem F_spec_LeastSchedule_P (p : List (List ZIn)) (schedule : List Int) {q : (List Int) × Bool} (h : F_spec_LeastSchedule p schedule = some q) : PCall Try.prog 37 [eL (cL ZIn.c) p,eL cI schedule] (.tup [eL cI q.1,Bo q.2]) := by
 refine PCall.mkT Try.func37 rfl (by kernel_rfl) rfl (by kernel_rfl) (e0:=envOf [(0,eL (cL ZIn.c) p),(1,eL cI schedule)]) (wkC rfl (wkC rfl wkN)) (T.seq (T.region (oN (EvN.asg (.nil) rfl) (oN (EvN.asg (Bo false) rfl) (TO.nil (T.seq (T.region ?_)))))))
 refine oN (EvN.mv (eL (cL ZIn.c) p) rfl) (oN (EvN.mv (eL cI schedule) rfl) ?_)
 obtain ⟨v1,cv1,h⟩ := bindL h
 refine oN (EvN.call rfl rfl rfl (F_spec_ExecOf_P p schedule cv1) rfl) (oN (EvN.mv (.tup [.agg (ZEx.c v1.1),Bo v1.2]) rfl) (oN (EvN.ext (.agg (ZEx.c v1.1)) rfl rfl) (oN (EvN.ext (Bo v1.2) rfl rfl) (oA (EvA.al zs43 rfl rfl) (oV (EvA.st (cs:=[eL cI v1.1.From,eL (cL cI) v1.1.Order]) ⟨0,2,43,[[eL cI v1.1.From,eL (cL cI) v1.1.Order]]⟩ ty43 rfl rfl rfl rfl rfl rfl rfl rfl rfl) (oN (EvN.asg (Bo v1.2) rfl) (TO.nil ?_)))))))
 refine T.seq (T.seq (T.clean (H0:=[some ⟨0,2,43,[[eL cI v1.1.From,eL (cL cI) v1.1.Order]]⟩]) (e0:=envOf [(7,Bo v1.2),(6,.hp 0 0 2 0 0),(0,eL (cL ZIn.c) p)]) rfl (wkC rfl (wkC rfl (wkC rfl wkN))) (T.region (oN (EvN.mv (Bo v1.2) rfl) (oN (EvN.not rfl) (TO.nil ?_))))))
 refine T.cond rfl (fun q2 => ?_) (fun q2 => ?_)
 ·replace h := condT q2 h
  refine T.seq (T.region (oN (EvN.mkF (c:=cI) ([] : List Int) [] sl23 rfl rfl rfl (fun _ => rfl) (fun _ => rfl) rfl) (oN (EvN.asg (eL cI ([] : List Int)) rfl) (oN (EvN.asg (Bo false) rfl) (TO.nil (T.ret ?_))))))
  obtain rfl := osi h
  repeat (first|refine retS ?_|refine retB ?_)
  exact Fin.ret (vs:=[eL cI ([] : List Int),Bo false]) (.cons (.tmp rfl) (.cons (.tmp rfl) .nil)) (.tupL (.cons (.of_isF 9 _ rfl) (.cons (.of_isF 9 _ rfl) .nil)))
 ·replace h := condF q2 h
  refine T.skip (T.seq (T.region (oN (EvN.mv (eL (cL ZIn.c) p) rfl) (oA (EvA.loadhp (.agg [eL cI v1.1.From,eL (cL cI) v1.1.Order]) ty43 rfl rfl rfl rfl rfl rfl) ?_))))
  obtain ⟨v3,cv3,h⟩ := bindL h
  refine oN (EvN.call rfl rfl rfl (F_spec_ScheduleOf_P p (⟨v1.1.From,v1.1.Order⟩ : ZEx) cv3) rfl) (oN (EvN.ext (eL cI v3.1) rfl rfl) (oN (EvN.ext (Bo v3.2) rfl rfl) (oN (EvN.asg (eL cI v3.1) rfl) (oN (EvN.asg (Bo v3.2) rfl) (TO.nil (T.ret ?_))))))
  obtain rfl := osi h
  repeat (first|refine retS ?_|refine retB ?_)
  exact Fin.ret (vs:=[eL cI v3.1,Bo v3.2]) (.cons (.tmp rfl) (.cons (.tmp rfl) .nil)) (.tupL (.cons (.of_isF 9 _ rfl) (.cons (.of_isF 9 _ rfl) .nil)))
end Go.Proofs.Ytlmjnhnpahicmaa
