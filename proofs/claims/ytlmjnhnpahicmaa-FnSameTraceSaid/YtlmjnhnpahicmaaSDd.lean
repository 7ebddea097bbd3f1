/-
 Functions over plain values, as the program's code computes; printed by lift.py. No conditions.
-/
import Derived.Test.YtlmjnhnpahicmaaSt
import Derived.Test.YtlmjnhnpahicmaaMud
import Derived.Test.YtlmjnhnpahicmaaSQd
import Derived.Test.YtlmjnhnpahicmaaSRd
namespace Go.Proofs.Ytlmjnhnpahicmaa
open Go.RowKit
set_option maxRecDepth 100000
noncomputable def F_spec_l3Schedule_L6 (p:List (List ZIn)):((List Int)×Int×Int)->Option (((List Int)×Int×Int) ⊕ ((List Int)×Int)):=fun s5=>
 bif decide (s5.2.1<(p.length:Int)) then
  gd (decide (0<=s5.2.1/\s5.2.1<(p.length:Int))) <|
  gd (capOK (s5.1.length+1) 8) <|
  gd (inK .i64 (s5.2.2+((p.getD s5.2.1.toNat default).length:Int))) <|
  gd (inK .i64 (s5.2.1+(1:Int))) <|
  some (.inl ((s5.1++[((p.getD s5.2.1.toNat default).length:Int)]),(s5.2.1+(1:Int)),(s5.2.2+((p.getD s5.2.1.toNat default).length:Int))))
 else
  some (.inr (s5.1,s5.2.2))
noncomputable def F_spec_l3Schedule_L29 (p:List (List ZIn)) (s19:(List Int)×Int×(List Int)×(List Int)):Int->Option (Int ⊕ Int):=fun s28=>
 gd (decide (0<=s28/\s28<(s19.2.2.1.length:Int))) <|
 bif ((s19.2.2.1.getD s28.toNat default)==(0:Int)) then
  gd (inK .i64 (s28+(1:Int))) <|
  gd (decide ((p.length:Int)≠0)) <|
  some (.inl ((s28+(1:Int)).tmod (p.length:Int)))
 else
  some (.inr s28)
noncomputable def F_spec_l3Schedule_L20 (p:List (List ZIn)) (s1:(List Int)×Int):((List Int)×Int×(List Int)×(List Int))->Option (((List Int)×Int×(List Int)×(List Int)) ⊕ ((List Int)×Int×(List Int)×(List Int))):=fun s19=>
 bif decide ((s19.2.2.2.length:Int)<s1.2) then
  Option.bind (F_spec_l17Rd_pick (⟨s19.1,s19.2.1⟩:Xspec_l17Rd) (p.length:Int)) fun v24=>
  Option.bind (
   loopO (F_spec_l3Schedule_L29 p s19) v24.2
  ) fun s25=>
  gd (decide (0<=s25/\s25<(s19.2.2.1.length:Int))) <|
  gd (inK .i64 ((s19.2.2.1.getD s25.toNat default)-(1:Int))) <|
  gd (capOK (s19.2.2.2.length+1) 8) <|
  some (.inl (v24.1.b,v24.1.p,(s19.2.2.1.set s25.toNat ((s19.2.2.1.getD s25.toNat default)-(1:Int))),(s19.2.2.2++[s25])))
 else
  some (.inr (s19.1,s19.2.1,s19.2.2.1,s19.2.2.2))
noncomputable def F_spec_l3Schedule (r_:Xspec_l17Rd) (p:List (List ZIn)):Option (Xspec_l17Rd×(List Int)):=
 Option.bind (
  loopO (F_spec_l3Schedule_L6 p) (([]:List Int),(0:Int),(0:Int))
 ) fun s1=>
 Option.bind (
  loopO (F_spec_l3Schedule_L20 p s1) (r_.b,r_.p,s1.1,([]:List Int))
 ) fun s14=>
 Option.bind (
  Option.bind (F_spec_l17Rd_pick (⟨s14.1,s14.2.1⟩:Xspec_l17Rd) (16:Int)) fun v40=>
  bif (v40.2==(0:Int)) then
   Option.bind (F_spec_l17Rd_num (⟨v40.1.b,v40.1.p⟩:Xspec_l17Rd) ([(0:Int),(3:Int),(-1:Int)]:List Int)) fun v42=>
   gd (capOK (s14.2.2.2.length+1) 8) <|
   some (v42.1.b,v42.1.p,(s14.2.2.2++[v42.2]))
  else
   bif (v40.2==(1:Int)) then
    bif decide ((0:Int)<(s14.2.2.2.length:Int)) then
     gd (decide (0<=(1:Int)/\(1:Int)<=(s14.2.2.2.length:Int)/\(s14.2.2.2.length:Int)<=(s14.2.2.2.length:Int))) <|
     some (v40.1.b,v40.1.p,((s14.2.2.2.drop (1:Int).toNat).take ((s14.2.2.2.length:Int).toNat-(1:Int).toNat)))
    else
     some (v40.1.b,v40.1.p,s14.2.2.2)
   else
    some (v40.1.b,v40.1.p,s14.2.2.2)
 ) fun s39=>
 some ((⟨s39.1,s39.2.1⟩:Xspec_l17Rd),s39.2.2)
noncomputable def F_spec_DrawSameTrace (code:List Int):Option ((List (List ZIn))×(List Int)×(List Int)):=
 Option.bind (F_spec_l17Open code) fun v1=>
 Option.bind (F_spec_l1Draw (⟨v1.b,v1.p⟩:Xspec_l17Rd)) fun v2=>
 Option.bind (F_spec_l3Schedule (⟨v2.1.b,v2.1.p⟩:Xspec_l17Rd) v2.2) fun v3=>
 Option.bind (F_spec_l3Schedule (⟨v3.1.b,v3.1.p⟩:Xspec_l17Rd) v2.2) fun v4=>
 some (v2.2,v3.2,v4.2)
noncomputable def F_laws_wmInts_L6 (a:List Int) (b:List Int):Int->Option (Int ⊕ (Unit ⊕ Bool)):=fun s5=>
 bif decide (s5<(a.length:Int)) then
  gd (decide (0<=s5/\s5<(a.length:Int))) <|
  gd (decide (0<=s5/\s5<(b.length:Int))) <|
  bif ((a.getD s5.toNat default) != (b.getD s5.toNat default)) then
   some (.inr (.inr false))
  else
   gd (inK .i64 (s5+(1:Int))) <|
   some (.inl (s5+(1:Int)))
 else
  some (.inr (.inl ()))
noncomputable def F_laws_wmInts (a:List Int) (b:List Int):Option Bool:=
 bif ((a.length:Int) != (b.length:Int)) then
  some false
 else
  sumK (
   loopO (F_laws_wmInts_L6 a b) (0:Int)
  ) fun s2=>
  some true
end Go.Proofs.Ytlmjnhnpahicmaa
