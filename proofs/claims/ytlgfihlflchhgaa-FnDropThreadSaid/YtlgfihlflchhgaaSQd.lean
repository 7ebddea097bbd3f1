/-
 Functions over plain values, as the program's code computes; printed by lift.py. No conditions.
-/
import Derived.Test.YtlgfihlflchhgaaSt
namespace Go.Proofs.Ytlgfihlflchhgaa
open Go.RowKit
set_option maxRecDepth 100000
noncomputable def F_spec_l17Open (code:List Int):Option Xspec_l17Rd:=
 Option.bind (
  bif decide ((2000:Int)<(code.length:Int)) then
   gd (decide (0<=(0:Int)/\(0:Int)<=(2000:Int)/\(2000:Int)<=(code.length:Int))) <|
   some ((code.drop (0:Int).toNat).take ((2000:Int).toNat-(0:Int).toNat))
  else
   some code
 ) fun s1=>
 some (⟨s1,(0:Int)⟩:Xspec_l17Rd)
noncomputable def F_spec_l17Rd_pick (r_:Xspec_l17Rd) (n:Int):Option (Xspec_l17Rd×Int):=
 gd (inK .i64 (r_.p+(1:Int))) <|
 Option.bind (bif decide (n<(1:Int)) then
  some true
 else
  some ((r_.b.length:Int)==(0:Int))
 ) fun s2=>
 bif s2 then
  some ((⟨r_.b,(r_.p+(1:Int))⟩:Xspec_l17Rd),(0:Int))
 else
  gd (inK .i64 ((r_.p+(1:Int))-(1:Int))) <|
  bif decide (((r_.p+(1:Int))-(1:Int))<(r_.b.length:Int)) then
   gd (decide (0<=((r_.p+(1:Int))-(1:Int))/\((r_.p+(1:Int))-(1:Int))<(r_.b.length:Int))) <|
   gd (inK .i64 (r_.b.getD ((r_.p+(1:Int))-(1:Int)).toNat default)) <|
   gd (decide (n≠0)) <|
   some ((⟨r_.b,(r_.p+(1:Int))⟩:Xspec_l17Rd),((r_.b.getD ((r_.p+(1:Int))-(1:Int)).toNat default).tmod n))
  else
   gd (decide ((r_.b.length:Int)≠0)) <|
   gd (decide (0<=(((r_.p+(1:Int))-(1:Int)).tmod (r_.b.length:Int))/\(((r_.p+(1:Int))-(1:Int)).tmod (r_.b.length:Int))<(r_.b.length:Int))) <|
   gd (inK .i64 (r_.b.getD (((r_.p+(1:Int))-(1:Int)).tmod (r_.b.length:Int)).toNat default)) <|
   gd (inK .i64 ((r_.b.getD (((r_.p+(1:Int))-(1:Int)).tmod (r_.b.length:Int)).toNat default)*(131:Int))) <|
   gd (inK .i64 (((r_.p+(1:Int))-(1:Int))*(7:Int))) <|
   gd (inK .i64 ((((r_.p+(1:Int))-(1:Int))*(7:Int))+(3:Int))) <|
   gd (decide (0<=(((((r_.p+(1:Int))-(1:Int))*(7:Int))+(3:Int)).tmod (r_.b.length:Int))/\(((((r_.p+(1:Int))-(1:Int))*(7:Int))+(3:Int)).tmod (r_.b.length:Int))<(r_.b.length:Int))) <|
   gd (inK .i64 (r_.b.getD (((((r_.p+(1:Int))-(1:Int))*(7:Int))+(3:Int)).tmod (r_.b.length:Int)).toNat default)) <|
   gd (inK .i64 ((r_.b.getD (((((r_.p+(1:Int))-(1:Int))*(7:Int))+(3:Int)).tmod (r_.b.length:Int)).toNat default)*(1117:Int))) <|
   gd (inK .i64 (((r_.b.getD (((r_.p+(1:Int))-(1:Int)).tmod (r_.b.length:Int)).toNat default)*(131:Int))+((r_.b.getD (((((r_.p+(1:Int))-(1:Int))*(7:Int))+(3:Int)).tmod (r_.b.length:Int)).toNat default)*(1117:Int)))) <|
   gd (inK .i64 (((r_.p+(1:Int))-(1:Int))*(29:Int))) <|
   gd (inK .i64 ((((r_.b.getD (((r_.p+(1:Int))-(1:Int)).tmod (r_.b.length:Int)).toNat default)*(131:Int))+((r_.b.getD (((((r_.p+(1:Int))-(1:Int))*(7:Int))+(3:Int)).tmod (r_.b.length:Int)).toNat default)*(1117:Int)))+(((r_.p+(1:Int))-(1:Int))*(29:Int)))) <|
   gd (inK .i64 (((r_.p+(1:Int))-(1:Int)).tdiv (r_.b.length:Int))) <|
   gd (inK .i64 ((((r_.p+(1:Int))-(1:Int)).tdiv (r_.b.length:Int))*(53:Int))) <|
   gd (inK .i64 (((((r_.b.getD (((r_.p+(1:Int))-(1:Int)).tmod (r_.b.length:Int)).toNat default)*(131:Int))+((r_.b.getD (((((r_.p+(1:Int))-(1:Int))*(7:Int))+(3:Int)).tmod (r_.b.length:Int)).toNat default)*(1117:Int)))+(((r_.p+(1:Int))-(1:Int))*(29:Int)))+((((r_.p+(1:Int))-(1:Int)).tdiv (r_.b.length:Int))*(53:Int)))) <|
   gd (decide ((64:Int)≠0)) <|
   gd (inK .i64 ((((((r_.b.getD (((r_.p+(1:Int))-(1:Int)).tmod (r_.b.length:Int)).toNat default)*(131:Int))+((r_.b.getD (((((r_.p+(1:Int))-(1:Int))*(7:Int))+(3:Int)).tmod (r_.b.length:Int)).toNat default)*(1117:Int)))+(((r_.p+(1:Int))-(1:Int))*(29:Int)))+((((r_.p+(1:Int))-(1:Int)).tdiv (r_.b.length:Int))*(53:Int))).tdiv (64:Int))) <|
   Option.bind (some (bXor .i64 (((((r_.b.getD (((r_.p+(1:Int))-(1:Int)).tmod (r_.b.length:Int)).toNat default)*(131:Int))+((r_.b.getD (((((r_.p+(1:Int))-(1:Int))*(7:Int))+(3:Int)).tmod (r_.b.length:Int)).toNat default)*(1117:Int)))+(((r_.p+(1:Int))-(1:Int))*(29:Int)))+((((r_.p+(1:Int))-(1:Int)).tdiv (r_.b.length:Int))*(53:Int))) ((((((r_.b.getD (((r_.p+(1:Int))-(1:Int)).tmod (r_.b.length:Int)).toNat default)*(131:Int))+((r_.b.getD (((((r_.p+(1:Int))-(1:Int))*(7:Int))+(3:Int)).tmod (r_.b.length:Int)).toNat default)*(1117:Int)))+(((r_.p+(1:Int))-(1:Int))*(29:Int)))+((((r_.p+(1:Int))-(1:Int)).tdiv (r_.b.length:Int))*(53:Int))).tdiv (64:Int)))) fun w27=>
   gd (decide (n≠0)) <|
   some ((⟨r_.b,(r_.p+(1:Int))⟩:Xspec_l17Rd),(w27.tmod n))
noncomputable def F_spec_l17Rd_num (r_:Xspec_l17Rd) (list:List Int):Option (Xspec_l17Rd×Int):=
 Option.bind (F_spec_l17Rd_pick (⟨r_.b,r_.p⟩:Xspec_l17Rd) (list.length:Int)) fun v1=>
 gd (decide (0<=v1.2/\v1.2<(list.length:Int))) <|
 some ((⟨v1.1.b,v1.1.p⟩:Xspec_l17Rd),(list.getD v1.2.toNat default))
end Go.Proofs.Ytlgfihlflchhgaa
