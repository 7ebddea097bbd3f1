/-
 Structures of the program as plain ones; printed by lift.py. No conditions.
-/
import Derived.Test.YtlgfihlflchhgaaGH
namespace Go.Proofs.Ytlgfihlflchhgaa
open Go.RowKit
set_option maxRecDepth 100000
structure ZIn where
 Op:Int
 Loc:Int
 Reg:Int
 Val:Int
instance:Inhabited ZIn:=⟨⟨default,default,default,default⟩⟩
def ZIn.c (x:ZIn):List AV:=[I x.Op,I x.Loc,I x.Reg,I x.Val]
theorem ZIn.len (x:ZIn):(ZIn.c x).length=4:=rfl
theorem ZIn.isF (x:ZIn):(ZIn.c x).all (isF 9)=true:=rfl
structure Xlaws_Instr where
 Op:Int
 Loc:Int
 Reg:Int
 Val:Int
instance:Inhabited Xlaws_Instr:=⟨⟨default,default,default,default⟩⟩
def Xlaws_Instr.c (x:Xlaws_Instr):List AV:=[I x.Op,I x.Loc,I x.Reg,I x.Val]
theorem Xlaws_Instr.len (x:Xlaws_Instr):(Xlaws_Instr.c x).length=4:=rfl
theorem Xlaws_Instr.isF (x:Xlaws_Instr):(Xlaws_Instr.c x).all (isF 9)=true:=rfl
structure Z3b where
 x0:Int
 x1:Int
 x2:Int
instance:Inhabited Z3b:=⟨⟨default,default,default⟩⟩
def Z3b.c (x:Z3b):List AV:=[Y x.x0,Y x.x1,Y x.x2]
theorem Z3b.len (x:Z3b):(Z3b.c x).length=3:=rfl
theorem Z3b.isF (x:Z3b):(Z3b.c x).all (isF 9)=true:=rfl
def Z3b.get (a:Z3b) (q:Int):Int:=if q=0 then a.x0 else if q=1 then a.x1 else a.x2
def Z3b.set (a:Z3b) (q:Int) (v:Int):Z3b:=if q=0 then ⟨v,a.x1,a.x2⟩ else if q=1 then ⟨a.x0,v,a.x2⟩ else ⟨a.x0,a.x1,v⟩
structure Z33 where
 x0:Z3b
 x1:Z3b
 x2:Z3b
instance:Inhabited Z33:=⟨⟨default,default,default⟩⟩
def Z33.c (x:Z33):List AV:=[Y x.x0.x0,Y x.x0.x1,Y x.x0.x2,Y x.x1.x0,Y x.x1.x1,Y x.x1.x2,Y x.x2.x0,Y x.x2.x1,Y x.x2.x2]
theorem Z33.len (x:Z33):(Z33.c x).length=9:=rfl
theorem Z33.isF (x:Z33):(Z33.c x).all (isF 9)=true:=rfl
def Z33.get (a:Z33) (q:Int):Z3b:=if q=0 then a.x0 else if q=1 then a.x1 else a.x2
def Z33.set (a:Z33) (q:Int) (v:Z3b):Z33:=if q=0 then ⟨v,a.x1,a.x2⟩ else if q=1 then ⟨a.x0,v,a.x2⟩ else ⟨a.x0,a.x1,v⟩
structure ZVa where
 p:List (List ZIn)
 pc:Z3b
 reg:Z33
 mem:Z3b
instance:Inhabited ZVa:=⟨⟨default,default,default,default⟩⟩
def ZVa.c (x:ZVa):List AV:=[eL (cL ZIn.c) x.p,Y x.pc.x0,Y x.pc.x1,Y x.pc.x2,Y x.reg.x0.x0,Y x.reg.x0.x1,Y x.reg.x0.x2,Y x.reg.x1.x0,Y x.reg.x1.x1,Y x.reg.x1.x2,Y x.reg.x2.x0,Y x.reg.x2.x1,Y x.reg.x2.x2,Y x.mem.x0,Y x.mem.x1,Y x.mem.x2]
theorem ZVa.len (x:ZVa):(ZVa.c x).length=16:=rfl
theorem ZVa.isF (x:ZVa):(ZVa.c x).all (isF 9)=true:=rfl
structure ZSq where
 values:ZVa
instance:Inhabited ZSq:=⟨⟨default⟩⟩
def ZSq.c (x:ZSq):List AV:=[eL (cL ZIn.c) x.values.p,Y x.values.pc.x0,Y x.values.pc.x1,Y x.values.pc.x2,Y x.values.reg.x0.x0,Y x.values.reg.x0.x1,Y x.values.reg.x0.x2,Y x.values.reg.x1.x0,Y x.values.reg.x1.x1,Y x.values.reg.x1.x2,Y x.values.reg.x2.x0,Y x.values.reg.x2.x1,Y x.values.reg.x2.x2,Y x.values.mem.x0,Y x.values.mem.x1,Y x.values.mem.x2]
theorem ZSq.len (x:ZSq):(ZSq.c x).length=16:=rfl
theorem ZSq.isF (x:ZSq):(ZSq.c x).all (isF 9)=true:=rfl
structure Xspec_l17Rd where
 b:List Int
 p:Int
instance:Inhabited Xspec_l17Rd:=⟨⟨default,default⟩⟩
def Xspec_l17Rd.c (x:Xspec_l17Rd):List AV:=[eL cY x.b,I x.p]
theorem Xspec_l17Rd.len (x:Xspec_l17Rd):(Xspec_l17Rd.c x).length=2:=rfl
theorem Xspec_l17Rd.isF (x:Xspec_l17Rd):(Xspec_l17Rd.c x).all (isF 9)=true:=rfl
end Go.Proofs.Ytlgfihlflchhgaa
