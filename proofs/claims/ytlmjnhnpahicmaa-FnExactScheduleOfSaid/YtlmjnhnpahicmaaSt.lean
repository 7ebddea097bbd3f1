/-
 Structures of the program as plain ones; printed by lift.py. No conditions.
-/
import Derived.Test.YtlmjnhnpahicmaaGH
namespace Go.Proofs.Ytlmjnhnpahicmaa
open Go.RowKit
set_option maxRecDepth 100000
structure ZIn where
 Op:Int
 Loc:Int
 Reg:Int
 Val:Int
instance:Inhabited ZIn:=⟨⟨default,default,default,default⟩⟩
def ZIn.c (x:ZIn):List AV:=[I x.Op,I x.Loc,I x.Reg,I x.Val]
theorem ZIn.len (x:ZIn):(ZIn.c x).length=4:=rfl
theorem ZIn.isF (x:ZIn):(ZIn.c x).all (isF 9)=true:=rfl
structure ZEx where
 From:List Int
 Order:List (List Int)
instance:Inhabited ZEx:=⟨⟨default,default⟩⟩
def ZEx.c (x:ZEx):List AV:=[eL cI x.From,eL (cL cI) x.Order]
theorem ZEx.len (x:ZEx):(ZEx.c x).length=2:=rfl
theorem ZEx.isF (x:ZEx):(ZEx.c x).all (isF 9)=true:=rfl
structure ZTr where
 p:List (List ZIn)
 x:ZEx
 number:List (List Int)
 schedule:List Int
 failed:List ((Int×Int×Int)×Bool)
structure ZTv where
 p:List (List ZIn)
 x:ZEx
 number:List (List Int)
instance:Inhabited ZTv:=⟨⟨default,default,default⟩⟩
def ZTv.c (x:ZTv):List AV:=[eL (cL ZIn.c) x.p,eL cI x.x.From,eL (cL cI) x.x.Order,eL (cL cI) x.number]
theorem ZTv.len (x:ZTv):(ZTv.c x).length=4:=rfl
theorem ZTv.isF (x:ZTv):(ZTv.c x).all (isF 9)=true:=rfl
structure Xlaws_Instr where
 Op:Int
 Loc:Int
 Reg:Int
 Val:Int
instance:Inhabited Xlaws_Instr:=⟨⟨default,default,default,default⟩⟩
def Xlaws_Instr.c (x:Xlaws_Instr):List AV:=[I x.Op,I x.Loc,I x.Reg,I x.Val]
theorem Xlaws_Instr.len (x:Xlaws_Instr):(Xlaws_Instr.c x).length=4:=rfl
theorem Xlaws_Instr.isF (x:Xlaws_Instr):(Xlaws_Instr.c x).all (isF 9)=true:=rfl
structure Xlaws_Exec where
 From:List Int
 Order:List (List Int)
instance:Inhabited Xlaws_Exec:=⟨⟨default,default⟩⟩
def Xlaws_Exec.c (x:Xlaws_Exec):List AV:=[eL cI x.From,eL (cL cI) x.Order]
theorem Xlaws_Exec.len (x:Xlaws_Exec):(Xlaws_Exec.c x).length=2:=rfl
theorem Xlaws_Exec.isF (x:Xlaws_Exec):(Xlaws_Exec.c x).all (isF 9)=true:=rfl
structure ZEv where
 Thread:Int
 Index:Int
 Loc:Int
 Reads:Bool
 Writes:Bool
instance:Inhabited ZEv:=⟨⟨default,default,default,default,default⟩⟩
def ZEv.c (x:ZEv):List AV:=[I x.Thread,I x.Index,I x.Loc,Bo x.Reads,Bo x.Writes]
theorem ZEv.len (x:ZEv):(ZEv.c x).length=5:=rfl
theorem ZEv.isF (x:ZEv):(ZEv.c x).all (isF 9)=true:=rfl
structure Z3b where
 x0:Int
 x1:Int
 x2:Int
instance:Inhabited Z3b:=⟨⟨default,default,default⟩⟩
def Z3b.c (x:Z3b):List AV:=[Y x.x0,Y x.x1,Y x.x2]
theorem Z3b.len (x:Z3b):(Z3b.c x).length=3:=rfl
theorem Z3b.isF (x:Z3b):(Z3b.c x).all (isF 9)=true:=rfl
def Z3b.get (a:Z3b) (q:Int):Int:=if q=0 then a.x0 else if q=1 then a.x1 else a.x2
def Z3b.set (a:Z3b) (q:Int) (v:Int):Z3b:=if q=0 then ⟨v,a.x1,a.x2⟩ else if q=1 then ⟨a.x0,v,a.x2⟩ else ⟨a.x0,a.x1,v⟩
structure Z33 where
 x0:Z3b
 x1:Z3b
 x2:Z3b
instance:Inhabited Z33:=⟨⟨default,default,default⟩⟩
def Z33.c (x:Z33):List AV:=[Y x.x0.x0,Y x.x0.x1,Y x.x0.x2,Y x.x1.x0,Y x.x1.x1,Y x.x1.x2,Y x.x2.x0,Y x.x2.x1,Y x.x2.x2]
theorem Z33.len (x:Z33):(Z33.c x).length=9:=rfl
theorem Z33.isF (x:Z33):(Z33.c x).all (isF 9)=true:=rfl
def Z33.get (a:Z33) (q:Int):Z3b:=if q=0 then a.x0 else if q=1 then a.x1 else a.x2
def Z33.set (a:Z33) (q:Int) (v:Z3b):Z33:=if q=0 then ⟨v,a.x1,a.x2⟩ else if q=1 then ⟨a.x0,v,a.x2⟩ else ⟨a.x0,a.x1,v⟩
structure ZVa where
 p:List (List ZIn)
 pc:Z3b
 reg:Z33
 mem:Z3b
instance:Inhabited ZVa:=⟨⟨default,default,default,default⟩⟩
def ZVa.c (x:ZVa):List AV:=[eL (cL ZIn.c) x.p,Y x.pc.x0,Y x.pc.x1,Y x.pc.x2,Y x.reg.x0.x0,Y x.reg.x0.x1,Y x.reg.x0.x2,Y x.reg.x1.x0,Y x.reg.x1.x1,Y x.reg.x1.x2,Y x.reg.x2.x0,Y x.reg.x2.x1,Y x.reg.x2.x2,Y x.mem.x0,Y x.mem.x1,Y x.mem.x2]
theorem ZVa.len (x:ZVa):(ZVa.c x).length=16:=rfl
theorem ZVa.isF (x:ZVa):(ZVa.c x).all (isF 9)=true:=rfl
structure Z3i where
 x0:Int
 x1:Int
 x2:Int
instance:Inhabited Z3i:=⟨⟨default,default,default⟩⟩
def Z3i.c (x:Z3i):List AV:=[I x.x0,I x.x1,I x.x2]
theorem Z3i.len (x:Z3i):(Z3i.c x).length=3:=rfl
theorem Z3i.isF (x:Z3i):(Z3i.c x).all (isF 9)=true:=rfl
def Z3i.get (a:Z3i) (q:Int):Int:=if q=0 then a.x0 else if q=1 then a.x1 else a.x2
def Z3i.set (a:Z3i) (q:Int) (v:Int):Z3i:=if q=0 then ⟨v,a.x1,a.x2⟩ else if q=1 then ⟨a.x0,v,a.x2⟩ else ⟨a.x0,a.x1,v⟩
structure ZSt where
 at_:List Int
 regs:List Int
 mem:List Int
 buf:List (List Int)
instance:Inhabited ZSt:=⟨⟨default,default,default,default⟩⟩
def ZSt.c (x:ZSt):List AV:=[eL cI x.at_,eL cI x.regs,eL cI x.mem,eL (cL cI) x.buf]
theorem ZSt.len (x:ZSt):(ZSt.c x).length=4:=rfl
theorem ZSt.isF (x:ZSt):(ZSt.c x).all (isF 9)=true:=rfl
structure Xspec_l17Rd where
 b:List Int
 p:Int
instance:Inhabited Xspec_l17Rd:=⟨⟨default,default⟩⟩
def Xspec_l17Rd.c (x:Xspec_l17Rd):List AV:=[eL cY x.b,I x.p]
theorem Xspec_l17Rd.len (x:Xspec_l17Rd):(Xspec_l17Rd.c x).length=2:=rfl
theorem Xspec_l17Rd.isF (x:Xspec_l17Rd):(Xspec_l17Rd.c x).all (isF 9)=true:=rfl
structure ZSq where
 values:ZVa
instance:Inhabited ZSq:=⟨⟨default⟩⟩
def ZSq.c (x:ZSq):List AV:=[eL (cL ZIn.c) x.values.p,Y x.values.pc.x0,Y x.values.pc.x1,Y x.values.pc.x2,Y x.values.reg.x0.x0,Y x.values.reg.x0.x1,Y x.values.reg.x0.x2,Y x.values.reg.x1.x0,Y x.values.reg.x1.x1,Y x.values.reg.x1.x2,Y x.values.reg.x2.x0,Y x.values.reg.x2.x1,Y x.values.reg.x2.x2,Y x.values.mem.x0,Y x.values.mem.x1,Y x.values.mem.x2]
theorem ZSq.len (x:ZSq):(ZSq.c x).length=16:=rfl
theorem ZSq.isF (x:ZSq):(ZSq.c x).all (isF 9)=true:=rfl
structure Ximpl_valuer where
 p:List (List ZIn)
 x:ZEx
 events:List ZEv
 values:List Int
 busy:List Bool
instance:Inhabited Ximpl_valuer:=⟨⟨default,default,default,default,default⟩⟩
def Ximpl_valuer.c (x:Ximpl_valuer):List AV:=[eL (cL ZIn.c) x.p,eL cI x.x.From,eL (cL cI) x.x.Order,eL ZEv.c x.events,eL cI x.values,eL cB x.busy]
theorem Ximpl_valuer.len (x:Ximpl_valuer):(Ximpl_valuer.c x).length=6:=rfl
theorem Ximpl_valuer.isF (x:Ximpl_valuer):(Ximpl_valuer.c x).all (isF 9)=true:=rfl
end Go.Proofs.Ytlmjnhnpahicmaa
