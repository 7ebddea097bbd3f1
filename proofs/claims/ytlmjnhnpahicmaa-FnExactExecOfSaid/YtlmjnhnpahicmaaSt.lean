/-
 Structures of the program as plain ones; printed by lift.py. No conditions.
-/
import Derived.Test.YtlmjnhnpahicmaaGH
namespace Go.Proofs.Ytlmjnhnpahicmaa
open Go.RowKit
set_option maxRecDepth 100000
structure Xlaws_Instr where
 Op : Int
 Loc : Int
 Reg : Int
 Val : Int
instance : Inhabited Xlaws_Instr := ⟨⟨default, default, default, default⟩⟩
def Xlaws_Instr.c (x : Xlaws_Instr) : List AV := [I x.Op, I x.Loc, I x.Reg, I x.Val]
theorem Xlaws_Instr.isF (x : Xlaws_Instr) : (Xlaws_Instr.c x).all (isF 9) = true := rfl
structure Ximpl_Exec where
 From : List Int
 Order : List (List Int)
instance : Inhabited Ximpl_Exec := ⟨⟨default, default⟩⟩
def Ximpl_Exec.c (x : Ximpl_Exec) : List AV := [eL cI x.From, eL (cL cI) x.Order]
theorem Ximpl_Exec.isF (x : Ximpl_Exec) : (Ximpl_Exec.c x).all (isF 9) = true := rfl
structure ZIn where
 Op : Int
 Loc : Int
 Reg : Int
 Val : Int
instance : Inhabited ZIn := ⟨⟨default, default, default, default⟩⟩
def ZIn.c (x : ZIn) : List AV := [I x.Op, I x.Loc, I x.Reg, I x.Val]
theorem ZIn.isF (x : ZIn) : (ZIn.c x).all (isF 9) = true := rfl
structure Xlaws_Exec where
 From : List Int
 Order : List (List Int)
instance : Inhabited Xlaws_Exec := ⟨⟨default, default⟩⟩
def Xlaws_Exec.c (x : Xlaws_Exec) : List AV := [eL cI x.From, eL (cL cI) x.Order]
theorem Xlaws_Exec.isF (x : Xlaws_Exec) : (Xlaws_Exec.c x).all (isF 9) = true := rfl
structure Ximpl_Event where
 Thread : Int
 Index : Int
 Loc : Int
 Reads : Bool
 Writes : Bool
instance : Inhabited Ximpl_Event := ⟨⟨default, default, default, default, default⟩⟩
def Ximpl_Event.c (x : Ximpl_Event) : List AV := [I x.Thread, I x.Index, I x.Loc, Bo x.Reads, Bo x.Writes]
theorem Ximpl_Event.isF (x : Ximpl_Event) : (Ximpl_Event.c x).all (isF 9) = true := rfl
structure Z3b where
 x0 : Int
 x1 : Int
 x2 : Int
instance : Inhabited Z3b := ⟨⟨default, default, default⟩⟩
def Z3b.c (x : Z3b) : List AV := [Y x.x0, Y x.x1, Y x.x2]
theorem Z3b.isF (x : Z3b) : (Z3b.c x).all (isF 9) = true := rfl
def Z3b.get (a : Z3b) (q : Int) : Int := if q = 0 then a.x0 else if q = 1 then a.x1 else a.x2
def Z3b.set (a : Z3b) (q : Int) (v : Int) : Z3b := if q = 0 then ⟨v, a.x1, a.x2⟩ else if q = 1 then ⟨a.x0, v, a.x2⟩ else ⟨a.x0, a.x1, v⟩
structure Z33 where
 x0 : Z3b
 x1 : Z3b
 x2 : Z3b
instance : Inhabited Z33 := ⟨⟨default, default, default⟩⟩
def Z33.c (x : Z33) : List AV := [Y x.x0.x0, Y x.x0.x1, Y x.x0.x2, Y x.x1.x0, Y x.x1.x1, Y x.x1.x2, Y x.x2.x0, Y x.x2.x1, Y x.x2.x2]
theorem Z33.isF (x : Z33) : (Z33.c x).all (isF 9) = true := rfl
def Z33.get (a : Z33) (q : Int) : Z3b := if q = 0 then a.x0 else if q = 1 then a.x1 else a.x2
def Z33.set (a : Z33) (q : Int) (v : Z3b) : Z33 := if q = 0 then ⟨v, a.x1, a.x2⟩ else if q = 1 then ⟨a.x0, v, a.x2⟩ else ⟨a.x0, a.x1, v⟩
structure Ximpl_values where
 p : List (List ZIn)
 pc : Z3b
 reg : Z33
 mem : Z3b
instance : Inhabited Ximpl_values := ⟨⟨default, default, default, default⟩⟩
def Ximpl_values.c (x : Ximpl_values) : List AV := [eL (cL ZIn.c) x.p, Y x.pc.x0, Y x.pc.x1, Y x.pc.x2, Y x.reg.x0.x0, Y x.reg.x0.x1, Y x.reg.x0.x2, Y x.reg.x1.x0, Y x.reg.x1.x1, Y x.reg.x1.x2, Y x.reg.x2.x0, Y x.reg.x2.x1, Y x.reg.x2.x2, Y x.mem.x0, Y x.mem.x1, Y x.mem.x2]
theorem Ximpl_values.isF (x : Ximpl_values) : (Ximpl_values.c x).all (isF 9) = true := rfl
structure X_3_int where
 x0 : Int
 x1 : Int
 x2 : Int
instance : Inhabited X_3_int := ⟨⟨default, default, default⟩⟩
def X_3_int.c (x : X_3_int) : List AV := [I x.x0, I x.x1, I x.x2]
theorem X_3_int.isF (x : X_3_int) : (X_3_int.c x).all (isF 9) = true := rfl
def X_3_int.get (a : X_3_int) (q : Int) : Int := if q = 0 then a.x0 else if q = 1 then a.x1 else a.x2
def X_3_int.set (a : X_3_int) (q : Int) (v : Int) : X_3_int := if q = 0 then ⟨v, a.x1, a.x2⟩ else if q = 1 then ⟨a.x0, v, a.x2⟩ else ⟨a.x0, a.x1, v⟩
structure Xspec_l3State where
 at_ : List Int
 regs : List Int
 mem : List Int
 buf : List (List Int)
instance : Inhabited Xspec_l3State := ⟨⟨default, default, default, default⟩⟩
def Xspec_l3State.c (x : Xspec_l3State) : List AV := [eL cI x.at_, eL cI x.regs, eL cI x.mem, eL (cL cI) x.buf]
theorem Xspec_l3State.isF (x : Xspec_l3State) : (Xspec_l3State.c x).all (isF 9) = true := rfl
structure Xspec_l17Rd where
 b : List Int
 p : Int
instance : Inhabited Xspec_l17Rd := ⟨⟨default, default⟩⟩
def Xspec_l17Rd.c (x : Xspec_l17Rd) : List AV := [eL cY x.b, I x.p]
theorem Xspec_l17Rd.isF (x : Xspec_l17Rd) : (Xspec_l17Rd.c x).all (isF 9) = true := rfl
structure Ximpl_seq where
 values : Ximpl_values
instance : Inhabited Ximpl_seq := ⟨⟨default⟩⟩
def Ximpl_seq.c (x : Ximpl_seq) : List AV := [eL (cL ZIn.c) x.values.p, Y x.values.pc.x0, Y x.values.pc.x1, Y x.values.pc.x2, Y x.values.reg.x0.x0, Y x.values.reg.x0.x1, Y x.values.reg.x0.x2, Y x.values.reg.x1.x0, Y x.values.reg.x1.x1, Y x.values.reg.x1.x2, Y x.values.reg.x2.x0, Y x.values.reg.x2.x1, Y x.values.reg.x2.x2, Y x.values.mem.x0, Y x.values.mem.x1, Y x.values.mem.x2]
theorem Ximpl_seq.isF (x : Ximpl_seq) : (Ximpl_seq.c x).all (isF 9) = true := rfl
structure Ximpl_valuer where
 p : List (List ZIn)
 x : Ximpl_Exec
 events : List Ximpl_Event
 values : List Int
 busy : List Bool
instance : Inhabited Ximpl_valuer := ⟨⟨default, default, default, default, default⟩⟩
def Ximpl_valuer.c (x : Ximpl_valuer) : List AV := [eL (cL ZIn.c) x.p, eL cI x.x.From, eL (cL cI) x.x.Order, eL Ximpl_Event.c x.events, eL cI x.values, eL cB x.busy]
theorem Ximpl_valuer.isF (x : Ximpl_valuer) : (Ximpl_valuer.c x).all (isF 9) = true := rfl
end Go.Proofs.Ytlmjnhnpahicmaa
