/-
 Structures of the program as plain ones; printed by lift.py. No conditions.
-/
import Derived.Test.YtlmjnhnpahicmaaGH
namespace Go.Proofs.Ytlmjnhnpahicmaa
open Go.RowKit
set_option maxRecDepth 100000
structure Xlaws_Instr where
 Op : Int
 Loc : Int
 Reg : Int
 Val : Int
instance : Inhabited Xlaws_Instr := ⟨⟨default, default, default, default⟩⟩
def Xlaws_Instr.c (x : Xlaws_Instr) : List AV := [I x.Op, I x.Loc, I x.Reg, I x.Val]
structure Ximpl_Exec where
 From : List Int
 Order : List (List Int)
instance : Inhabited Ximpl_Exec := ⟨⟨default, default⟩⟩
def Ximpl_Exec.c (x : Ximpl_Exec) : List AV := [eL cI x.From, eL (cL cI) x.Order]
structure Ximpl_Instr where
 Op : Int
 Loc : Int
 Reg : Int
 Val : Int
instance : Inhabited Ximpl_Instr := ⟨⟨default, default, default, default⟩⟩
def Ximpl_Instr.c (x : Ximpl_Instr) : List AV := [I x.Op, I x.Loc, I x.Reg, I x.Val]
theorem Ximpl_Instr.isF (x : Ximpl_Instr) : (Ximpl_Instr.c x).all (isF 9) = true := rfl
structure Xlaws_Exec where
 From : List Int
 Order : List (List Int)
instance : Inhabited Xlaws_Exec := ⟨⟨default, default⟩⟩
structure Ximpl_Event where
 Thread : Int
 Index : Int
 Loc : Int
 Reads : Bool
 Writes : Bool
instance : Inhabited Ximpl_Event := ⟨⟨default, default, default, default, default⟩⟩
def Ximpl_Event.c (x : Ximpl_Event) : List AV := [I x.Thread, I x.Index, I x.Loc, Bo x.Reads, Bo x.Writes]
theorem Ximpl_Event.isF (x : Ximpl_Event) : (Ximpl_Event.c x).all (isF 9) = true := rfl
structure X_3_uint8 where
 x0 : Int
 x1 : Int
 x2 : Int
instance : Inhabited X_3_uint8 := ⟨⟨default, default, default⟩⟩
def X_3_uint8.c (x : X_3_uint8) : List AV := [Y x.x0, Y x.x1, Y x.x2]
def X_3_uint8.get (a : X_3_uint8) (q : Int) : Int := if q = 0 then a.x0 else if q = 1 then a.x1 else a.x2
def X_3_uint8.set (a : X_3_uint8) (q : Int) (v : Int) : X_3_uint8 := if q = 0 then ⟨v, a.x1, a.x2⟩ else if q = 1 then ⟨a.x0, v, a.x2⟩ else ⟨a.x0, a.x1, v⟩
structure X_3__3_uint8 where
 x0 : X_3_uint8
 x1 : X_3_uint8
 x2 : X_3_uint8
instance : Inhabited X_3__3_uint8 := ⟨⟨default, default, default⟩⟩
def X_3__3_uint8.c (x : X_3__3_uint8) : List AV := [Y x.x0.x0, Y x.x0.x1, Y x.x0.x2, Y x.x1.x0, Y x.x1.x1, Y x.x1.x2, Y x.x2.x0, Y x.x2.x1, Y x.x2.x2]
def X_3__3_uint8.get (a : X_3__3_uint8) (q : Int) : X_3_uint8 := if q = 0 then a.x0 else if q = 1 then a.x1 else a.x2
def X_3__3_uint8.set (a : X_3__3_uint8) (q : Int) (v : X_3_uint8) : X_3__3_uint8 := if q = 0 then ⟨v, a.x1, a.x2⟩ else if q = 1 then ⟨a.x0, v, a.x2⟩ else ⟨a.x0, a.x1, v⟩
structure Ximpl_values where
 p : List (List Ximpl_Instr)
 pc : X_3_uint8
 reg : X_3__3_uint8
 mem : X_3_uint8
instance : Inhabited Ximpl_values := ⟨⟨default, default, default, default⟩⟩
def Ximpl_values.c (x : Ximpl_values) : List AV := [eL (cL Ximpl_Instr.c) x.p, Y x.pc.x0, Y x.pc.x1, Y x.pc.x2, Y x.reg.x0.x0, Y x.reg.x0.x1, Y x.reg.x0.x2, Y x.reg.x1.x0, Y x.reg.x1.x1, Y x.reg.x1.x2, Y x.reg.x2.x0, Y x.reg.x2.x1, Y x.reg.x2.x2, Y x.mem.x0, Y x.mem.x1, Y x.mem.x2]
structure X_3_int where
 x0 : Int
 x1 : Int
 x2 : Int
instance : Inhabited X_3_int := ⟨⟨default, default, default⟩⟩
def X_3_int.get (a : X_3_int) (q : Int) : Int := if q = 0 then a.x0 else if q = 1 then a.x1 else a.x2
def X_3_int.set (a : X_3_int) (q : Int) (v : Int) : X_3_int := if q = 0 then ⟨v, a.x1, a.x2⟩ else if q = 1 then ⟨a.x0, v, a.x2⟩ else ⟨a.x0, a.x1, v⟩
structure Xspec_l3State where
 at_ : List Int
 regs : List Int
 mem : List Int
 buf : List (List Int)
instance : Inhabited Xspec_l3State := ⟨⟨default, default, default, default⟩⟩
def Xspec_l3State.c (x : Xspec_l3State) : List AV := [eL cI x.at_, eL cI x.regs, eL cI x.mem, eL (cL cI) x.buf]
structure Xspec_l17Rd where
 b : List Int
 p : Int
instance : Inhabited Xspec_l17Rd := ⟨⟨default, default⟩⟩
structure Ximpl_seq where
 values : Ximpl_values
instance : Inhabited Ximpl_seq := ⟨⟨default⟩⟩
def Ximpl_seq.c (x : Ximpl_seq) : List AV := [eL (cL Ximpl_Instr.c) x.values.p, Y x.values.pc.x0, Y x.values.pc.x1, Y x.values.pc.x2, Y x.values.reg.x0.x0, Y x.values.reg.x0.x1, Y x.values.reg.x0.x2, Y x.values.reg.x1.x0, Y x.values.reg.x1.x1, Y x.values.reg.x1.x2, Y x.values.reg.x2.x0, Y x.values.reg.x2.x1, Y x.values.reg.x2.x2, Y x.values.mem.x0, Y x.values.mem.x1, Y x.values.mem.x2]
structure Ximpl_valuer where
 p : List (List Ximpl_Instr)
 x : Ximpl_Exec
 events : List Ximpl_Event
 values : List Int
 busy : List Bool
instance : Inhabited Ximpl_valuer := ⟨⟨default, default, default, default, default⟩⟩
end Go.Proofs.Ytlmjnhnpahicmaa
