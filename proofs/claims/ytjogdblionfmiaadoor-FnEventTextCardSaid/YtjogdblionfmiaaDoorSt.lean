/-
  Structures of the program as plain ones; printed by lift.py. No conditions.
-/
import Derived.Test.YtjogdblionfmiaaDoorGC
namespace Go.Proofs.YtjogdblionfmiaaDoor
open Go.RowKit
set_option maxRecDepth 100000
structure Xlaws_Instr where
  Op : Int
  Loc : Int
  Reg : Int
  Val : Int
instance : Inhabited Xlaws_Instr := ⟨⟨default, default, default, default⟩⟩
def Xlaws_Instr.c (x : Xlaws_Instr) : List AV := [I x.Op, I x.Loc, I x.Reg, I x.Val]
theorem Xlaws_Instr.len (x : Xlaws_Instr) : (Xlaws_Instr.c x).length = 4 := rfl
theorem Xlaws_Instr.isF (x : Xlaws_Instr) : (Xlaws_Instr.c x).all (isF 9) = true := rfl
structure Ximpl_Instr where
  Op : Int
  Loc : Int
  Reg : Int
  Val : Int
instance : Inhabited Ximpl_Instr := ⟨⟨default, default, default, default⟩⟩
def Ximpl_Instr.c (x : Ximpl_Instr) : List AV := [I x.Op, I x.Loc, I x.Reg, I x.Val]
theorem Ximpl_Instr.len (x : Ximpl_Instr) : (Ximpl_Instr.c x).length = 4 := rfl
theorem Ximpl_Instr.isF (x : Ximpl_Instr) : (Ximpl_Instr.c x).all (isF 9) = true := rfl
structure Ximpl_Event where
  Thread : Int
  Index : Int
  Loc : Int
  Reads : Bool
  Writes : Bool
instance : Inhabited Ximpl_Event := ⟨⟨default, default, default, default, default⟩⟩
def Ximpl_Event.c (x : Ximpl_Event) : List AV := [I x.Thread, I x.Index, I x.Loc, Bo x.Reads, Bo x.Writes]
theorem Ximpl_Event.len (x : Ximpl_Event) : (Ximpl_Event.c x).length = 5 := rfl
theorem Ximpl_Event.isF (x : Ximpl_Event) : (Ximpl_Event.c x).all (isF 9) = true := rfl
structure Xspec_l17Rd where
  b : List Int
  p : Int
instance : Inhabited Xspec_l17Rd := ⟨⟨default, default⟩⟩
def Xspec_l17Rd.c (x : Xspec_l17Rd) : List AV := [eL cY x.b, I x.p]
theorem Xspec_l17Rd.len (x : Xspec_l17Rd) : (Xspec_l17Rd.c x).length = 2 := rfl
theorem Xspec_l17Rd.isF (x : Xspec_l17Rd) : (Xspec_l17Rd.c x).all (isF 9) = true := rfl
end Go.Proofs.YtjogdblionfmiaaDoor
