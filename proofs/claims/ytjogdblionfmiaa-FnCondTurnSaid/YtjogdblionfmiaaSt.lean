/-
  Structures of the program as plain ones; printed by lift.py. No conditions.
-/
import Derived.Test.YtjogdblionfmiaaGC
namespace Go.Proofs.Ytjogdblionfmiaa
open Go.RowKit
set_option maxRecDepth 100000
structure Ximpl_Instr where
  Op : Int
  Loc : Int
  Reg : Int
  Val : Int
instance : Inhabited Ximpl_Instr := ⟨⟨default, default, default, default⟩⟩
def Ximpl_Instr.c (x : Ximpl_Instr) : List AV := [I x.Op, I x.Loc, I x.Reg, I x.Val]
theorem Ximpl_Instr.len (x : Ximpl_Instr) : (Ximpl_Instr.c x).length = 4 := rfl
theorem Ximpl_Instr.isF (x : Ximpl_Instr) : (Ximpl_Instr.c x).all (isF 9) = true := rfl
structure Ximpl_Gap where
  Thread : Int
  Index : Int
instance : Inhabited Ximpl_Gap := ⟨⟨default, default⟩⟩
def Ximpl_Gap.c (x : Ximpl_Gap) : List AV := [I x.Thread, I x.Index]
theorem Ximpl_Gap.len (x : Ximpl_Gap) : (Ximpl_Gap.c x).length = 2 := rfl
theorem Ximpl_Gap.isF (x : Ximpl_Gap) : (Ximpl_Gap.c x).all (isF 9) = true := rfl
structure Ximpl_Race where
  First : Ximpl_Gap
  Second : Ximpl_Gap
instance : Inhabited Ximpl_Race := ⟨⟨default, default⟩⟩
def Ximpl_Race.c (x : Ximpl_Race) : List AV := [I x.First.Thread, I x.First.Index, I x.Second.Thread, I x.Second.Index]
theorem Ximpl_Race.len (x : Ximpl_Race) : (Ximpl_Race.c x).length = 4 := rfl
theorem Ximpl_Race.isF (x : Ximpl_Race) : (Ximpl_Race.c x).all (isF 9) = true := rfl
structure Xlaws_Instr where
  Op : Int
  Loc : Int
  Reg : Int
  Val : Int
instance : Inhabited Xlaws_Instr := ⟨⟨default, default, default, default⟩⟩
def Xlaws_Instr.c (x : Xlaws_Instr) : List AV := [I x.Op, I x.Loc, I x.Reg, I x.Val]
theorem Xlaws_Instr.len (x : Xlaws_Instr) : (Xlaws_Instr.c x).length = 4 := rfl
theorem Xlaws_Instr.isF (x : Xlaws_Instr) : (Xlaws_Instr.c x).all (isF 9) = true := rfl
structure Ximpl_Exec where
  From : List Int
  Order : List (List Int)
instance : Inhabited Ximpl_Exec := ⟨⟨default, default⟩⟩
def Ximpl_Exec.c (x : Ximpl_Exec) : List AV := [eL cI x.From, eL (cL cI) x.Order]
theorem Ximpl_Exec.len (x : Ximpl_Exec) : (Ximpl_Exec.c x).length = 2 := rfl
theorem Ximpl_Exec.isF (x : Ximpl_Exec) : (Ximpl_Exec.c x).all (isF 9) = true := rfl
structure Xlaws_Exec where
  From : List Int
  Order : List (List Int)
instance : Inhabited Xlaws_Exec := ⟨⟨default, default⟩⟩
def Xlaws_Exec.c (x : Xlaws_Exec) : List AV := [eL cI x.From, eL (cL cI) x.Order]
theorem Xlaws_Exec.len (x : Xlaws_Exec) : (Xlaws_Exec.c x).length = 2 := rfl
theorem Xlaws_Exec.isF (x : Xlaws_Exec) : (Xlaws_Exec.c x).all (isF 9) = true := rfl
structure Xspec_l17Rd where
  b : List Int
  p : Int
instance : Inhabited Xspec_l17Rd := ⟨⟨default, default⟩⟩
def Xspec_l17Rd.c (x : Xspec_l17Rd) : List AV := [eL cY x.b, I x.p]
theorem Xspec_l17Rd.len (x : Xspec_l17Rd) : (Xspec_l17Rd.c x).length = 2 := rfl
theorem Xspec_l17Rd.isF (x : Xspec_l17Rd) : (Xspec_l17Rd.c x).all (isF 9) = true := rfl
structure Xspec_l3Search where
  states : Int
  outcomes : List (List Int)
instance : Inhabited Xspec_l3Search := ⟨⟨default, default⟩⟩
def Xspec_l3Search.c (x : Xspec_l3Search) : List AV := [I x.states, eL (cL cI) x.outcomes]
theorem Xspec_l3Search.len (x : Xspec_l3Search) : (Xspec_l3Search.c x).length = 2 := rfl
theorem Xspec_l3Search.isF (x : Xspec_l3Search) : (Xspec_l3Search.c x).all (isF 9) = true := rfl
structure Ximpl_Event where
  Thread : Int
  Index : Int
  Loc : Int
  Reads : Bool
  Writes : Bool
instance : Inhabited Ximpl_Event := ⟨⟨default, default, default, default, default⟩⟩
def Ximpl_Event.c (x : Ximpl_Event) : List AV := [I x.Thread, I x.Index, I x.Loc, Bo x.Reads, Bo x.Writes]
theorem Ximpl_Event.len (x : Ximpl_Event) : (Ximpl_Event.c x).length = 5 := rfl
theorem Ximpl_Event.isF (x : Ximpl_Event) : (Ximpl_Event.c x).all (isF 9) = true := rfl
structure Xspec_l3State where
  at_ : List Int
  regs : List Int
  mem : List Int
  buf : List (List Int)
instance : Inhabited Xspec_l3State := ⟨⟨default, default, default, default⟩⟩
def Xspec_l3State.c (x : Xspec_l3State) : List AV := [eL cI x.at_, eL cI x.regs, eL cI x.mem, eL (cL cI) x.buf]
theorem Xspec_l3State.len (x : Xspec_l3State) : (Xspec_l3State.c x).length = 4 := rfl
theorem Xspec_l3State.isF (x : Xspec_l3State) : (Xspec_l3State.c x).all (isF 9) = true := rfl
structure Ximpl_valuer where
  p : List (List Ximpl_Instr)
  x : Ximpl_Exec
  events : List Ximpl_Event
  values : List Int
  busy : List Bool
instance : Inhabited Ximpl_valuer := ⟨⟨default, default, default, default, default⟩⟩
def Ximpl_valuer.c (x : Ximpl_valuer) : List AV := [eL (cL Ximpl_Instr.c) x.p, eL cI x.x.From, eL (cL cI) x.x.Order, eL Ximpl_Event.c x.events, eL cI x.values, eL cB x.busy]
theorem Ximpl_valuer.len (x : Ximpl_valuer) : (Ximpl_valuer.c x).length = 6 := rfl
theorem Ximpl_valuer.isF (x : Ximpl_valuer) : (Ximpl_valuer.c x).all (isF 9) = true := rfl
end Go.Proofs.Ytjogdblionfmiaa
