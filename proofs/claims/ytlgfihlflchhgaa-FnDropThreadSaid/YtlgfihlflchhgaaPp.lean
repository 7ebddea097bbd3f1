/-
 The texts of tests are read. Plain theorems. No conditions.
-/
import Derived.Test.YtlgfihlflchhgaaSRc
import Derived.Test.YtlgfihlflchhgaaHo
import Derived.Test.YtlgfihlflchhgaaSmd
namespace Go.Proofs.Ytlgfihlflchhgaa
open Go.RowKit
set_option maxRecDepth 100000
def parsedOk (t:ByteArray):Bool:=match C_spec_ParseProgram t with
 | some v=>smP v.1
 | none=>false
theorem parsed_all:∀ l,F_spec_l1Tests=some l->l.all parsedOk=true:=by
 intro l h
 obtain rfl:=Option.some.inj h
 decide +kernel
theorem parsed_ret {t:ByteArray} (h:parsedOk t=true):Ret (F_spec_ParseProgram t) fun v=>smP v.1=true:=by
 unfold parsedOk at h
 cases hc:C_spec_ParseProgram t with
 | none=>rw [hc] at h;cases h
 | some v=>
  rw [hc] at h
  exact ⟨v,C_spec_ParseProgram_le t v hc,h⟩
theorem parse_ok:∀ l,F_spec_l1Tests=some l->∀ t∈l,Ret (F_spec_ParseProgram t) fun v=>smP v.1=true:=
 fun l h t ht=>parsed_ret (List.all_eq_true.1 (parsed_all l h) t ht)
end Go.Proofs.Ytlgfihlflchhgaa
