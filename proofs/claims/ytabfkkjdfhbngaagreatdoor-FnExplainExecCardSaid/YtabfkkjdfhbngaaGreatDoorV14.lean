/- Texts joined. No conditions. -/
import Derived.OpenShut
import Derived.Carry
import Derived.ChangeOld
import Derived.RowKit
import Derived.LaidMore
import Derived.LaidSub
import Derived.MakeChecks
import Derived.Test.YtabfkkjdfhbngaaGreatDoorV13
namespace Go.Proofs.YtabfkkjdfhbngaaGreatDoor
noncomputable section
open _root_.Inhabited renaming default -> QW
open _root_.Bool renaming true -> QX
open _root_.Bool renaming false -> QY
open _root_.Option renaming some -> QZ
open _root_.Option renaming none -> Q0
open _root_.Decidable renaming decide -> Q3
open _root_.Go.Proofs.Tryz
open _root_.Go.Proofs.Tryz renaming prog -> Q4
set_option maxHeartbeats 4000000
open Go.RowKit
set_option maxRecDepth 100000
attribute [local irreducible] T TO TF TG TX QE EvA
theorem A8 {q} (h:nN=QZ q):ax Q4 193 [] (eL cS q):=by
 refine ax.mkT func193 Z (by kernel_rfl) Z (by kernel_rfl) (e0:=ai []) wkN<|jI ?_;refine go h λ_ h=>?_;refine oN (QE.mkF (c:=cS) ([(⟨#[120,61,49,59,97,61,121,124,121,61,49,59,97,61,120]⟩:BA),(⟨#[120,61,49,59,102,101,110,99,101,59,97,61,121,124,121,61,49,59,102,101,110,99,101,59,97,61,120]⟩:BA),(⟨#[120,61,49,59,121,61,49,124,97,61,121,59,98,61,120]⟩:BA),(⟨#[120,61,49,59,121,61,49,124,97,61,121,59,102,101,110,99,101,59,98,61,120]⟩:BA),(⟨#[120,61,49,59,102,101,110,99,101,59,121,61,49,124,97,61,121,59,98,61,120]⟩:BA),(⟨#[97,61,120,59,121,61,49,124,97,61,121,59,120,61,49]⟩:BA),(⟨#[97,61,120,59,121,61,97,124,97,61,121,59,120,61,97]⟩:BA),(⟨#[120,61,49,124,120,61,50,124,97,61,120,59,98,61,120]⟩:BA),(⟨#[120,61,49,124,121,61,49,124,97,61,120,59,98,61,121,124,97,61,121,59,98,61,120]⟩:BA),(⟨#[120,61,49,124,97,61,120,59,121,61,49,124,97,61,121,59,98,61,120]⟩:BA),(⟨#[120,61,49,124,121,61,49,124,97,61,120,59,98,61,121]⟩:BA),(⟨#[97,61,120,58,49,124,97,61,120,58,50,124,120,61,51]⟩:BA),(⟨#[120,61,49,59,97,61,120,59,98,61,121,124,121,61,49,59,97,61,121,59,98,61,120]⟩:BA),(⟨#[120,61,50,59,121,61,49,124,121,61,50,59,120,61,49]⟩:BA),(⟨#[97,61,120,58,49,59,98,61,121,124,97,61,121,58,49,59,98,61,120]⟩:BA),(⟨#[120,61,49,59,120,61,50,124,97,61,120,59,98,61,120]⟩:BA),(⟨#[120,61,49,59,121,61,49,59,97,61,122,124,122,61,49,59,97,61,121,59,98,61,120]⟩:BA),(⟨#[97,61,120,58,49,124,98,61,120,58,49]⟩:BA),(⟨#[102,101,110,99,101]⟩:BA),(⟨#[]⟩:BA),(⟨#[120,61,49,59,97,61,121,124,121,61,49,59,102,101,110,99,101,59,97,61,120]⟩:BA)]:List BA) [[St (⟨#[120,61,49,59,97,61,121,124,121,61,49,59,97,61,120]⟩:BA)],[St (⟨#[120,61,49,59,102,101,110,99,101,59,97,61,121,124,121,61,49,59,102,101,110,99,101,59,97,61,120]⟩:BA)],[St (⟨#[120,61,49,59,121,61,49,124,97,61,121,59,98,61,120]⟩:BA)],[St (⟨#[120,61,49,59,121,61,49,124,97,61,121,59,102,101,110,99,101,59,98,61,120]⟩:BA)],[St (⟨#[120,61,49,59,102,101,110,99,101,59,121,61,49,124,97,61,121,59,98,61,120]⟩:BA)],[St (⟨#[97,61,120,59,121,61,49,124,97,61,121,59,120,61,49]⟩:BA)],[St (⟨#[97,61,120,59,121,61,97,124,97,61,121,59,120,61,97]⟩:BA)],[St (⟨#[120,61,49,124,120,61,50,124,97,61,120,59,98,61,120]⟩:BA)],[St (⟨#[120,61,49,124,121,61,49,124,97,61,120,59,98,61,121,124,97,61,121,59,98,61,120]⟩:BA)],[St (⟨#[120,61,49,124,97,61,120,59,121,61,49,124,97,61,121,59,98,61,120]⟩:BA)],[St (⟨#[120,61,49,124,121,61,49,124,97,61,120,59,98,61,121]⟩:BA)],[St (⟨#[97,61,120,58,49,124,97,61,120,58,50,124,120,61,51]⟩:BA)],[St (⟨#[120,61,49,59,97,61,120,59,98,61,121,124,121,61,49,59,97,61,121,59,98,61,120]⟩:BA)],[St (⟨#[120,61,50,59,121,61,49,124,121,61,50,59,120,61,49]⟩:BA)],[St (⟨#[97,61,120,58,49,59,98,61,121,124,97,61,121,58,49,59,98,61,120]⟩:BA)],[St (⟨#[120,61,49,59,120,61,50,124,97,61,120,59,98,61,120]⟩:BA)],[St (⟨#[120,61,49,59,121,61,49,59,97,61,122,124,122,61,49,59,97,61,121,59,98,61,120]⟩:BA)],[St (⟨#[97,61,120,58,49,124,98,61,120,58,49]⟩:BA)],[St (⟨#[102,101,110,99,101]⟩:BA)],[St (⟨#[]⟩:BA)],[St (⟨#[120,61,49,59,97,61,121,124,121,61,49,59,102,101,110,99,101,59,97,61,120]⟩:BA)]] Bu Z Z Z qD qD Z) ?_;exact gz h
theorem mE (s:BA) (c:Int) {q} (h:dh s c=some q):ax Tryz.prog 229 [St s,Y c] (eL cS q):=by
 refine pM Tryz.func229 Z (by kernel_rfl) Z<|go h λ_ h=>?_;refine oA (EvA.mkO (c:=cS) ([]:List BA) [] Bu Z Z Z qD Z Z)<|go h λ_ h=>?_;refine tJ h (λs1 gh=>[(5,hS false 0 gh 1 s1.length)]) (λs1 gh=>[bE false gh 1 9 (s1.map cS)]) (λs1 u19 h=>?_) λs1 h=>?_
 ·exact gf h
 refine go h λ_ h=>?_;refine tT h 0 (λs5 gh=>[(7,I s5.2.1),(6,I s5.2.2),(5,hS false 0 gh 1 s5.1.length),(0,St s),(1,Y c)]) (λs5 gh=>[bE false gh 1 9 (s5.1.map cS)]) λs5 u7 ws5 h=>?_;refine QT h (λ_ q8 h=>?_) λ_ q8 h=>?_
 ·refine go h λ_ h=>?_;refine tJ h (λs9 gh=>[(6,I s9.2),(5,hS false 0 gh 1 s9.1.length),(7,I s5.2.1),(0,St s),(1,Y c)]) (λs9 gh=>[bE false gh 1 9 (s9.1.map cS)]) (λs9 u17 h=>?_) λs9 h=>?_
  ·refine go h λ_ h=>?_;obtain rfl:=QG h;exact ⟨(s9.1,(s5.2.1+V),s9.2),u17,Z,trivial,QU⟩
  refine go h λ_ h=>?_;refine TO.jB h 6 (λs10=>[(25,Bo s10),(7,I s5.2.1),(6,I s5.2.2),(5,hS false 0 u7 1 s5.1.length),(0,St s),(1,Y c)]) (λs10=>[bE false u7 1 9 (s5.1.map cS)]) (λs10 q11 h js10=>?_) (λs10 q11 h js10=>?_) λs10 h=>?_
  ·exact gj h js10
  ·exact gj h js10
  refine gi h (λ_ q13 h=>?_) λ_ q13 h=>?_
  ·refine gk h λ_ _ h=>?_
   cases h
   exact ⟨u7+1,trivial,QU⟩
  refine go h λ_ h=>?_
  cases h
  exact ⟨u7,trivial,QU⟩
 refine jM<|lX h λh=>?_
 cases h
 exact ⟨u7,trivial,QU⟩
theorem bU (s:BA) (at_:Int) (from_:Int) (most:Int) {q} (h:bF s at_ from_ most=some q):ax Tryz.prog 275 [St s,I at_,Y from_,I most] (I q):=by
 refine pM Tryz.func275 Z (by kernel_rfl) Z<|go h λ_ h=>?_;refine gs h λ_ h=>?_;refine TO.jB h 6 (λs1=>[(19,Bo s1),(0,St s),(1,I at_),(2,Y from_),(3,I most)]) (λs1=>[]) (λs1 q2 h js1=>?_) (λs1 q2 h js1=>?_) λs1 h=>?_
 ·exact gj h js1
 ·exact gj h js1
 refine go h λ_ h=>?_;refine TO.jB h 9 (λs4=>[(29,Bo s4),(0,St s),(1,I at_),(2,Y from_)]) (λs4=>[]) (λs4 q5 h js4=>?_) (λs4 q5 h js4=>?_) λs4 h=>?_
 ·exact gj h js4
 ·exact gj h js4
 refine gi h (λ_ q9 h=>?_) λ_ q9 h=>?_
 ·exact gz h
 exact gz h
theorem A9 (s:BA) {q} (h:nO s=some q):ax Tryz.prog 247 [St s] (.agg<|QH.c q):=by
 refine pM Tryz.func247 Z (by kernel_rfl) Z<|go h λ_ h=>?_;refine QT h (λ_ q1 h=>?_) λ_ q1 h=>?_
 ·exact gf h
 refine go h λ_ h=>?_;refine oC h (λ_=>bU _ _ _ _) Z Z Z Z λv2 _ h=>(go h λ_ h=>?_);refine oC h (λ_=>bU _ _ _ _) Z Z Z Z λv3 _ h=>(go h λ_ h=>?_);refine gs h λ_ h=>?_;refine TO.jB h 4 (λs4=>[(18,Bo s4),(4,I v3),(3,I v2),(2,.hp 0 0 4 0 0),(0,St s)]) (λs4=>[some ⟨0,4,79,[[I U,I U,I U,I U]]⟩]) (λs4 q5 h js4=>?_) (λs4 q5 h js4=>?_) λs4 h=>?_
 ·exact gj h js4
 ·exact gj h js4
 refine gi h (λ_ q6 h=>?_) λ_ q6 h=>?_
 ·refine go h λ_ h=>?_;refine oC h (λ_=>bU _ _ _ _) Z Z Z Z λv7 _ h=>?_;exact gf h
 refine go h λ_ h=>?_;refine gs h λ_ h=>?_;refine TO.jB h 4 (λs8=>[(29,Bo s8),(4,I v3),(3,I v2),(2,.hp 0 0 4 0 0),(0,St s)]) (λs8=>[some ⟨0,4,79,[[I U,I U,I U,I U]]⟩]) (λs8 q9 h js8=>?_) (λs8 q9 h js8=>?_) λs8 h=>?_
 ·exact gj h js8
 ·exact gj h js8
 refine gi h (λ_ q10 h=>?_) λ_ q10 h=>?_
 ·refine go h λ_ h=>?_;refine oC h (λ_=>bU _ _ _ _) Z Z Z Z λv11 _ h=>(go h λ_ h=>?_);refine oC h (λ_=>bU _ _ _ _) Z Z Z Z λv12 _ h=>?_;exact gf h
 refine go h λ_ h=>?_;refine gs h λ_ h=>?_;refine TO.jB h 4 (λs13=>[(42,Bo s13),(4,I v3),(2,.hp 0 0 4 0 0),(0,St s)]) (λs13=>[some ⟨0,4,79,[[I U,I U,I U,I U]]⟩]) (λs13 q14 h js13=>?_) (λs13 q14 h js13=>?_) λs13 h=>?_
 ·refine go h λ_ h=>?_;refine jB h λv15 cv15 h=>gN Z q14 (QE.call Z Z Z (bU s (2:Int) (97:Int) (2:Int) cv15) Z) ?_;exact gj h js13
 ·exact gj h js13
 refine gi h (λ_ q16 h=>?_) λ_ q16 h=>?_
 ·refine go h λ_ h=>?_;refine oC h (λ_=>bU _ _ _ _) Z Z Z Z λv17 _ h=>?_;exact gf h
 refine go h λ_ h=>?_;refine oC h (λ_=>bU _ _ _ _) Z Z Z Z λv18 _ h=>?_;exact gf h
theorem yM (p:List<|List QH) {q} (h:kM p=some q):ax Tryz.prog 248 [eL (cL QH.c) p] (St q):=by
 refine pM Tryz.func248 Z (by kernel_rfl) Z<|go h λ_ h=>?_;refine T.jU h (λs1=>[(3,St s1)]) (λs1=>[]) (λs1 h=>?_) λs1 h=>?_
 ·exact gz h
 refine go h λ_ h=>?_;refine tU h (λs4=>[(4,I s4.1),(3,St s4.2),(0,eL (cL QH.c) p)]) (λs4=>[]) λs4 ws4 h=>?_;refine QT h (λ_ q6 h=>?_) λ_ q6 h=>?_
 ·refine go h λ_ h=>?_;refine T.jU h (λs7=>[(3,St s7),(4,I s4.1),(0,eL (cL QH.c) p)]) (λs7=>[]) (λs7 h=>?_) λs7 h=>?_
  ·refine go h λ_ h=>?_;exact lE h QU
  refine go h λ_ h=>?_;refine T.jU h (λs8=>[(3,St s8),(4,I s4.1),(0,eL (cL QH.c) p)]) (λs8=>[]) (λs8 h=>?_) λs8 h=>?_
  ·refine go h λ_ h=>?_;refine tU h (λs13=>[(5,I s13.1),(3,St s13.2),(4,I s4.1),(0,eL (cL QH.c) p)]) (λs13=>[]) λs13 ws13 h=>?_;refine gs h λf h=>?_;obtain ⟨g15,_⟩:=f;refine jN Z h (λq16 h=>?_) λq16 h=>?_
   ·refine go h λ_ h=>?_;refine gs h λ_ h=>?_;refine T.jU h (λs17=>[(3,St s17),(5,I s13.1),(4,I s4.1),(0,eL (cL QH.c) p)]) (λs17=>[]) (λs17 h=>?_) λs17 h=>?_
    ·refine go h λ_ h=>?_;refine oC h (λ_=>vR _) Z Z Z Z λv21 _ h=>(go h λ_ h=>?_);exact lE h QU
    refine gi h (λ_ q18 h=>?_) λ_ q18 h=>?_
    ·refine go h λ_ h=>?_
     cases h
     exact ⟨(),trivial,QU⟩
    refine go h λ_ h=>?_
    cases h
    exact ⟨(),trivial,QU⟩
   refine jM<|lX h λh=>?_
   cases h
   exact ⟨(),trivial,QU⟩
  refine gi h (λ_ q9 h=>?_) λ_ q9 h=>?_
  ·refine go h λ_ h=>?_
   cases h
   exact ⟨(),trivial,QU⟩
  refine go h λ_ h=>?_
  cases h
  exact ⟨(),trivial,QU⟩
 refine jM<|lX h λh=>?_
 cases h
 exact ⟨(),trivial,QU⟩
theorem vT (text:BA) {q} (h:dD text=some q):ax Tryz.prog 187 [St text] (.tup [eL (cL QH.c) q.1,Bo q.2]):=by
 refine pM Tryz.func187 Z (by kernel_rfl) Z<|go h λ_ h=>?_;refine oA (EvA.mkO (c:=(cL QH.c)) ([]:List<|List QH) [] Nu Z Z Z qD Z Z)<|go h λ_ h=>?_;refine oC h (λ_=>mE _ _) Z Z Z Z λv1 _ h=>(go h λ_ h=>?_);refine tJ h (λs2 gh=>[(4,hS false 0 gh 1 s2.length),(0,St text)]) (λs2 gh=>[bE false gh 1 73 (s2.map<|cL QH.c)]) (λs2 u35 h=>?_) λs2 h=>?_
 ·refine gs h λ_ h=>?_;refine jB h λv36 cv36 h=>oA (EvA.callT Z Z (jf s2 cv36) (.cons (Fz.own (g:=false) (ver:=u35) (l:=s2) Z Z Z nofun qD) .nil) Z)<|go h λ_ h=>?_;refine TO.jB h 5 (λs37=>[(66,Bo s37),(4,hS false 0 u35 1 s2.length)]) (λs37=>[bE false u35 1 73 (s2.map<|cL QH.c)]) (λs37 q38 h js37=>?_) (λs37 q38 h js37=>?_) λs37 h=>?_
  ·exact gj h js37
  ·refine go h λ_ h=>?_;refine jB h λv39 cv39 h=>gA Z q38 (EvA.callT Z Z (yM s2 cv39) (.cons (Fz.own (g:=false) (ver:=u35) (l:=s2) Z Z Z nofun qD) .nil) Z) ?_;exact gj h js37
  refine gi h (λ_ q40 h=>?_) λ_ q40 h=>?_
  ·refine go h λ_ h=>?_;refine oN (QE.mkF (c:=(cL QH.c)) ([]:List<|List QH) [] Nu Z Z Z qD qD Z)<|go h λ_ h=>?_;obtain rfl:=QG h
   repeat (first|refine jh ?_|refine ji ?_)
   exact jQ (vs:=[eL (cL QH.c) ([]:List<|List QH),Bo false]) (.cons (.tmp Z)<|.cons (.tmp Z) .nil)<|.tupL<|.cons (qC Z)<|.cons (qC Z) .nil
  refine go h λ_ h=>?_;obtain rfl:=QG h
  repeat (first|refine jh ?_|refine ji ?_)
  exact jQ (vs:=[hS false 0 u35 1 s2.length,Bo true]) (.cons (.tmp Z)<|.cons (.tmp Z) .nil)<|.tupL<|.cons (Fz.own (g:=false) (ver:=u35) (l:=s2) Z Z Z nofun qD)<|.cons (qC Z) .nil
 refine go h λ_ h=>?_;refine tT h 0 (λs6 gh=>[(6,I s6.2),(5,eL cS v1),(4,hS false 0 gh 1 s6.1.length),(0,St text)]) (λs6 gh=>[bE false gh 1 73 (s6.1.map<|cL QH.c)]) λs6 u8 ws6 h=>?_;refine gs h λ_ h=>?_;refine TO.jB h 3 (λs9=>[(20,Bo s9),(6,I s6.2),(5,eL cS v1),(4,hS false 0 u8 1 s6.1.length),(0,St text)]) (λs9=>[bE false u8 1 73 (s6.1.map<|cL QH.c)]) (λs9 q10 h js9=>?_) (λs9 q10 h js9=>?_) λs9 h=>?_
 ·exact gj h js9
 ·exact gj h js9
 refine gi h (λ_ q11 h=>?_) λ_ q11 h=>?_
 ·refine go h λ_ h=>?_;refine tJ h (λs12 gh=>[(4,hS false 0 gh 1 s12.length),(6,I s6.2),(5,eL cS v1),(0,St text)]) (λs12 gh=>[bE false gh 1 73 (s12.map<|cL QH.c)]) (λs12 u33 h=>?_) λs12 h=>?_
  ·refine go h λ_ h=>?_;obtain rfl:=QG h;exact ⟨(s12,(s6.2+V)),u33,Z,trivial,QU⟩
  refine go h λ_ h=>?_;refine oA (EvA.mkO (c:=QH.c) ([]:List QH) [] NR Z Z Z qD Z Z)<|go h λf h=>?_;obtain ⟨g13,_⟩:=f;refine oC h (λ_=>mE _ _) Z Z Z Z λv14 _ h=>(go h λ_ h=>?_);refine tJ h (λs15 gh=>[(7,hS false 1 gh 4 s15.length),(6,I s6.2),(5,eL cS v1),(4,hS false 0 u8 1 s6.1.length),(0,St text)]) (λs15 gh=>[bE false u8 1 73 (s6.1.map<|cL QH.c),bE false gh 4 79 (s15.map QH.c)]) (λs15 u31 h=>?_) λs15 h=>?_
  ·refine go h λ_ h=>?_;refine oA (EvA.mkR [[hS false 1 u31 4 s15.length]] Nu Z Z Z Z)<|jL h λg32 h=>oA (EvA.appR (g:=false) (rows:=s6.1.map<|cL QH.c) (rows':=s6.1.map (cL QH.c)++[[hS false 1 u31 4 s15.length]]) (n':=s6.1.length+1) Nu (by kernel_rfl) Z Z (by simp) nofun (bh.raw (rows:=[[hS false 1 u31 4 s15.length]]) Z Z Z) g32 Z Z) ?_;refine go h λ_ h=>?_;obtain rfl:=QG h;exact ⟨u8+1,trivial,n9 Z (.cons (.snoc qD<|.cons (.cons (.fz<|Fz.own (g:=false) (ver:=u31) (l:=s15) Z Z Z nofun QH.isF) .nil) .nil) .nil)<|aj (.eqv (congrArg (hS false 0 (u8+1) 1) (by simp:(s6.1.length+1)=(s6.1++[s15]).length))<|.hS (g:=false) (b:=0) (ver:=u8+1) (s:=1) (n:=(s6.1++[s15]).length) Z)<|aj (.fz<|qC Z)<|aj (.fz<|qC Z)<|aj (.fz<|qC Z) aF⟩
  refine go h λ_ h=>?_;refine tT h 0 (λs19 gh=>[(9,I s19.2),(8,eL cS v14),(7,hS false 1 gh 4 s19.1.length),(6,I s6.2),(5,eL cS v1),(4,hS false 0 u8 1 s6.1.length),(0,St text)]) (λs19 gh=>[bE false u8 1 73 (s6.1.map<|cL QH.c),bE false gh 4 79 (s19.1.map QH.c)]) λs19 u21 ws19 h=>?_;refine gs h λ_ h=>?_;refine TO.jB h 3 (λs22=>[(36,Bo s22),(9,I s19.2),(8,eL cS v14),(7,hS false 1 u21 4 s19.1.length),(6,I s6.2),(5,eL cS v1),(4,hS false 0 u8 1 s6.1.length),(0,St text)]) (λs22=>[bE false u8 1 73 (s6.1.map<|cL QH.c),bE false u21 4 79 (s19.1.map QH.c)]) (λs22 q23 h js22=>?_) (λs22 q23 h js22=>?_) λs22 h=>?_
  ·exact gj h js22
  ·exact gj h js22
  refine go h λ_ h=>?_;refine TO.jB h 6 (λs24=>[(43,Bo s24),(9,I s19.2),(8,eL cS v14),(7,hS false 1 u21 4 s19.1.length),(6,I s6.2),(5,eL cS v1),(4,hS false 0 u8 1 s6.1.length),(0,St text)]) (λs24=>[bE false u8 1 73 (s6.1.map<|cL QH.c),bE false u21 4 79 (s19.1.map QH.c)]) (λs24 q25 h js24=>?_) (λs24 q25 h js24=>?_) λs24 h=>?_
  ·exact gj h js24
  ·exact gj h js24
  refine gi h (λ_ q26 h=>?_) λ_ q26 h=>?_
  ·refine go h λ_ h=>?_;refine gs h λ_ h=>?_;refine oC h (λ_=>A9 _) Z Z Z Z λv28 _ h=>oN (QE.mkF (c:=QH.c) ([v28]:List QH) [(QH.c v28)] NR Z Z Z qD QH.isF Z)<|go h λ_ h=>?_;obtain rfl:=QG h;exact ⟨((s19.1++[v28]),(s19.2+V)),u21+1,Z,trivial,QU⟩
  refine jM<|lX h λh=>?_
  cases h
  exact ⟨u21,trivial,QU⟩
 refine jM<|lX h λh=>?_
 cases h
 exact ⟨u8,trivial,QU⟩
theorem uQ (r_:ae) (aJ:Nat) {q} (h:fu r_=some q):dX Tryz.prog 194 [.hp 0 aJ 2 0 0] [some ⟨aJ,2,157,[(ae.c r_)]⟩] (.agg<|QH.c q.2) [some ⟨aJ,2,157,[(ae.c q.1)]⟩]:=by
 refine aM Tryz.func194 Z (by kernel_rfl) Z<|go h λ_ h=>?_;refine jB h λv1 cv1 h=>oA (EvA.call Z Z Z<|(av (⟨r_.b,r_.p⟩:ae) (2:Int) aJ cv1).one 0 Z (.cons (.hp Z)<|.cons (.pF Z) .nil) (ak Z) (ak Z) Z)<|go h λ_ h=>?_;refine gs h λ_ h=>?_;refine jB h λv2 cv2 h=>oA (EvA.call Z Z Z<|(av (⟨v1.1.b,v1.1.p⟩:ae) (7:Int) aJ cv2).one 0 Z (.cons (.hp Z)<|.cons (.pF Z) .nil) (ak Z) (ak Z) Z) ?_;refine gi h (λ_ q3 h=>?_) λ_ q3 h=>?_
 ·refine go h λ_ h=>?_;obtain rfl:=QG h
  repeat (first|refine jh ?_|refine ji ?_)
  exact ⟨ai [(2,.fp (QH.c (⟨(4:Int),U,U,U⟩:QH)) 0)],[some ⟨aJ,2,157,[(ae.c (⟨v2.1.b,v2.1.p⟩:ae))]⟩],QU,jQ (vs:=[.agg (QH.c (⟨(4:Int),U,U,U⟩:QH))]) (.cons (.cellF (.agg<|QH.c (⟨(4:Int),U,U,U⟩:QH)) NQ Z Z) .nil) ⟨Z,Z⟩⟩
 refine gi h (λ_ q4 h=>?_) λ_ q4 h=>?_
 ·refine go h λ_ h=>?_;refine jB h λv5 cv5 h=>oA (EvA.call Z Z Z<|(av (⟨v2.1.b,v2.1.p⟩:ae) (2:Int) aJ cv5).one 0 Z (.cons (.hp Z)<|.cons (.pF Z) .nil) (ak Z) (ak Z) Z)<|go h λ_ h=>?_;obtain rfl:=QG h
  repeat (first|refine jh ?_|refine ji ?_)
  exact ⟨ai [(2,.fp (QH.c (⟨(3:Int),v1.2,v5.2,U⟩:QH)) 0)],[some ⟨aJ,2,157,[(ae.c (⟨v5.1.b,v5.1.p⟩:ae))]⟩],QU,jQ (vs:=[.agg (QH.c (⟨(3:Int),v1.2,v5.2,U⟩:QH))]) (.cons (.cellF (.agg<|QH.c (⟨(3:Int),v1.2,v5.2,U⟩:QH)) NQ Z Z) .nil) ⟨Z,Z⟩⟩
 refine gi h (λ_ q6 h=>?_) λ_ q6 h=>?_
 ·refine go h λ_ h=>?_;refine jB h λv7 cv7 h=>oA (EvA.call Z Z Z<|(av (⟨v2.1.b,v2.1.p⟩:ae) (2:Int) aJ cv7).one 0 Z (.cons (.hp Z)<|.cons (.pF Z) .nil) (ak Z) (ak Z) Z)<|go h λ_ h=>?_;refine jB h λv8 cv8 h=>oA (EvA.call Z Z Z<|(av (⟨v7.1.b,v7.1.p⟩:ae) (3:Int) aJ cv8).one 0 Z (.cons (.hp Z)<|.cons (.pF Z) .nil) (ak Z) (ak Z) Z)<|go h λ_ h=>?_;obtain rfl:=QG h
  repeat (first|refine jh ?_|refine ji ?_)
  exact ⟨ai [(2,.fp (QH.c (⟨(5:Int),v1.2,v7.2,(V+v8.2)⟩:QH)) 0)],[some ⟨aJ,2,157,[(ae.c (⟨v8.1.b,v8.1.p⟩:ae))]⟩],QU,jQ (vs:=[.agg (QH.c (⟨(5:Int),v1.2,v7.2,(V+v8.2)⟩:QH))]) (.cons (.cellF (.agg<|QH.c (⟨(5:Int),v1.2,v7.2,(V+v8.2)⟩:QH)) NQ Z Z) .nil) ⟨Z,Z⟩⟩
 refine T.jU h (λs10=>[(26,Bo s10),(3,I v1.2),(2,.hp 1 0 4 0 0),(0,.hp 0 aJ 2 0 0)]) (λs10=>[some ⟨aJ,2,157,[(ae.c v2.1)]⟩,some ⟨0,4,79,[[I U,I U,I U,I U]]⟩]) (λs10 h=>?_) λs10 h=>?_
 ·refine jN Z h (λq12 h=>?_) λq12 h=>?_
  ·refine go h λ_ h=>?_;refine jB h λv13 cv13 h=>oA (EvA.call Z Z Z<|(av (⟨v2.1.b,v2.1.p⟩:ae) (3:Int) aJ cv13).one 0 Z (.cons (.hp Z)<|.cons (.pF Z) .nil) (ak Z) (ak Z) Z)<|go h λ_ h=>?_;obtain rfl:=QG h
   repeat (first|refine jh ?_|refine ji ?_)
   exact ⟨ai [(2,.fp (QH.c (⟨(2:Int),v1.2,U,(V+v13.2)⟩:QH)) 0)],[some ⟨aJ,2,157,[(ae.c (⟨v13.1.b,v13.1.p⟩:ae))]⟩],QU,jQ (vs:=[.agg (QH.c (⟨(2:Int),v1.2,U,(V+v13.2)⟩:QH))]) (.cons (.cellF (.agg<|QH.c (⟨(2:Int),v1.2,U,(V+v13.2)⟩:QH)) NQ Z Z) .nil) ⟨Z,Z⟩⟩
  refine go h λ_ h=>?_;refine jB h λv15 cv15 h=>oA (EvA.call Z Z Z<|(av (⟨v2.1.b,v2.1.p⟩:ae) (2:Int) aJ cv15).one 0 Z (.cons (.hp Z)<|.cons (.pF Z) .nil) (ak Z) (ak Z) Z)<|go h λ_ h=>?_;obtain rfl:=QG h
  repeat (first|refine jh ?_|refine ji ?_)
  exact ⟨ai [(2,.fp (QH.c (⟨V,v1.2,v15.2,U⟩:QH)) 0)],[some ⟨aJ,2,157,[(ae.c (⟨v15.1.b,v15.1.p⟩:ae))]⟩],QU,jQ (vs:=[.agg (QH.c (⟨V,v1.2,v15.2,U⟩:QH))]) (.cons (.cellF (.agg<|QH.c (⟨V,v1.2,v15.2,U⟩:QH)) NQ Z Z) .nil) ⟨Z,Z⟩⟩
 refine gi h (λ_ q11 h=>?_) λ_ q11 h=>?_
 ·refine go h λ_ h=>?_
  cases h
  exact ⟨(),trivial,QU⟩
 refine go h λ_ h=>?_
 cases h
 exact ⟨(),trivial,QU⟩
theorem Cz (r_:ae) (aJ:Nat) {q} (h:pR r_=some q):dX Tryz.prog 124 [.hp 0 aJ 2 0 0] [some ⟨aJ,2,157,[(ae.c r_)]⟩] (eL (cL QH.c) q.2) [some ⟨aJ,2,157,[(ae.c q.1)]⟩]:=by
 refine aM Tryz.func124 Z (by kernel_rfl) Z<|go h λ_ h=>?_;refine oC h (λ_=>A8) Z Z Z Z λv1 _ h=>(go h λ_ h=>?_);obtain ⟨Ks2,es2,ws2,h,ks2⟩:=tX h;refine T.join (S:=(LI)×Int) (G:=Unit) (λs2=>Ks2 s2=some q) (λs2 gh=>True) (λs2 gh=>[(0,.hp 0 aJ 2 0 0)]) (λs2 gh=>[some ⟨aJ,2,157,[[eL cY s2.1,I s2.2]]⟩]) (λs2 gh h hg=>?_) ?_
 ·clear ks2;subst es2;refine go h λ_ h=>?_;refine oA (EvA.mkO (c:=(cL QH.c)) ([]:List<|List QH) [] Nu Z Z Z qD Z Z)<|go h λ_ h=>?_;refine tJ h (λs9 gh=>[(6,hS false 1 gh 1 s9.2.2.length),(0,.hp 0 aJ 2 0 0)]) (λs9 gh=>[some ⟨aJ,2,157,[[eL cY s9.1,I s9.2.1]]⟩,bE false gh 1 73 (s9.2.2.map<|cL QH.c)]) (λs9 u35 h=>?_) λs9 h=>?_
  ·refine gs h λ_ h=>?_;refine jB h λv36 cv36 h=>oA (EvA.callT Z Z (jf s9.2.2 cv36) (.cons (Fz.own (g:=false) (ver:=u35) (l:=s9.2.2) Z Z Z nofun qD) .nil) Z) ?_;refine gi h (λ_ q37 h=>?_) λ_ q37 h=>?_
   ·refine go h λ_ h=>?_;obtain rfl:=QG h
    repeat (first|refine jh ?_|refine ji ?_)
    exact ⟨ai [(2,eL (cL QH.c) s9.2.2)],[some ⟨aJ,2,157,[(ae.c (⟨s9.1,s9.2.1⟩:ae))]⟩],n9 Z (.cons (.row<|.cons (.fz<|qC Z)<|.cons (.fz<|qC Z) .nil) .nil)<|aj (.fz<|Fz.own (g:=false) (ver:=u35) (l:=s9.2.2) Z Z Z nofun qD) aF,jQ (vs:=[eL (cL QH.c) s9.2.2]) (.cons (.tmp Z) .nil) ⟨Z,Z⟩⟩
   refine go h λ_ h=>?_;refine jB h λv38 cv38 h=>oA (EvA.call Z Z Z<|(uQ (⟨s9.1,s9.2.1⟩:ae) aJ cv38).one 0 Z (.cons (.hp Z) .nil) (ak Z) (ak Z) Z)<|oN (QE.mkF (c:=QH.c) ([v38.2]:List QH) [(QH.c v38.2)] NR Z Z Z qD QH.isF Z) ?_;refine gk h λ_ _ h=>?_;obtain rfl:=QG h
   repeat (first|refine jh ?_|refine ji ?_)
   exact ⟨ai [(2,eL (cL QH.c) ([([v38.2]:List QH)]:List<|List QH))],[some ⟨aJ,2,157,[(ae.c (⟨v38.1.b,v38.1.p⟩:ae))]⟩],n9 Z (.cons (.row<|.cons (.fz<|qC Z)<|.cons (.fz<|qC Z) .nil) .nil)<|aj (.fz<|qC Z) aF,jQ (vs:=[eL (cL QH.c) ([([v38.2]:List QH)]:List<|List QH)]) (.cons (.tmp Z) .nil) ⟨Z,Z⟩⟩
  refine go h λ_ h=>?_;refine oN (QE.mkF (c:=cI) ([(2:Int),(3:Int),V]:LI) [[I (2:Int)],[I (3:Int)],[I V]] je Z Z Z qD qD Z)<|jB h λv10 cv10 h=>oA (EvA.call Z Z Z<|(bw (⟨s2.1,s2.2⟩:ae) ([(2:Int),(3:Int),V]:LI) aJ cv10).one 0 Z (.cons (.hp Z)<|.cons (.pF Z) .nil) (ak Z) (ak Z) Z) ?_;refine go h λ_ h=>?_;refine tT h 0 (λs14 gh=>[(7,I s14.2.2.2),(6,hS false 1 gh 1 s14.2.2.1.length),(0,.hp 0 aJ 2 0 0)]) (λs14 gh=>[some ⟨aJ,2,157,[[eL cY s14.1,I s14.2.1]]⟩,bE false gh 1 73 (s14.2.2.1.map<|cL QH.c)]) λs14 u16 ws14 h=>?_;refine QT h (λ_ q17 h=>?_) λ_ q17 h=>?_
  ·refine go h λ_ h=>?_;refine tJ h (λs18 gh=>[(6,hS false 1 gh 1 s18.2.2.length),(7,I s14.2.2.2),(0,.hp 0 aJ 2 0 0)]) (λs18 gh=>[some ⟨aJ,2,157,[[eL cY s18.1,I s18.2.1]]⟩,bE false gh 1 73 (s18.2.2.map<|cL QH.c)]) (λs18 u33 h=>?_) λs18 h=>?_
   ·refine go h λ_ h=>?_;obtain rfl:=QG h;exact ⟨(s18.1,s18.2.1,s18.2.2,(s14.2.2.2-V)),u33,Z,trivial,QU⟩
   refine go h λ_ h=>?_;refine oA (EvA.mkO (c:=QH.c) ([]:List QH) [] NR Z Z Z qD Z Z)<|go h λ_ h=>?_;refine tJ h (λs19 gh=>[(8,hS false 2 gh 4 s19.2.2.length),(7,I s14.2.2.2),(6,hS false 1 u16 1 s14.2.2.1.length),(0,.hp 0 aJ 2 0 0)]) (λs19 gh=>[some ⟨aJ,2,157,[[eL cY s19.1,I s19.2.1]]⟩,bE false u16 1 73 (s14.2.2.1.map<|cL QH.c),bE false gh 4 79 (s19.2.2.map QH.c)]) (λs19 u31 h=>?_) λs19 h=>?_
   ·refine go h λ_ h=>?_;refine oA (EvA.mkR [[hS false 2 u31 4 s19.2.2.length]] Nu Z Z Z Z)<|jL h λg32 h=>oA (EvA.appR (g:=false) (rows:=s14.2.2.1.map<|cL QH.c) (rows':=s14.2.2.1.map (cL QH.c)++[[hS false 2 u31 4 s19.2.2.length]]) (n':=s14.2.2.1.length+1) Nu (by kernel_rfl) Z Z (by simp) nofun (bh.raw (rows:=[[hS false 2 u31 4 s19.2.2.length]]) Z Z Z) g32 Z Z) ?_;refine go h λ_ h=>?_;obtain rfl:=QG h;exact ⟨u16+1,trivial,n9 Z (.cons (.row<|.cons (.fz<|qC Z)<|.cons (.fz<|qC Z) .nil)<|.cons (.snoc qD<|.cons (.cons (.fz<|Fz.own (g:=false) (ver:=u31) (l:=s19.2.2) Z Z Z nofun QH.isF) .nil) .nil) .nil)<|aj (.eqv (congrArg (hS false 1 (u16+1) 1) (by simp:(s14.2.2.1.length+1)=(s14.2.2.1++[s19.2.2]).length))<|.hS (g:=false) (b:=1) (ver:=u16+1) (s:=1) (n:=(s14.2.2.1++[s19.2.2]).length) Z)<|aj (.fz<|qC Z)<|aj (.hp<|nlb Z) aF⟩
   refine go h λ_ h=>?_;refine oN (QE.mkF (c:=cI) ([(2:Int),V,(3:Int),(2:Int),U]:LI) [[I (2:Int)],[I V],[I (3:Int)],[I (2:Int)],[I U]] je Z Z Z qD qD Z)<|jB h λv20 cv20 h=>oA (EvA.call Z Z Z<|(bw (⟨s14.1,s14.2.1⟩:ae) ([(2:Int),V,(3:Int),(2:Int),U]:LI) aJ cv20).one 0 Z (.cons (.hp Z)<|.cons (.pF Z) .nil) (ak Z) (ak Z) Z) ?_;refine go h λ_ h=>?_;refine tT h 0 (λs24 gh=>[(9,I s24.2.2.2),(8,hS false 2 gh 4 s24.2.2.1.length),(7,I s14.2.2.2),(6,hS false 1 u16 1 s14.2.2.1.length),(0,.hp 0 aJ 2 0 0)]) (λs24 gh=>[some ⟨aJ,2,157,[[eL cY s24.1,I s24.2.1]]⟩,bE false u16 1 73 (s14.2.2.1.map<|cL QH.c),bE false gh 4 79 (s24.2.2.1.map QH.c)]) λs24 u26 ws24 h=>?_;refine QT h (λ_ q27 h=>?_) λ_ q27 h=>?_
   ·refine go h λ_ h=>?_;refine gs h λ_ h=>?_;refine jB h λv28 cv28 h=>oA (EvA.call Z Z Z<|(uQ (⟨s24.1,s24.2.1⟩:ae) aJ cv28).one 0 Z (.cons (.hp Z) .nil) (ak Z) (ak Z) Z)<|oN (QE.mkF (c:=QH.c) ([v28.2]:List QH) [(QH.c v28.2)] NR Z Z Z qD QH.isF Z) ?_;refine go h λ_ h=>?_;obtain rfl:=QG h;exact ⟨(v28.1.b,v28.1.p,(s24.2.2.1++[v28.2]),(s24.2.2.2-V)),u26+1,Z,trivial,QU⟩
   refine jM<|lX h λh=>?_
   cases h
   exact ⟨u26,trivial,QU⟩
  refine jM<|lX h λh=>?_
  cases h
  exact ⟨u16,trivial,QU⟩
 refine go h λ_ h=>?_;refine jB h λv3 cv3 h=>oA (EvA.call Z Z Z<|(av (⟨r_.b,r_.p⟩:ae) (3:Int) aJ cv3).one 0 Z (.cons (.hp Z)<|.cons (.pF Z) .nil) (ak Z) (ak Z) Z) ?_;refine gi h (λ_ q4 h=>?_) λ_ q4 h=>?_
 ·refine go h λ_ h=>?_;refine jB h λv5 cv5 h=>oA (EvA.call Z Z Z<|(av (⟨v3.1.b,v3.1.p⟩:ae) (v1.length:Int) aJ cv5).one 0 Z (.cons (.hp Z)<|.cons (.pF Z) .nil) (ak Z) (ak Z) Z)<|go h λ_ h=>?_;refine oC h (λ_=>vT _) Z Z Z Z λv7 _ h=>?_;refine gi h (λ_ q8 h=>?_) λ_ q8 h=>?_
  ·refine go h λ_ h=>?_;obtain rfl:=QG h;replace h:=congrArg some (show _=_ from ks2);obtain rfl:=QG h
   repeat (first|refine jh ?_|refine ji ?_)
   exact ⟨ai [(2,eL (cL QH.c) v7.1)],[some ⟨aJ,2,157,[(ae.c (⟨v5.1.b,v5.1.p⟩:ae))]⟩],QU,jQ (vs:=[eL (cL QH.c) v7.1]) (.cons (.tmp Z) .nil) ⟨Z,Z⟩⟩
  refine go h λ_ h=>?_;obtain rfl:=QG h;exact ⟨(v5.1.b,v5.1.p),(),ks2,trivial,QU⟩
 refine go h λ_ h=>?_;obtain rfl:=QG h;exact ⟨(v3.1.b,v3.1.p),(),ks2,trivial,QU⟩
theorem CB (r_:ae) (aJ:Nat) {q} (h:pV r_=some q):dX Tryz.prog 63 [.hp 0 aJ 2 0 0] [some ⟨aJ,2,157,[(ae.c r_)]⟩] (.tup [eL (cL QH.c) q.2.1,.agg (QI.c q.2.2)]) [some ⟨aJ,2,157,[(ae.c q.1)]⟩]:=by
 refine aM Tryz.func63 Z (by kernel_rfl) Z<|jI<|oN as'<|oA (EvA.al Gx Z Z)<|jA<|jI<|oN mv<|jB h λv1 cv1 h=>oA (EvA.call Z Z Z<|(Cz (⟨r_.b,r_.p⟩:ae) aJ cv1).one 0 Z (.cons (.hp Z) .nil) (ak Z) (ak Z) Z)<|oN as'<|jA<|jI<|oN mv<|oC h (λ_=>CS _) Z Z Z Z λv2 _ h=>oN as'<|jA ?_;refine jH<|jP (dG [dF,dF,dF,dF,dF,([0],true),dF,dF,dF,([1],true)]) (by kernel_rfl) (by kernel_rfl)<|fN Z mv<|fN Z mv<|fN Z mv<|fN Z mv<|fN Z (QE.lenL O4 Z)<|jB h λv3 cv3 h=>fW 0 [] Z Z (λG hG=>EvA.call Z Z Z<|(av (⟨v1.1.b,v1.1.p⟩:ae) (v2.length:Int) aJ cv3).one 0 (hG.a0 Z) (.cons (.hp Z)<|.cons (.pF Z) .nil) (ak Z) (ak Z) Z)<|jD h λg4 h=>fN Z (QE.ixL O4 Z Z g4 qD)<|fN Z (lf (.agg<|QI.c<|J v2 v3.2) yx Z)<|fN Z as'<|fV 1 [] Z Z (λG hG=>EvA.st (cs:=(QI.c<|J v2 v3.2)) ⟨0,2,27,[(QI.c<|J v2 v3.2)]⟩ yx Z Z (hG.a0 Z) Z Z Z Z Z Z)<|jR<|jK ?_;obtain rfl:=QG h
 repeat (first|refine jh ?_|refine ji ?_)
 exact ⟨ai [(2,eL (cL QH.c) v1.2),(3,.fp (QI.c (⟨(J v2 v3.2).From,(J v2 v3.2).Order⟩:QI)) 0)],[some ⟨aJ,2,157,[(ae.c (⟨v3.1.b,v3.1.p⟩:ae))]⟩],n9 Z (.cons (.row<|.cons (.fz<|qC Z)<|.cons (.fz<|qC Z) .nil) .nil)<|aj (.fz<|qC Z)<|aj (.fz<|Fz.fpL (ver:=0) (s:=2) (ty:=27) (rows:=[[eL cI ((J v2 v3.2).From),eL (cL cI) ((J v2 v3.2).Order)]]) Z Z Z<|.cons (qC Z)<|.cons (qC Z) .nil) aF,jQ (vs:=[eL (cL QH.c) v1.2,.agg (QI.c (⟨(J v2 v3.2).From,(J v2 v3.2).Order⟩:QI))]) (.cons (.tmp Z)<|.cons (.cellF (.agg<|QI.c (⟨(J v2 v3.2).From,(J v2 v3.2).Order⟩:QI)) yx Z Z) .nil) ⟨Z,Z⟩⟩
theorem zX {q} (h:l9=some q):ax Tryz.prog 165 [] (eL cS q):=by
 refine ax.mkT Tryz.func165 Z (by kernel_rfl) Z (by kernel_rfl) (e0:=ai []) wkN<|jI<|oN as'<|jA<|jI<|oN (QE.mkF (c:=cS) ([(⟨#[97,99,121,99,108,105,99,32,112,111,124,114,102,124,99,111,124,102,114]⟩:BA),(⟨#[97,99,121,99,108,105,99,32,112,111,38,108,111,99,124,114,102,124,99,111,124,102,114,47,97,99,121,99,108,105,99,32,112,111,45,119,114,124,102,101,110,99,101,124,114,102,38,101,120,116,124,99,111,124,102,114,47,105,114,114,101,102,32,102,114,59,99,111]⟩:BA),(⟨#[97,99,121,99,108,105,99,32,112,111,38,108,111,99,124,114,102,124,99,111,124,102,114,47,97,99,121,99,108,105,99,32,112,111,45,40,119,114,124,119,119,41,124,102,101,110,99,101,124,114,102,38,101,120,116,124,99,111,124,102,114,47,105,114,114,101,102,32,102,114,59,99,111]⟩:BA),(⟨#[97,99,121,99,108,105,99,32,112,111,124,114,102,47,97,99,121,99,108,105,99,32,43,40,112,111,124,114,102,41,38,108,111,99,124,99,111,124,102,114,47,105,114,114,101,102,32,102,114,59,99,111]⟩:BA),(⟨#[97,99,121,99,108,105,99,32,112,111,38,108,111,99,124,114,102,124,99,111,124,102,114]⟩:BA),(⟨#[101,109,112,116,121,32,112,111]⟩:BA),(⟨#[105,114,114,101,102,32,126,114,102,59,99,111]⟩:BA)]:List BA) [[St (⟨#[97,99,121,99,108,105,99,32,112,111,124,114,102,124,99,111,124,102,114]⟩:BA)],[St (⟨#[97,99,121,99,108,105,99,32,112,111,38,108,111,99,124,114,102,124,99,111,124,102,114,47,97,99,121,99,108,105,99,32,112,111,45,119,114,124,102,101,110,99,101,124,114,102,38,101,120,116,124,99,111,124,102,114,47,105,114,114,101,102,32,102,114,59,99,111]⟩:BA)],[St (⟨#[97,99,121,99,108,105,99,32,112,111,38,108,111,99,124,114,102,124,99,111,124,102,114,47,97,99,121,99,108,105,99,32,112,111,45,40,119,114,124,119,119,41,124,102,101,110,99,101,124,114,102,38,101,120,116,124,99,111,124,102,114,47,105,114,114,101,102,32,102,114,59,99,111]⟩:BA)],[St (⟨#[97,99,121,99,108,105,99,32,112,111,124,114,102,47,97,99,121,99,108,105,99,32,43,40,112,111,124,114,102,41,38,108,111,99,124,99,111,124,102,114,47,105,114,114,101,102,32,102,114,59,99,111]⟩:BA)],[St (⟨#[97,99,121,99,108,105,99,32,112,111,38,108,111,99,124,114,102,124,99,111,124,102,114]⟩:BA)],[St (⟨#[101,109,112,116,121,32,112,111]⟩:BA)],[St (⟨#[105,114,114,101,102,32,126,114,102,59,99,111]⟩:BA)]] Bu Z Z Z qD qD Z)<|oN as'<|jA<|jK ?_
 cases h
 exact vq Z Z Z
theorem oO {q} (h:iw=some q):ax Tryz.prog 230 [] (eL cS q):=by
 refine ax.mkT Tryz.func230 Z (by kernel_rfl) Z (by kernel_rfl) (e0:=ai []) wkN<|jI<|oN as'<|jA<|jI<|oN (QE.mkF (c:=cS) ([(⟨#[]⟩:BA),(⟨#[97,99,121,99,108,105,99]⟩:BA),(⟨#[105,114,114,101,102]⟩:BA),(⟨#[101,109,112,116,121]⟩:BA)]:List BA) [[St (⟨#[]⟩:BA)],[St (⟨#[97,99,121,99,108,105,99]⟩:BA)],[St (⟨#[105,114,114,101,102]⟩:BA)],[St (⟨#[101,109,112,116,121]⟩:BA)]] Bu Z Z Z qD qD Z)<|oN as'<|jA<|jK ?_
 cases h
 exact vq Z Z Z
theorem yN (s:BA) (at_:Int) (c:Int) {q} (h:qE s at_ c=some q):ax Tryz.prog 289 [St s,I at_,Y c] (Bo q):=by
 refine pM Tryz.func289 Z (by kernel_rfl) Z<|jI<|oN as'<|jA<|jI<|oN mv<|oN (QE.ige Z Z)<|oN mv ?_;refine TO.jB h 5 (λs1=>[(14,Bo s1),(0,St s),(1,I at_),(2,Y c)]) (λs1=>[]) (λs1 q2 h js1=>?_) (λs1 q2 h js1=>?_) λs1 h=>?_
 ·refine gN Z q2 mv<|gN Z q2 mv<|gN Z q2 (QE.lenst Tryz.underlying9 Z)<|gN Z q2 (QE.ilt Z Z)<|oN (QE.pickT Z q2 (Bo<|decide<|at_<(s.size:Int)) Z) ?_
  cases h
  exact js1 _ _<|kw Z Z
 ·refine gS Z q2<|gS Z q2<|gS Z q2<|gS Z q2<|oN (QE.pickF Z q2 (Bo false) Z) ?_
  cases h
  exact js1 _ _<|kw Z Z
 refine oN mv ?_;refine TO.jB h 6 (λs3=>[(21,Bo s3)]) (λs3=>[]) (λs3 q4 h js3=>?_) (λs3 q4 h js3=>?_) λs3 h=>?_
 ·refine gN Z q4 mv<|gN Z q4 mv<|jD h λg5 h=>gN Z q4 (QE.ixst Tryz.underlying9 Z Z g5)<|gN Z q4 mv<|gN Z q4 (QE.ieq Z Z)<|oN (QE.pickT Z q4 (Bo<|((s.data.getD at_.toNat 0).toNat:Int)==c) Z) ?_
  cases h
  exact js3 _ _<|kw Z Z
 ·refine gS Z q4<|gS Z q4<|gS Z q4<|gS Z q4<|gS Z q4<|oN (QE.pickF Z q4 (Bo false) Z) ?_
  cases h
  exact js3 _ _<|kw Z Z
 refine oN as'<|jA<|jK ?_
 cases h
 exact vq Z Z Z
theorem uy (cQ:BA->Int->Int->Int->Option (aa×Int)) (ih266:∀ (s:BA) (at_:Int) (depth:Int) (level:Int) {q},cQ s at_ depth level=some q->ax Tryz.prog 266 [St s,I at_,I depth,I level] (.tup [.agg (aa.c q.1),I q.2])):∀ (nf:Nat) (s:BA) (at_:Int) (depth:Int) {q:aa×Int} (h:bV cQ nf s at_ depth=some q),ax Tryz.prog 280 [St s,I at_,I depth] (.tup [.agg (aa.c q.1),I q.2]):=by
 intro nf
 induction nf with
 | zero=>intros;rename_i h;cases h
 | succ nf ih=>
  intro s at_ depth q h;replace h:dJ cQ (bV cQ nf) s at_ depth=some q:=h;refine pM Tryz.func280 Z (by kernel_rfl) Z<|jI<|oA (EvA.al mH Z Z)<|oN as'<|jA<|jH<|jI<|oN mv<|oN (QE.ilt Z Z)<|oN mv ?_;refine TO.jB h 3 (λs1=>[(19,Bo s1),(6,.hp 0 0 3 0 0),(0,St s),(1,I at_),(2,I depth)]) (λs1=>[some ⟨0,3,116,[[I U,St (⟨#[]⟩:BA),.nil]]⟩]) (λs1 q2 h js1=>?_) (λs1 q2 h js1=>?_) λs1 h=>?_
  ·refine gS Z q2<|gS Z q2<|oN (QE.pickT Z q2 (Bo true) Z) ?_
   cases h
   exact js1 _ _<|kw Z Z
  ·refine gN Z q2 mv<|gN Z q2 (QE.ilt Z Z)<|oN (QE.pickF Z q2 (Bo<|decide<|at_<U) Z) ?_
   cases h
   exact js1 _ _<|kw Z Z
  refine oN mv ?_;refine TO.jB h 5 (λs3=>[(25,Bo s3),(6,.hp 0 0 3 0 0),(0,St s),(1,I at_),(2,I depth)]) (λs3=>[some ⟨0,3,116,[[I U,St (⟨#[]⟩:BA),.nil]]⟩]) (λs3 q4 h js3=>?_) (λs3 q4 h js3=>?_) λs3 h=>?_
  ·refine gS Z q4<|gS Z q4<|gS Z q4<|gS Z q4<|oN (QE.pickT Z q4 (Bo true) Z) ?_
   cases h
   exact js3 _ _<|kw Z Z
  ·refine gN Z q4 mv<|gN Z q4 mv<|gN Z q4 (QE.lenst Tryz.underlying9 Z)<|gN Z q4 (QE.ige Z Z)<|oN (QE.pickF Z q4 (Bo<|decide<|(s.size:Int)<=at_) Z) ?_
   cases h
   exact js3 _ _<|kw Z Z
  refine jA ?_;refine jN Z h (λq5 h=>?_) λq5 h=>?_
  ·refine jI<|oN (QE.build [I U,St (⟨#[]⟩:BA),.nil] Tryz.underlying116 mH lj Z Z)<|oV (sr [I U,St (⟨#[]⟩:BA),.nil] bG Z Z Z Z)<|oN as'<|jA<|jK ?_;obtain rfl:=QG h
   repeat (first|refine jh ?_|refine ji ?_)
   exact jQ (vs:=[.agg [I U,St (⟨#[]⟩:BA),.nil],I (-1:Int)]) (.cons (.cell (.agg [I U,St (⟨#[]⟩:BA),.nil]) bG Z Z Z Z Z Z)<|.cons (.tmp Z) .nil)<|.tupL<|.cons (Fz.aggL<|.cons (qC Z)<|.cons (qC Z)<|.cons (.nil0) .nil)<|.cons (qC Z) .nil
  refine jG<|jH<|jI<|oN mv<|oN mv<|jD h λg6 h=>oN (QE.ixst Tryz.underlying9 Z Z g6)<|jA<|jE<|jI<|oN (QE.ieq Z Z)<|oN as'<|jA ?_;refine jN Z h (λq7 h=>?_) λq7 h=>?_
  ·refine jI<|oN mv<|oN mv<|jW h λg8 h=>oN (QE.add Z Z g8)<|oN mv<|oC h (λ_=>ih266 _ _ _ _) Z Z Z Z λv9 _ h=>oN mv<|oN (QE.ext (.agg<|aa.c v9.1) Z Z)<|oN (QE.ext (I v9.2) Z Z)<|oA (EvA.al mH Z Z)<|oV (sr (aa.c v9.1) bG Z Z Z Z)<|oN as'<|jA<|jH<|jH ?_;refine T.clean (H0:=[some ⟨0,3,116,[[I U,St (⟨#[]⟩:BA),.nil]]⟩,some ⟨0,3,116,[(aa.c v9.1)]⟩]) (e0:=ai [(9,I v9.2),(8,.hp 1 0 3 0 0),(6,.hp 0 0 3 0 0),(0,St s)]) Z (QD Z<|QD Z<|QD Z<|QD Z wkN)<|jC<|oN mv<|oN mv<|oC h (λ_=>yN _ _ _) Z Z Z Z λv10 _ h=>oN (QE.not Z)<|jA ?_;refine jN Z h (λq11 h=>?_) λq11 h=>?_
   ·refine jI<|oN (QE.build [I U,St (⟨#[]⟩:BA),.nil] Tryz.underlying116 mH lj Z Z)<|oV (sr [I U,St (⟨#[]⟩:BA),.nil] bG Z Z Z Z)<|oN as'<|jA<|jK ?_;obtain rfl:=QG h
    repeat (first|refine jh ?_|refine ji ?_)
    exact jQ (vs:=[.agg [I U,St (⟨#[]⟩:BA),.nil],I (-1:Int)]) (.cons (.cell (.agg [I U,St (⟨#[]⟩:BA),.nil]) bG Z Z Z Z Z Z)<|.cons (.tmp Z) .nil)<|.tupL<|.cons (Fz.aggL<|.cons (qC Z)<|.cons (qC Z)<|.cons (.nil0) .nil)<|.cons (qC Z) .nil
   refine jG<|jI<|oA (lh (.agg<|aa.c v9.1) bG Z Z Z)<|oN mv<|jW h λg12 h=>oN (QE.add Z Z g12)<|oV (sr (aa.c v9.1) bG Z Z Z Z)<|oN as'<|jA<|jK ?_;obtain rfl:=QG h
   repeat (first|refine jh ?_|refine ji ?_)
   exact jQ (vs:=[.agg (aa.c v9.1),I (v9.2+V)]) (.cons (.cell (.agg<|aa.c v9.1) bG Z Z Z Z Z Z)<|.cons (.tmp Z) .nil)<|.tupL<|.cons (qC Z)<|.cons (qC Z) .nil
  refine T.jU h (λs13=>[(48,Bo s13),(6,.hp 0 0 3 0 0),(0,St s),(1,I at_),(2,I depth)]) (λs13=>[some ⟨0,3,116,[[I U,St (⟨#[]⟩:BA),.nil]]⟩]) (λs13 h=>?_) λs13 h=>?_
  ·refine jN Z h (λq15 h=>?_) λq15 h=>?_
   ·refine jI<|oN as'<|jA ?_;refine T.jU h (λs16=>[(10,I s16),(6,.hp 0 0 3 0 0),(0,St s),(1,I at_),(2,I depth)]) (λs16=>[some ⟨0,3,116,[[I U,St (⟨#[]⟩:BA),.nil]]⟩]) (λs16 h=>?_) λs16 h=>?_
    ·refine jI<|oN mv<|oN mv<|jW h λg18 h=>oN (QE.add Z Z g18)<|oN mv<|jW h λg19 h=>oN (QE.sub Z Z g19)<|oC h (λ_=>ih _ _ _) Z Z Z Z λv20 _ h=>oN mv<|oN (QE.ext (.agg<|aa.c v20.1) Z Z)<|oN (QE.ext (I v20.2) Z Z)<|oA (EvA.al mH Z Z)<|oV (sr (aa.c v20.1) bG Z Z Z Z)<|oN as'<|jA ?_;refine jI<|oN mv<|oA (lh (.agg<|aa.c v20.1) bG Z Z Z)<|oN (QE.res (QE.mkF (c:=aa.c) ([(⟨v20.1.Op,v20.1.Name,v20.1.Kids⟩:aa)]:List aa) [(aa.c v20.1)] ut Z Z Z qD aa.isF Z) (r':=eL ZTE.c ([(⟨v20.1.Op,v20.1.Name,v20.1.Kids⟩:aa).inn]:List ZTE)) λ_ _ hr=>yX aa.inn_c hr)<|oN (QE.build [I s16,St (⟨#[]⟩:BA),eL ZTE.c ([(⟨v20.1.Op,v20.1.Name,v20.1.Kids⟩:aa).inn]:List ZTE)] Tryz.underlying116 mH lj Z Z)<|oN mv<|oV (sr [I s16,St (⟨#[]⟩:BA),eL ZTE.c ([(⟨v20.1.Op,v20.1.Name,v20.1.Kids⟩:aa).inn]:List ZTE)] bG Z Z Z Z)<|oN as'<|jA<|jK ?_;obtain rfl:=QG h
     repeat (first|refine jh ?_|refine ji ?_)
     exact jQ (vs:=[.agg [I s16,St (⟨#[]⟩:BA),eL ZTE.c ([(⟨v20.1.Op,v20.1.Name,v20.1.Kids⟩:aa).inn]:List ZTE)],I v20.2]) (.cons (.cell (.agg [I s16,St (⟨#[]⟩:BA),eL ZTE.c ([(⟨v20.1.Op,v20.1.Name,v20.1.Kids⟩:aa).inn]:List ZTE)]) bG Z Z Z Z Z Z)<|.cons (.tmp Z) .nil)<|.tupL<|.cons (qC Z)<|.cons (qC Z) .nil
    refine jI<|oN mv<|oN mv<|oN (QE.ixst Tryz.underlying9 Z Z g6)<|oN (QE.ieq Z Z)<|jA ?_;refine jN Z h (λq17 h=>?_) λq17 h=>?_
    ·refine jC<|oN as'<|jA ?_
     cases h
     exact ⟨(),trivial,kw Z Z⟩
    refine jG ?_
    cases h
    exact ⟨(),trivial,kw Z Z⟩
   refine jG<|jI<|oN mv<|oN as'<|jA ?_;refine T.jU h (λs21=>[(13,I s21),(6,.hp 0 0 3 0 0),(0,St s),(1,I at_)]) (λs21=>[some ⟨0,3,116,[[I U,St (⟨#[]⟩:BA),.nil]]⟩]) (λs21 h=>?_) λs21 h=>?_
   ·refine jH<|jI<|oN mv<|oN mv<|oN (QE.ieq Z Z)<|jA ?_;refine jN Z h (λq34 h=>?_) λq34 h=>?_
    ·refine jI<|oN (QE.build [I U,St (⟨#[]⟩:BA),.nil] Tryz.underlying116 mH lj Z Z)<|oV (sr [I U,St (⟨#[]⟩:BA),.nil] bG Z Z Z Z)<|oN as'<|jA<|jK ?_;obtain rfl:=QG h
     repeat (first|refine jh ?_|refine ji ?_)
     exact jQ (vs:=[.agg [I U,St (⟨#[]⟩:BA),.nil],I (-1:Int)]) (.cons (.cell (.agg [I U,St (⟨#[]⟩:BA),.nil]) bG Z Z Z Z Z Z)<|.cons (.tmp Z) .nil)<|.tupL<|.cons (Fz.aggL<|.cons (qC Z)<|.cons (qC Z)<|.cons (.nil0) .nil)<|.cons (qC Z) .nil
    refine jG<|jI<|oN mv<|oN mv<|oN mv<|jD h λg35 h=>oN (QE.slst Tryz.underlying9 Z (.yes Z) (.yes Z) g35)<|oN (QE.build [I V,St (s.extract at_.toNat s21.toNat),.nil] Tryz.underlying116 mH lj Z Z)<|oN mv<|oV (sr [I V,St (s.extract at_.toNat s21.toNat),.nil] bG Z Z Z Z)<|oN as'<|jA<|jK ?_;obtain rfl:=QG h
    repeat (first|refine jh ?_|refine ji ?_)
    exact jQ (vs:=[.agg [I V,St (s.extract at_.toNat s21.toNat),.nil],I s21]) (.cons (.cell (.agg [I V,St (s.extract at_.toNat s21.toNat),.nil]) bG Z Z Z Z Z Z)<|.cons (.tmp Z) .nil)<|.tupL<|.cons (Fz.aggL<|.cons (qC Z)<|.cons (qC Z)<|.cons (.nil0) .nil)<|.cons (qC Z) .nil
   refine jE ?_;refine T.lU h (λs24=>[(13,I s24),(6,.hp 0 0 3 0 0),(0,St s),(1,I at_)]) (λs24=>[some ⟨0,3,116,[[I U,St (⟨#[]⟩:BA),.nil]]⟩]) (kw Z Z) λs24 ws24 h=>?_;refine jH<|jI<|oN mv<|oN mv<|oN (QE.lenst Tryz.underlying9 Z)<|oN (QE.ilt Z Z)<|oN mv ?_;refine TO.jB h 5 (λs26=>[(79,Bo s26),(13,I s24),(6,.hp 0 0 3 0 0),(0,St s),(1,I at_)]) (λs26=>[some ⟨0,3,116,[[I U,St (⟨#[]⟩:BA),.nil]]⟩]) (λs26 q27 h js26=>?_) (λs26 q27 h js26=>?_) λs26 h=>?_
   ·refine gN Z q27 mv<|gN Z q27 mv<|jD h λg28 h=>gN Z q27 (QE.ixst Tryz.underlying9 Z Z g28)<|gN Z q27 (QE.ige Z Z)<|oN (QE.pickT Z q27 (Bo<|decide<|(97:Int)<=((s.data.getD s24.toNat 0).toNat:Int)) Z) ?_
    cases h
    exact js26 _ _<|kw Z Z
   ·refine gS Z q27<|gS Z q27<|gS Z q27<|gS Z q27<|oN (QE.pickF Z q27 (Bo false) Z) ?_
    cases h
    exact js26 _ _<|kw Z Z
   refine oN mv ?_;refine TO.jB h 5 (λs29=>[(85,Bo s29),(13,I s24),(6,.hp 0 0 3 0 0),(0,St s),(1,I at_)]) (λs29=>[some ⟨0,3,116,[[I U,St (⟨#[]⟩:BA),.nil]]⟩]) (λs29 q30 h js29=>?_) (λs29 q30 h js29=>?_) λs29 h=>?_
   ·refine gN Z q30 mv<|gN Z q30 mv<|jD h λg31 h=>gN Z q30 (QE.ixst Tryz.underlying9 Z Z g31)<|gN Z q30 (QE.ile Z Z)<|oN (QE.pickT Z q30 (Bo<|decide<|((s.data.getD s24.toNat 0).toNat:Int)<=(122:Int)) Z) ?_
    cases h
    exact js29 _ _<|kw Z Z
   ·refine gS Z q30<|gS Z q30<|gS Z q30<|gS Z q30<|oN (QE.pickF Z q30 (Bo false) Z) ?_
    cases h
    exact js29 _ _<|kw Z Z
   refine jA ?_;refine jN Z h (λq32 h=>?_) λq32 h=>?_
   ·refine jG<|jE<|jC<|oN mv<|jW h λg33 h=>oN (QE.add Z Z g33)<|oN as'<|jA ?_;exact lE h<|kw Z Z
   refine jM<|lX h λh=>?_
   cases h
   exact ⟨(),trivial,kw Z Z⟩
  refine jI<|oN (QE.ieq Z Z)<|oN as'<|jA ?_;refine jN Z h (λq14 h=>?_) λq14 h=>?_
  ·refine jG ?_
   cases h
   exact ⟨(),trivial,kw Z Z⟩
  refine jC<|oN (QE.ieq Z Z)<|oN as'<|jA ?_
  cases h
  exact ⟨(),trivial,kw Z Z⟩
theorem uY (cQ:BA->Int->Int->Int->Option (aa×Int)) (ih266:∀ (s:BA) (at_:Int) (depth:Int) (level:Int) {q},cQ s at_ depth level=some q->ax Tryz.prog 266 [St s,I at_,I depth,I level] (.tup [.agg (aa.c q.1),I q.2])) (s:BA) (at_:Int) (depth:Int) {q:aa×Int} (h:jZ cQ s at_ depth=some q):ax Tryz.prog 280 [St s,I at_,I depth] (.tup [.agg (aa.c q.1),I q.2]):=by
 obtain ⟨nf,h⟩:=lG h;exact uy cQ ih266 nf s at_ depth h
theorem oP (op:Int) {q} (h:iy op=some q):ax Tryz.prog 284 [I op] (I q):=by
 refine pM Tryz.func284 Z (by kernel_rfl) Z<|jI<|oN as'<|jA<|jH<|jI<|oN mv<|jA<|jE<|jI<|oN (QE.ieq Z Z)<|oN as'<|jA ?_;refine jN Z h (λq1 h=>?_) λq1 h=>?_
 ·refine jI<|oN as'<|jA<|jK ?_
  cases h
  exact vq Z Z Z
 refine T.jU h (λs2=>[(6,Bo s2),(3,I op)]) (λs2=>[]) (λs2 h=>?_) λs2 h=>?_
 ·refine jN Z h (λq4 h=>?_) λq4 h=>?_
  ·refine jI<|oN as'<|jA<|jK ?_
   cases h
   exact vq Z Z Z
  refine jI<|oN (QE.ieq Z Z)<|oN as'<|jA ?_;refine jN Z h (λq5 h=>?_) λq5 h=>?_
  ·refine jI<|oN as'<|jA<|jK ?_
   cases h
   exact vq Z Z Z
  refine jG<|jI<|oN as'<|jA<|jK ?_
  cases h
  exact vq Z Z Z
 refine jI<|oN (QE.ieq Z Z)<|oN as'<|jA ?_;refine jN Z h (λq3 h=>?_) λq3 h=>?_
 ·refine jG ?_
  cases h
  exact ⟨(),trivial,kw Z Z⟩
 refine jC<|oN (QE.ieq Z Z)<|oN as'<|jA ?_
 cases h
 exact ⟨(),trivial,kw Z Z⟩
theorem qQ (op:Int) {q} (h:ju op=some q):ax Tryz.prog 282 [I op] (St q):=by
 refine pM Tryz.func282 Z (by kernel_rfl) Z<|jI<|oN as'<|jA<|jI<|oN (QE.mkF (c:=cS) ([(⟨#[]⟩:BA),(⟨#[]⟩:BA),(⟨#[124]⟩:BA),(⟨#[38]⟩:BA),(⟨#[45]⟩:BA),(⟨#[59]⟩:BA),(⟨#[126]⟩:BA),(⟨#[43]⟩:BA)]:List BA) [[St (⟨#[]⟩:BA)],[St (⟨#[]⟩:BA)],[St (⟨#[124]⟩:BA)],[St (⟨#[38]⟩:BA)],[St (⟨#[45]⟩:BA)],[St (⟨#[59]⟩:BA)],[St (⟨#[126]⟩:BA)],[St (⟨#[43]⟩:BA)]] Bu Z Z Z qD qD Z)<|oN mv<|jD h λg1 h=>oN (QE.ixL Bu Z Z g1 qD)<|oN (lf (St<|J ([(⟨#[]⟩:BA),(⟨#[]⟩:BA),(⟨#[124]⟩:BA),(⟨#[38]⟩:BA),(⟨#[45]⟩:BA),(⟨#[59]⟩:BA),(⟨#[126]⟩:BA),(⟨#[43]⟩:BA)]:List BA) op) ty9 Z)<|oN as'<|jA<|jK ?_
 cases h
 exact vq Z Z Z
theorem Et (s:BA) (at_:Int) (level:Int) {q} (h:ui s at_ level=some q):ax Tryz.prog 281 [St s,I at_,I level] (I q):=by
 refine pM Tryz.func281 Z (by kernel_rfl) Z<|jI<|oN as'<|jA ?_;obtain ⟨Ks1,es1,ws1,h,ks1⟩:=tX h;refine T.join (S:=Unit) (G:=Unit) (λs1=>Ks1 s1=some q) (λs1 gh=>True) (λs1 gh=>[]) (λs1 gh=>[]) (λs1 gh h hg=>?_) ?_
 ·clear ks1;subst es1;refine jI<|oN as'<|jA<|jK ?_
  cases h
  exact vq Z Z Z
 refine jI<|oN as'<|jA<|jE ?_;refine T.lU h (λs4=>[(7,I s4),(0,St s),(1,I at_),(2,I level)]) (λs4=>[]) (kw Z Z) λs4 ws4 h=>?_;refine jH<|jI<|oN mv<|oN (QE.ile Z Z)<|jA ?_;refine jN Z h (λq6 h=>?_) λq6 h=>?_
 ·refine jG<|jH<|jE<|jI<|oN mv<|oC h (λ_=>oP _) Z Z Z Z λv7 _ h=>oN mv<|oN (QE.ieq Z Z)<|oN mv ?_;refine TO.jB h 7 (λs8=>[(23,Bo s8),(7,I s4),(0,St s),(1,I at_),(2,I level)]) (λs8=>[]) (λs8 q9 h js8=>?_) (λs8 q9 h js8=>?_) λs8 h=>?_
  ·refine gN Z q9 mv<|gN Z q9 mv<|gN Z q9 mv<|jB h λv10 cv10 h=>gN Z q9 (QE.call Z Z Z (qQ s4 cv10) Z)<|jD h λg11 h=>gN Z q9 (QE.ixst Tryz.underlying9 Z Z g11)<|jB h λv12 cv12 h=>gN Z q9 (QE.call Z Z Z (yN s at_ ((v10.data.getD U.toNat 0).toNat:Int) cv12) Z)<|oN (QE.pickT Z q9 (Bo v12) Z) ?_
   cases h
   exact js8 _ _<|kw Z Z
  ·refine gS Z q9<|gS Z q9<|gS Z q9<|gS Z q9<|gS Z q9<|gS Z q9<|oN (QE.pickF Z q9 (Bo false) Z) ?_
   cases h
   exact js8 _ _<|kw Z Z
  refine jA ?_;refine jN Z h (λq13 h=>?_) λq13 h=>?_
  ·refine jI<|oN mv<|oN as'<|jA<|jK<|lX h λh=>?_;obtain rfl:=QG h;replace h:=congrArg some (show _=_ from ks1)
   cases h
   exact vq Z Z Z
  refine jG<|jC<|oN mv<|jW h λg14 h=>oN (QE.add Z Z g14)<|oN as'<|jA ?_;exact lE h<|kw Z Z
 refine jM<|lX h λh=>?_
 cases h
 exact ⟨(),(),ks1,trivial,kw Z Z⟩
theorem zY:∀ (nf:Nat) (s:BA) (at_:Int) (depth:Int) (level:Int) {q} (h:iq nf s at_ depth level=QZ q),ax Q4 266 [St s,I at_,I depth,I level] (.tup [.agg (aa.c q.1),I q.2]):=by
 intro nf
 induction nf with
 | zero=>intros;rename_i h;cases h
 | succ nf ih=>
  intro s at_ depth level q h;replace h:kN (iq nf) s at_ depth level=QZ q:=h;refine pM func266 Z (by kernel_rfl) Z<|jI<|oA (EvA.al mH Z Z)<|oN as'<|jA<|jH<|jI<|oN mv<|oN (QE.ieq Z Z)<|jA ?_;refine jN Z h (λq1 h=>?_) λq1 h=>?_
  ·refine jI<|oN mv<|oN mv<|oN mv<|oC h (λ_=>uY _ ih _ _ _) Z Z Z Z λv2 _ h=>oN (QE.ext (.agg<|aa.c v2.1) Z Z)<|oN (QE.ext (I v2.2) Z Z)<|oV (sr [I v2.1.Op,St v2.1.Name,eL ZTE.c v2.1.Kids] bG Z Z Z Z)<|oN as'<|jA<|jK ?_;obtain rfl:=QG h
   repeat (first|refine jh ?_|refine ji ?_)
   exact jQ (vs:=[.agg [I v2.1.Op,St v2.1.Name,eL ZTE.c v2.1.Kids],I v2.2]) (.cons (.cell (.agg [I v2.1.Op,St v2.1.Name,eL ZTE.c v2.1.Kids]) bG Z Z Z Z Z Z)<|.cons (.tmp Z) .nil)<|.tupL<|.cons (qC Z)<|.cons (qC Z) .nil
  refine jG<|jI<|oN mv<|oN mv<|oN mv<|oN mv<|jW h λg3 h=>oN (QE.sub Z Z g3)<|oC h (λ_=>ih _ _ _ _) Z Z Z Z λv4 _ h=>oN mv<|oN (QE.ext (.agg<|aa.c v4.1) Z Z)<|oN (QE.ext (I v4.2) Z Z)<|oA (EvA.al mH Z Z)<|oV (sr [I v4.1.Op,St v4.1.Name,eL ZTE.c v4.1.Kids] bG Z Z Z Z)<|oN as'<|jA ?_;obtain ⟨Ks5,es5,ws5,h,ks5⟩:=tX h;refine T.join (S:=Int×ByteArray×(List ZTE)) (G:=Unit) (λs5=>Ks5 s5=QZ q) (λs5 gh=>True) (λs5 gh=>[(8,.hp 0 0 3 0 0)]) (λs5 gh=>[QZ ⟨0,3,116,[[I U,St (⟨#[]⟩:BA),.nil]]⟩,QZ ⟨0,3,116,[[I s5.1,St s5.2.1,eL ZTE.c s5.2.2]]⟩]) (λs5 gh h hg=>?_) ?_
  ·clear ks5;subst es5;refine jI<|oN (QE.build [I U,St (⟨#[]⟩:BA),.nil] Tryz.underlying116 mH lj Z Z)<|oV (sr [I U,St (⟨#[]⟩:BA),.nil] bG Z Z Z Z)<|oN as'<|jA<|jK ?_;obtain rfl:=QG h
   repeat (first|refine jh ?_|refine ji ?_)
   exact jQ (vs:=[.agg [I U,St (⟨#[]⟩:BA),.nil],I (-1:Int)]) (.cons (.cell (.agg [I U,St (⟨#[]⟩:BA),.nil]) bG Z Z Z Z Z Z)<|.cons (.tmp Z) .nil)<|.tupL<|.cons (Fz.aggL<|.cons (qC Z)<|.cons (qC Z)<|.cons (.nil0) .nil)<|.cons (qC Z) .nil
  refine jE ?_;refine T.lU h (λs8=>[(11,I s8.2.2.2),(10,.hp 1 0 3 0 0),(8,.hp 0 0 3 0 0),(0,St s),(2,I depth),(3,I level)]) (λs8=>[QZ ⟨0,3,116,[[I U,St (⟨#[]⟩:BA),.nil]]⟩,QZ ⟨0,3,116,[[I s8.1,St s8.2.1,eL ZTE.c s8.2.2.1]]⟩]) (kw Z Z) λs8 ws8 h=>?_;refine jH<|jI<|oN mv<|oN (QE.ige Z Z)<|jA ?_;refine jN Z h (λq10 h=>?_) λq10 h=>?_
  ·refine jG<|jE<|jI<|oN mv<|oN mv<|oN mv<|oC h (λ_=>Et _ _ _) Z Z Z Z λv11 _ h=>oN as'<|jA<|jH<|jI<|oN mv<|oN (QE.ieq Z Z)<|jA ?_;refine jN Z h (λq12 h=>?_) λq12 h=>?_
   ·refine jI<|oA (lh (.agg [I s8.1,St s8.2.1,eL ZTE.c s8.2.2.1]) bG Z Z Z)<|oN mv<|oV (sr [I s8.1,St s8.2.1,eL ZTE.c s8.2.2.1] bG Z Z Z Z)<|oN as'<|jA<|jK<|lX h λh=>?_;obtain rfl:=QG h;replace h:=congrArg QZ (show _=_ from ks5);obtain rfl:=QG h
    repeat (first|refine jh ?_|refine ji ?_)
    exact jQ (vs:=[.agg [I s8.1,St s8.2.1,eL ZTE.c s8.2.2.1],I s8.2.2.2]) (.cons (.cell (.agg [I s8.1,St s8.2.1,eL ZTE.c s8.2.2.1]) bG Z Z Z Z Z Z)<|.cons (.tmp Z) .nil)<|.tupL<|.cons (qC Z)<|.cons (qC Z) .nil
   refine jG<|jI<|oN mv<|oN mv<|jW h λg13 h=>oN (QE.add Z Z g13)<|oN mv<|oN mv<|oN (QE.sub Z Z g3)<|oC h (λ_=>ih _ _ _ _) Z Z Z Z λv14 _ h=>oN mv<|oN (QE.ext (.agg<|aa.c v14.1) Z Z)<|oN (QE.ext (I v14.2) Z Z)<|oA (EvA.al mH Z Z)<|oV (sr (aa.c v14.1) bG Z Z Z Z)<|oN as' ?_;refine jA<|jH<|T.clean (H0:=[QZ ⟨0,3,116,[[I U,St (⟨#[]⟩:BA),.nil]]⟩,QZ ⟨0,3,116,[[I s8.1,St s8.2.1,eL ZTE.c s8.2.2.1]]⟩,QZ ⟨0,3,116,[(aa.c v14.1)]⟩]) (e0:=ai [(14,I v14.2),(13,.hp 2 0 3 0 0),(12,I v11),(10,.hp 1 0 3 0 0),(8,.hp 0 0 3 0 0),(0,St s),(2,I depth),(3,I level)]) Z (QD Z<|QD Z<|QD Z<|QD Z<|QD Z<|QD Z<|QD Z<|QD Z wkN)<|jC<|oN mv<|oA (lh (.agg [I s8.1,St s8.2.1,eL ZTE.c s8.2.2.1]) bG Z Z Z)<|oA (lh (.agg<|aa.c v14.1) bG Z Z Z)<|oN (QE.res (QE.mkF (c:=aa.c) ([(⟨s8.1,s8.2.1,s8.2.2.1⟩:aa),(⟨v14.1.Op,v14.1.Name,v14.1.Kids⟩:aa)]:List aa) [[I s8.1,St s8.2.1,eL ZTE.c s8.2.2.1],(aa.c v14.1)] ut Z Z Z qD aa.isF Z) (r':=eL ZTE.c ([(⟨s8.1,s8.2.1,s8.2.2.1⟩:aa).inn,(⟨v14.1.Op,v14.1.Name,v14.1.Kids⟩:aa).inn]:List ZTE)) λ_ _ hr=>yX aa.inn_c hr)<|oN (QE.build [I v11,St (⟨#[]⟩:BA),eL ZTE.c ([(⟨s8.1,s8.2.1,s8.2.2.1⟩:aa).inn,(⟨v14.1.Op,v14.1.Name,v14.1.Kids⟩:aa).inn]:List ZTE)] Tryz.underlying116 mH lj Z Z)<|oV (sr [I v11,St (⟨#[]⟩:BA),eL ZTE.c ([(⟨s8.1,s8.2.1,s8.2.2.1⟩:aa).inn,(⟨v14.1.Op,v14.1.Name,v14.1.Kids⟩:aa).inn]:List ZTE)] bG Z Z Z Z)<|jA<|jC<|oN mv<|oN as'<|jA ?_;exact lE h<|n9 Z (.cons (.row<|.cons (.fz<|qC Z)<|.cons (.fz<|qC Z)<|.cons (.fz<|qC Z) .nil)<|.cons (.row<|.cons (.fz<|qC Z)<|.cons (.fz<|qC Z)<|.cons (.fz<|qC Z) .nil) .nil)<|aj (.fz<|qC Z)<|aj (.hp<|nlb Z)<|aj (.hp<|nlb Z)<|aj (.fz<|qC Z)<|aj (.fz<|qC Z)<|aj (.fz<|qC Z) aF
  refine jM<|lX h λh=>?_;obtain rfl:=QG h;exact ⟨(s8.1,s8.2.1,s8.2.2.1),(),ks5,trivial,kw Z Z⟩
theorem Ba (s:BA) (at_:Int) (depth:Int) (level:Int) {q} (h:rZ s at_ depth level=QZ q):ax Q4 266 [St s,I at_,I depth,I level] (.tup [.agg (aa.c q.1),I q.2]):=by
 obtain ⟨nf,h⟩:=lG h;exact zY nf s at_ depth level h
theorem jg (vW:aa->Option BA) (ih268:∀ (e_:aa) {q},vW e_=QZ q->ax Q4 268 [.agg (aa.c e_)] (St q)) (e_:aa) (level:Int) {q:BA} (h:cm vW e_ level=QZ q):ax Q4 283 [.agg (aa.c e_),I level] (St q):=by
 refine pM func283 Z (by kernel_rfl) Z<|jI<|oN (QE.bxF (aa.c e_) Z Z Z)<|oN as'<|jA<|jH<|jI<|oN (fa lj Z)<|oN (lf (I e_.Op) QS Z)<|oC h (λ_=>oP _) Z Z Z Z λv1 _ h=>oN mv<|oN (QE.igt Z Z)<|jA ?_;refine jN Z h (λq2 h=>?_) λq2 h=>?_
 ·refine jI<|oN (lf (.agg<|aa.c e_) bG Z)<|oC h (λ_=>ih268 _) Z Z Z Z λv3 _ h=>jD h λg4 h=>oN (QE.cat Z Z g4)<|jD h λg5 h=>oN (QE.cat Z Z g5)<|oN as'<|jA<|jK ?_
  cases h
  exact vq Z Z Z
 refine jG<|jI<|oN (lf (.agg<|aa.c e_) bG Z)<|oC h (λ_=>ih268 _) Z Z Z Z λv6 _ h=>oN as'<|jA<|jK ?_
 cases h
 exact vq Z Z Z
theorem Bb:∀ (nf:Nat) (e_:aa) {q} (h:iZ nf e_=QZ q),ax Q4 268 [.agg (aa.c e_)] (St q):=by
 intro nf
 induction nf with
 | zero=>intros;rename_i h;cases h
 | succ nf ih=>
  intro e_ q h;replace h:ma (iZ nf) e_=QZ q:=h;refine pM func268 Z (by kernel_rfl) Z<|jI<|oN (QE.bxF (aa.c e_) Z Z Z)<|oN as'<|jA<|jH<|jI<|oN (fa lj Z)<|oN (lf (I e_.Op) QS Z)<|oC h (λ_=>vP _) Z Z Z Z λv1 _ h=>jA<|jE<|jI<|oN (QE.ieq Z Z)<|oN as'<|jA ?_;refine jN Z h (λq2 h=>?_) λq2 h=>?_
  ·refine jI<|oN (fa lj Z)<|oN (lf (St e_.Name) ty9 Z)<|oN as'<|jA<|jK ?_
   cases h
   exact vq Z Z Z
  refine jI<|oN (QE.ieq Z Z)<|oN as'<|jA ?_;refine jN Z h (λq3 h=>?_) λq3 h=>?_
  ·refine jH<|jP (λ_=>([],QY)) (by kernel_rfl) (by kernel_rfl)<|fN Z (fa lj Z)<|fN Z (lf (I e_.Op) QS Z)<|fC h (λ_=>qQ _) Z Z Z Z Z λv4 _ h=>fN Z (fa lj Z)<|fN Z (lf (eL ZTE.c e_.Kids) Iq Z)<|jD h λg5 h=>fN Z (QE.res (QE.ixL ut Z Z g5 ZTE.len) (r' := .fp (aa.c (J e_.Kids U).out) 0) λ_ _ hr=>rM (ZTE.out_c _) hr)<|fN Z (lf (.agg<|aa.c<|(J e_.Kids U).out) bG Z)<|fC h (λ_=>jg _ ih _ _) Z Z Z Z Z λv6 _ h=>jD h λg7 h=>fN Z (QE.cat Z Z g7)<|fN Z as'<|jR<|jK ?_
   cases h
   exact vq Z Z Z
  refine jG<|jI<|oN (fa lj Z)<|oN (lf (I e_.Op) QS Z)<|oC h (λ_=>oP _) Z Z Z Z λv8 _ h=>oN as'<|jA<|jH<|jP (λ_=>([],QY)) (by kernel_rfl) (by kernel_rfl)<|fN Z (fa lj Z)<|fN Z (lf (eL ZTE.c e_.Kids) Iq Z)<|jD h λg9 h=>fN Z (QE.res (QE.ixL ut Z Z g9 ZTE.len) (r' := .fp (aa.c (J e_.Kids U).out) 0) λ_ _ hr=>rM (ZTE.out_c _) hr)<|fN Z (lf (.agg<|aa.c<|(J e_.Kids U).out) bG Z)<|fN Z mv<|fC h (λ_=>jg _ ih _ _) Z Z Z Z Z λv10 _ h=>?_;refine fN Z (fa lj Z)<|fN Z (lf (I e_.Op) QS Z)<|fC h (λ_=>qQ _) Z Z Z Z Z λv11 _ h=>jD h λg12 h=>fN Z (QE.cat Z Z g12)<|fN Z (fa lj Z)<|fN Z (lf (eL ZTE.c e_.Kids) Iq Z)<|jD h λg13 h=>fN Z (QE.res (QE.ixL ut Z Z g13 ZTE.len) (r' := .fp (aa.c (J e_.Kids V).out) 0) λ_ _ hr=>rM (ZTE.out_c _) hr)<|fN Z (lf (.agg<|aa.c<|(J e_.Kids V).out) bG Z)<|fN Z mv<|jW h λg14 h=>fN Z (QE.sub Z Z g14)<|fC h (λ_=>jg _ ih _ _) Z Z Z Z Z λv15 _ h=>jD h λg16 h=>fN Z (QE.cat Z Z g16) ?_;refine fN Z as'<|jR<|jK ?_
  cases h
  exact vq Z Z Z
theorem vU (e_:aa) {q} (h:pW e_=QZ q):ax Q4 268 [.agg (aa.c e_)] (St q):=by
 obtain ⟨nf,h⟩:=lG h;exact Bb nf e_ h
theorem uZ (e_:aa) {q} (h:fJ e_=QZ q):ax Q4 267 [.agg (aa.c e_)] (St q):=by
 refine pM func267 Z (by kernel_rfl) Z<|jI<|oN (QE.bxF (aa.c e_) Z Z Z)<|oN as'<|jA<|jH<|jI<|oN (lf (.agg<|aa.c e_) bG Z)<|oC h (λ_=>nZ _) Z Z Z Z λv1 _ h=>oN (QE.not Z)<|jA ?_;refine jN Z h (λq2 h=>?_) λq2 h=>?_
 ·refine jI<|oN as'<|jA<|jK ?_
  cases h
  exact vq Z Z Z
 refine jG<|jI<|oN (lf (.agg<|aa.c e_) bG Z)<|oC h (λ_=>vU _) Z Z Z Z λv3 _ h=>oN as'<|jA<|jK ?_
 cases h
 exact vq Z Z Z
theorem vV (text:BA) {q} (h:gV text=QZ q):ax Q4 231 [St text] (.tup [.agg (aa.c q.1),Bo q.2]):=by
 refine pM func231 Z (by kernel_rfl) Z<|jI<|oA (EvA.al mH Z Z)<|oN as'<|jA<|jH<|jI<|oN mv<|oN (QE.lenst Tryz.underlying9 Z)<|oN (QE.igt Z Z)<|jA ?_;refine jN Z h (λq1 h=>?_) λq1 h=>?_
 ·refine jI<|oN (QE.build [I U,St (⟨#[]⟩:BA),.nil] Tryz.underlying116 mH lj Z Z)<|oV (sr [I U,St (⟨#[]⟩:BA),.nil] bG Z Z Z Z)<|oN as'<|jA<|jK ?_;obtain rfl:=QG h
  repeat (first|refine jh ?_|refine ji ?_)
  exact jQ (vs:=[.agg [I U,St (⟨#[]⟩:BA),.nil],Bo QY]) (.cons (.cell (.agg [I U,St (⟨#[]⟩:BA),.nil]) bG Z Z Z Z Z Z)<|.cons (.tmp Z) .nil)<|.tupL<|.cons (Fz.aggL<|.cons (qC Z)<|.cons (qC Z)<|.cons (.nil0) .nil)<|.cons (qC Z) .nil
 refine jG<|jI<|oN mv<|oC h (λ_=>Ba _ _ _ _) Z Z Z Z λv2 _ h=>oN mv<|oN (QE.ext (.agg<|aa.c v2.1) Z Z)<|oN (QE.ext (I v2.2) Z Z)<|oA (EvA.al mH Z Z)<|oV (sr [I v2.1.Op,St v2.1.Name,eL ZTE.c v2.1.Kids] bG Z Z Z Z)<|oN as'<|jA<|jH<|jI<|oN mv<|oN mv<|oN (QE.lenst Tryz.underlying9 Z) ?_;refine oN (QE.ine Z Z)<|oN mv ?_;refine TO.jB h 5 (λs3=>[(24,Bo s3),(4,.hp 1 0 3 0 0),(2,.hp 0 0 3 0 0),(0,St text)]) (λs3=>[QZ ⟨0,3,116,[[I U,St (⟨#[]⟩:BA),.nil]]⟩,QZ ⟨0,3,116,[[I v2.1.Op,St v2.1.Name,eL ZTE.c v2.1.Kids]]⟩]) (λs3 q4 h js3=>?_) (λs3 q4 h js3=>?_) λs3 h=>?_
 ·refine gS Z q4<|gS Z q4<|gS Z q4<|gS Z q4<|oN (QE.pickT Z q4 (Bo QX) Z) ?_
  cases h
  exact js3 _ _<|kw Z Z
 ·refine gA Z q4 (lh (.agg [I v2.1.Op,St v2.1.Name,eL ZTE.c v2.1.Kids]) bG Z Z Z)<|jB h λv5 cv5 h=>gN Z q4 (QE.call Z Z Z (uZ (⟨v2.1.Op,v2.1.Name,v2.1.Kids⟩:aa) cv5) Z)<|gN Z q4 mv<|gN Z q4 (QE.sne Z Z)<|oN (QE.pickF Z q4 (Bo<|!decide (v5=text)) Z) ?_
  cases h
  exact js3 _ _<|kw Z Z
 refine oN mv ?_;refine TO.jB h 3 (λs6=>[(28,Bo s6),(4,.hp 1 0 3 0 0),(2,.hp 0 0 3 0 0)]) (λs6=>[QZ ⟨0,3,116,[[I U,St (⟨#[]⟩:BA),.nil]]⟩,QZ ⟨0,3,116,[[I v2.1.Op,St v2.1.Name,eL ZTE.c v2.1.Kids]]⟩]) (λs6 q7 h js6=>?_) (λs6 q7 h js6=>?_) λs6 h=>?_
 ·refine gS Z q7<|gS Z q7<|oN (QE.pickT Z q7 (Bo QX) Z) ?_
  cases h
  exact js6 _ _<|kw Z Z
 ·refine gN Z q7 mv<|gN Z q7 (QE.seq Z Z)<|oN (QE.pickF Z q7 (Bo<|Q3<|text=(⟨#[]⟩:BA)) Z) ?_
  cases h
  exact js6 _ _<|kw Z Z
 refine jA ?_;refine jN Z h (λq8 h=>?_) λq8 h=>?_
 ·refine jI<|oN (QE.build [I U,St (⟨#[]⟩:BA),.nil] Tryz.underlying116 mH lj Z Z)<|oV (sr [I U,St (⟨#[]⟩:BA),.nil] bG Z Z Z Z)<|oN as'<|jA<|jK ?_;obtain rfl:=QG h
  repeat (first|refine jh ?_|refine ji ?_)
  exact jQ (vs:=[.agg [I U,St (⟨#[]⟩:BA),.nil],Bo QY]) (.cons (.cell (.agg [I U,St (⟨#[]⟩:BA),.nil]) bG Z Z Z Z Z Z)<|.cons (.tmp Z) .nil)<|.tupL<|.cons (Fz.aggL<|.cons (qC Z)<|.cons (qC Z)<|.cons (.nil0) .nil)<|.cons (qC Z) .nil
 refine jG<|jI<|oA (lh (.agg [I v2.1.Op,St v2.1.Name,eL ZTE.c v2.1.Kids]) bG Z Z Z)<|oV (sr [I v2.1.Op,St v2.1.Name,eL ZTE.c v2.1.Kids] bG Z Z Z Z)<|oN as'<|jA<|jK ?_;obtain rfl:=QG h
 repeat (first|refine jh ?_|refine ji ?_)
 exact jQ (vs:=[.agg [I v2.1.Op,St v2.1.Name,eL ZTE.c v2.1.Kids],Bo QX]) (.cons (.cell (.agg [I v2.1.Op,St v2.1.Name,eL ZTE.c v2.1.Kids]) bG Z Z Z Z Z Z)<|.cons (.tmp Z) .nil)<|.tupL<|.cons (qC Z)<|.cons (qC Z) .nil
theorem Bc (m:List ah) {q} (h:nP m=QZ q):ax Q4 232 [eL ah.c m] (St q):=by
 refine pM func232 Z (by kernel_rfl) Z<|jI<|oN as'<|jA<|jI<|oN as'<|jA ?_;refine T.jU h (λs1=>[(3,St s1)]) (λs1=>[]) (λs1 h=>?_) λs1 h=>?_
 ·refine jI<|oN mv<|oN as'<|jA<|jK ?_
  cases h
  exact vq Z Z Z
 refine jI<|oN as'<|jA<|jE ?_;refine T.lU h (λs4=>[(4,I s4.1),(3,St s4.2),(0,eL ah.c m)]) (λs4=>[]) (kw Z Z) λs4 ws4 h=>?_;refine jH<|jI<|oN mv<|oN mv<|oN (QE.lenL CE Z)<|oN (QE.ilt Z Z)<|jA ?_;refine jN Z h (λq6 h=>?_) λq6 h=>?_
 ·refine jG<|jH<|jE ?_;refine T.jU h (λs7=>[(3,St s7),(4,I s4.1),(0,eL ah.c m)]) (λs7=>[]) (λs7 h=>?_) λs7 h=>?_
  ·refine jP (λ_=>([],QY)) (by kernel_rfl) (by kernel_rfl)<|fN Z mv<|fC h (λ_=>oO) Z Z Z Z Z λv10 _ h=>fN Z mv<|fN Z mv<|jD h λg11 h=>fN Z (QE.ixL CE Z Z g11 qD)<|fN Z (fa Em Z)<|fN Z (lf (I<|(J m s4.1).Kind) QS Z)<|jD h λg12 h=>fN Z (QE.ixL Bu Z Z g12 qD)<|fN Z (lf (St<|J v10<|(J m s4.1).Kind) ty9 Z)<|jD h λg13 h=>fN Z (QE.cat Z Z g13)<|jD h λg14 h=>fN Z (QE.cat Z Z g14) ?_;refine fN Z mv<|fN Z mv<|fN Z (QE.ixL CE Z Z g11 qD)<|fN Z (QE.fafpS 3 Tryz.underlying120 Z (by kernel_rfl) Z Z (row2:=aa.c<|(J m s4.1).Expr))<|fN Z (lf (.agg<|aa.c<|(J m s4.1).Expr) bG Z)<|fC h (λ_=>vU _) Z Z Z Z Z λv15 _ h=>jD h λg16 h=>fN Z (QE.cat Z Z g16)<|fN Z as'<|jR<|T.clean (H0:=[]) (e0:=ai [(3,St<|((s7++(J v10<|(J m s4.1).Kind))++(⟨#[32]⟩:BA))++v15),(4,I s4.1),(0,eL ah.c m)]) Z (QD Z<|QD Z<|QD Z wkN)<|jC<|oN mv<|jW h λg17 h=>oN (QE.add Z Z g17)<|oN as' ?_;refine jA ?_;exact lE h<|kw Z Z
  refine jI<|oN mv<|oN (QE.igt Z Z)<|jA ?_;refine jN Z h (λq8 h=>?_) λq8 h=>?_
  ·refine jC<|oN mv<|jD h λg9 h=>oN (QE.cat Z Z g9)<|oN as'<|jA ?_
   cases h
   exact ⟨(),trivial,kw Z Z⟩
  refine jG ?_
  cases h
  exact ⟨(),trivial,kw Z Z⟩
 refine jM<|lX h λh=>?_
 cases h
 exact ⟨(),trivial,kw Z Z⟩
theorem xH (text:BA) {q} (h:gu text=QZ q):ax Q4 166 [St text] (.tup [eL ah.c q.1,Bo q.2]):=by
 refine pM func166 Z (by kernel_rfl) Z<|jI<|oN as'<|oN as'<|jA<|jI<|oA (EvA.mkO (c:=ah.c) ([]:List ah) [] CE Z Z Z qD Z Z)<|oN (QE.asg (hS QY 0 0 4<|([]:List ah).length) Z)<|jA<|jI<|oN mv<|oC h (λ_=>mE _ _) Z Z Z Z λv1 _ h=>oN as'<|jA ?_;obtain ⟨Ks2,es2,ws2,h,ks2⟩:=tX h;refine T.join (S:=(List ah)) (G:=Nat) (λs2=>Ks2 s2=QZ q) (λs2 gh=>True) (λs2 gh=>[(4,hS QY 0 gh 4 s2.length),(0,St text)]) (λs2 gh=>[bE QY gh 4 120 (s2.map ah.c)]) (λs2 u37 h hg=>?_) ?_
 ·clear ks2;subst es2;refine jH<|jI<|oN mv<|jB h λv38 cv38 h=>oA (EvA.callT Z Z (qP s2 cv38) (.cons (Fz.own (g:=false) (ver:=u37) (l:=s2) Z Z Z nofun ah.isF) .nil) Z)<|oN (QE.not Z)<|oN mv ?_;refine TO.jB h 5 (λs39=>[(80,Bo s39),(4,hS QY 0 u37 4 s2.length)]) (λs39=>[bE QY u37 4 120 (s2.map ah.c)]) (λs39 q40 h js39=>?_) (λs39 q40 h js39=>?_) λs39 h=>?_
  ·refine gS Z q40<|gS Z q40<|gS Z q40<|gS Z q40<|oN (QE.pickT Z q40 (Bo QX) Z) ?_
   cases h
   exact js39 _ _<|kw Z Z
  ·refine gN Z q40 mv<|jB h λv41 cv41 h=>gA Z q40 (EvA.callT Z Z (Bc s2 cv41) (.cons (Fz.own (g:=false) (ver:=u37) (l:=s2) Z Z Z nofun ah.isF) .nil) Z)<|gN Z q40 mv<|gN Z q40 (QE.sne Z Z)<|oN (QE.pickF Z q40 (Bo<|!decide (v41=text)) Z) ?_
   cases h
   exact js39 _ _<|kw Z Z
  refine jA ?_;refine jN Z h (λq42 h=>?_) λq42 h=>?_
  ·refine jI<|oN (QE.mkF (c:=ah.c) ([]:List ah) [] CE Z Z Z qD ah.isF Z)<|oN as'<|oN as'<|jA<|jK ?_;obtain rfl:=QG h
   repeat (first|refine jh ?_|refine ji ?_)
   exact jQ (vs:=[eL ah.c ([]:List ah),Bo QY]) (.cons (.tmp Z)<|.cons (.tmp Z) .nil)<|.tupL<|.cons (qC Z)<|.cons (qC Z) .nil
  refine jG<|jI<|oN mv<|oN (QE.asg (hS QY 0 u37 4 s2.length) Z)<|oN as'<|jA<|jK ?_;obtain rfl:=QG h
  repeat (first|refine jh ?_|refine ji ?_)
  exact jQ (vs:=[hS QY 0 u37 4 s2.length,Bo QX]) (.cons (.tmp Z)<|.cons (.tmp Z) .nil)<|.tupL<|.cons (Fz.own (g:=false) (ver:=u37) (l:=s2) Z Z Z nofun ah.isF)<|.cons (qC Z) .nil
 refine jI<|oN as'<|jA<|jE ?_;refine jO (S:=(List ah)×Int) (G:=Nat) (fL v1) (λs6 gh=>True) (λs6 gh=>[(6,I s6.2),(5,eL cS v1),(4,hS QY 0 gh 4 s6.1.length),(0,St text)]) (λs6 gh=>[bE QY gh 4 120 (s6.1.map ah.c)]) (s0:=(([]:List ah),U)) 0 h trivial (kw Z Z) λs6 u8 ws6 h hg=>?_;refine jH<|jI<|oN mv<|oN mv<|oN (QE.lenL Bu Z)<|oN (QE.ilt Z Z)<|oN mv ?_;refine TO.jB h 3 (λs9=>[(22,Bo s9),(6,I s6.2),(5,eL cS v1),(4,hS QY 0 u8 4 s6.1.length),(0,St text)]) (λs9=>[bE QY u8 4 120 (s6.1.map ah.c)]) (λs9 q10 h js9=>?_) (λs9 q10 h js9=>?_) λs9 h=>?_
 ·refine gN Z q10 mv<|gN Z q10 (QE.ile Z Z)<|oN (QE.pickT Z q10 (Bo<|Q3<|s6.2<=(5:Int)) Z) ?_
  cases h
  exact js9 _ _<|kw Z Z
 ·refine gS Z q10<|gS Z q10<|oN (QE.pickF Z q10 (Bo QY) Z) ?_
  cases h
  exact js9 _ _<|kw Z Z
 refine jA ?_;refine jN Z h (λq11 h=>?_) λq11 h=>?_
 ·refine jG ?_;obtain ⟨Ks12,es12,ws12,h,ks12⟩:=tX h;refine T.join (S:=(List ah)) (G:=Nat) (λs12=>Ks12 s12=QZ ws6) (λs12 gh=>True) (λs12 gh=>[(4,hS QY 0 gh 4 s12.length),(6,I s6.2),(5,eL cS v1),(0,St text)]) (λs12 gh=>[bE QY gh 4 120 (s12.map ah.c)]) (λs12 u35 h hg=>?_) ?_
  ·clear ks12;subst es12;refine jC<|oN mv<|jW h λg36 h=>oN (QE.add Z Z g36)<|oN as'<|jA ?_;obtain rfl:=QG h;exact ⟨(s12,(s6.2+V)),u35,Z,trivial,kw Z Z⟩
  refine jE<|jI<|oN mv<|oN mv<|jD h λg13 h=>oN (QE.ixL Bu Z Z g13 qD)<|oN (lf (St<|J v1 s6.2) ty9 Z)<|oC h (λ_=>mE _ _) Z Z Z Z λv14 _ h=>oN as'<|jA<|jI<|oN (QE.build [I U,I U,St (⟨#[]⟩:BA),.nil] Tryz.underlying120 Lu Em Z Z)<|oA (EvA.al Lu Z Z)<|oV (sr [I U,I U,St (⟨#[]⟩:BA),.nil] Lt Z Z Z Z)<|jA ?_;refine T.jU h (λs15=>[(8,.hp 1 0 4 0 0),(7,eL cS v14),(6,I s6.2),(5,eL cS v1),(4,hS QY 0 u8 4 s6.1.length),(0,St text)]) (λs15=>[bE QY u8 4 120 (s6.1.map ah.c),QZ ⟨0,4,120,[[I s15,I U,St (⟨#[]⟩:BA),.nil]]⟩]) (λs15 h=>?_) λs15 h=>?_
  ·refine jH<|jI<|oN mv<|oN (QE.lenL Bu Z)<|oN (QE.ine Z Z)<|oN mv ?_;refine TO.jB h 4 (λs28=>[(54,Bo s28),(8,.hp 1 0 4 0 0),(7,eL cS v14),(6,I s6.2),(5,eL cS v1),(4,hS QY 0 u8 4 s6.1.length),(0,St text)]) (λs28=>[bE QY u8 4 120 (s6.1.map ah.c),QZ ⟨0,4,120,[[I s15,I U,St (⟨#[]⟩:BA),.nil]]⟩]) (λs28 q29 h js28=>?_) (λs28 q29 h js28=>?_) λs28 h=>?_
   ·refine gS Z q29<|gS Z q29<|gS Z q29<|oN (QE.pickT Z q29 (Bo QX) Z) ?_
    cases h
    exact js28 _ _<|kw Z Z
   ·refine gN Z q29 (fa Em Z)<|gA Z q29 (lh (I s15) QS Z Z Z)<|gN Z q29 (QE.ieq Z Z)<|oN (QE.pickF Z q29 (Bo<|s15==U) Z) ?_
    cases h
    exact js28 _ _<|kw Z Z
   refine jA ?_;refine jN Z h (λq30 h=>?_) λq30 h=>?_
   ·refine jI<|oN (QE.mkF (c:=ah.c) ([]:List ah) [] CE Z Z Z qD ah.isF Z)<|oN as'<|oN as'<|jA<|jK ?_;obtain rfl:=QG h;replace h:=congrArg QZ (show _=_ from ks12);refine lX h λh=>?_;obtain rfl:=QG h;replace h:=congrArg QZ (show _=_ from ks2);obtain rfl:=QG h
    repeat (first|refine jh ?_|refine ji ?_)
    exact jQ (vs:=[eL ah.c ([]:List ah),Bo QY]) (.cons (.tmp Z)<|.cons (.tmp Z) .nil)<|.tupL<|.cons (qC Z)<|.cons (qC Z) .nil
   refine jG<|jI<|oN mv<|jD h λg31 h=>oN (QE.ixL Bu Z Z g31 qD)<|oN (lf (St<|J v14 V) ty9 Z)<|oC h (λ_=>vV _) Z Z Z Z λv32 _ h=>oN mv<|oN (QE.ext (.agg<|aa.c v32.1) Z Z)<|oN (QE.ext (Bo v32.2) Z Z)<|oA (EvA.al mH Z Z)<|oV (sr (aa.c v32.1) bG Z Z Z Z)<|oN as'<|jA<|jH<|jI ?_;refine oN mv<|oN (QE.not Z)<|jA ?_;refine jN Z h (λq33 h=>?_) λq33 h=>?_
   ·refine jH<|T.clean (H0:=[bE QY u8 4 120 (s6.1.map ah.c),QZ ⟨0,4,120,[[I s15,I U,St (⟨#[]⟩:BA),.nil]]⟩,QZ ⟨0,3,116,[(aa.c v32.1)]⟩]) (e0:=ai []) Z wkN<|jC<|oN (QE.mkF (c:=ah.c) ([]:List ah) [] CE Z Z Z qD ah.isF Z)<|oN as'<|oN as'<|jA<|jK ?_;obtain rfl:=QG h;replace h:=congrArg QZ (show _=_ from ks12);refine lX h λh=>?_;obtain rfl:=QG h;replace h:=congrArg QZ (show _=_ from ks2);obtain rfl:=QG h
    repeat (first|refine jh ?_|refine ji ?_)
    exact jQ (vs:=[eL ah.c ([]:List ah),Bo QY]) (.cons (.tmp Z)<|.cons (.tmp Z) .nil)<|.tupL<|.cons (qC Z)<|.cons (qC Z) .nil
   refine jG<|jI<|oA (lh (.agg<|aa.c v32.1) bG Z Z Z)<|oN (fa Em Z)<|oV (sr (ah.c (⟨s15,v32.1⟩:ah)) bG Z Z Z Z)<|jA<|jC<|oN mv<|oA (lh (.agg<|ah.c (⟨s15,v32.1⟩:ah)) Lt Z Z Z)<|oN (QE.mkF (c:=ah.c) ([(⟨s15,(⟨v32.1.Op,v32.1.Name,v32.1.Kids⟩:aa)⟩:ah)]:List ah) [(ah.c (⟨s15,v32.1⟩:ah))] CE Z Z Z qD ah.isF Z)<|jL h λg34 h=>oA (EvA.app1 (g:=false) (l:=s6.1) (⟨s15,(⟨v32.1.Op,v32.1.Name,v32.1.Kids⟩:aa)⟩:ah) CE (by kernel_rfl) Z Z Z nofun (bh.fz (l:=([(⟨s15,(⟨v32.1.Op,v32.1.Name,v32.1.Kids⟩:aa)⟩:ah)]:List ah)) Z qD) g34)<|oN (QE.asg (hS QY 0 (u8+1) 4<|(s6.1++[(⟨s15,(⟨v32.1.Op,v32.1.Name,v32.1.Kids⟩:aa)⟩:ah)]).length) Z)<|jA ?_;obtain rfl:=QG h;exact ⟨(s6.1++[(⟨s15,(⟨v32.1.Op,v32.1.Name,v32.1.Kids⟩:aa)⟩:ah)]),u8+1,ks12,trivial,n9 Z (.cons (.list (g:=false) (ver:=u8+1) (l:=(s6.1++[(⟨s15,(⟨v32.1.Op,v32.1.Name,v32.1.Kids⟩:aa)⟩:ah)])) ah.isF) .nil)<|aj (.hS (g:=false) (b:=0) (ver:=u8+1) (s:=4) (n:=(s6.1++[(⟨s15,(⟨v32.1.Op,v32.1.Name,v32.1.Kids⟩:aa)⟩:ah)]).length) Z)<|aj (.fz<|qC Z)<|aj (.fz<|qC Z)<|aj (.fz<|qC Z) aF⟩
  refine jI<|oN as'<|jA<|jE ?_;refine T.lU h (λs18=>[(9,I s18.2),(8,.hp 1 0 4 0 0),(7,eL cS v14),(6,I s6.2),(5,eL cS v1),(4,hS QY 0 u8 4 s6.1.length),(0,St text)]) (λs18=>[bE QY u8 4 120 (s6.1.map ah.c),QZ ⟨0,4,120,[[I s18.1,I U,St (⟨#[]⟩:BA),.nil]]⟩]) (kw Z Z) λs18 ws18 h=>?_;refine jH<|jI<|oN mv<|oC h (λ_=>oO) Z Z Z Z λv20 _ h=>oN (QE.lenL Bu Z)<|oN (QE.ilt Z Z)<|jA ?_;refine jN Z h (λq21 h=>?_) λq21 h=>?_
  ·refine jG ?_;refine T.jU h (λs22=>[(9,I s18.2),(8,.hp 1 0 4 0 0),(7,eL cS v14),(6,I s6.2),(5,eL cS v1),(4,hS QY 0 u8 4 s6.1.length),(0,St text)]) (λs22=>[bE QY u8 4 120 (s6.1.map ah.c),QZ ⟨0,4,120,[[I s22,I U,St (⟨#[]⟩:BA),.nil]]⟩]) (λs22 h=>?_) λs22 h=>?_
   ·refine jC<|oN mv<|jW h λg27 h=>oN (QE.add Z Z g27)<|oN as'<|jA ?_;exact lE h<|kw Z Z
   refine jE<|jH<|jP (λ_=>([],QY)) (by kernel_rfl) (by kernel_rfl)<|fN Z mv<|jD h λg23 h=>fN Z (QE.ixL Bu Z Z g23 qD)<|fN Z (lf (St<|J v14 U) ty9 Z)<|fC h (λ_=>oO) Z Z Z Z Z λv24 _ h=>fN Z mv<|jD h λg25 h=>fN Z (QE.ixL Bu Z Z g25 qD)<|fN Z (lf (St<|J v24 s18.2) ty9 Z)<|fN Z (QE.seq Z Z)<|jR ?_;refine jN Z h (λq26 h=>?_) λq26 h=>?_
   ·refine jC<|oN mv<|oN (fa Em Z)<|oV (sr [I s18.2,I U,St (⟨#[]⟩:BA),.nil] QS Z Z Z Z)<|jA ?_
    cases h
    exact ⟨(),trivial,kw Z Z⟩
   refine jG ?_
   cases h
   exact ⟨(),trivial,kw Z Z⟩
  refine jM<|lX h λh=>?_
  cases h
  exact ⟨(),trivial,kw Z Z⟩
 refine jM<|lX h λh=>?_;obtain rfl:=QG h;exact ⟨s6.1,u8,ks2,trivial,kw Z Z⟩
theorem Bd (r_:ae) (aJ:Nat) {q} (h:nQ r_=QZ q):dX Q4 99 [.hp 0 aJ 2 0 0] [QZ ⟨aJ,2,157,[(ae.c r_)]⟩] (eL ah.c q.2) [QZ ⟨aJ,2,157,[[eL cY q.1.b,I q.1.p]]⟩]:=by
 refine aM func99 Z (by kernel_rfl) Z<|jI<|oN as'<|jA<|jI<|oC h (λ_=>zX) Z Z Z Z λv1 _ h=>oN as'<|jA<|jH<|jI<|oN mv<|jB h λv2 cv2 h=>oA (EvA.call Z Z Z<|(av (⟨r_.b,r_.p⟩:ae) (3:Int) aJ cv2).one 0 Z (.cons (.hp Z)<|.cons (.pF Z) .nil) (ak Z) (ak Z) Z)<|oN (QE.igt Z Z)<|jA ?_;refine jN Z h (λq3 h=>?_) λq3 h=>?_
 ·refine jI<|oN mv<|oN mv<|oN mv<|oN (QE.lenL Bu Z)<|jB h λv4 cv4 h=>oA (EvA.call Z Z Z<|(av (⟨v2.1.b,v2.1.p⟩:ae) (v1.length:Int) aJ cv4).one 0 Z (.cons (.hp Z)<|.cons (.pF Z) .nil) (ak Z) (ak Z) Z)<|jD h λg5 h=>oN (QE.ixL Bu Z Z g5 qD)<|oN (lf (St<|J v1 v4.2) ty9 Z)<|oC h (λ_=>xH _) Z Z Z Z λv6 _ h=>oN mv<|oN (QE.ext (eL ah.c v6.1) Z Z)<|oN (QE.ext (Bo v6.2) Z Z)<|oN as'<|oN as' ?_;refine jA<|jH<|T.clean (H0:=[QZ ⟨aJ,2,157,[[eL cY v4.1.b,I v4.1.p]]⟩]) (e0:=ai [(4,eL ah.c v6.1)]) Z (QD Z wkN)<|jC<|oN mv<|oN as'<|jA<|jK ?_;obtain rfl:=QG h
  repeat (first|refine jh ?_|refine ji ?_)
  exact ⟨ai [(2,eL ah.c v6.1)],[QZ ⟨aJ,2,157,[(ae.c (⟨v4.1.b,v4.1.p⟩:ae))]⟩],kw Z Z,jQ (vs:=[eL ah.c v6.1]) (.cons (.tmp Z) .nil) ⟨Z,Z⟩⟩
 refine jG<|jI<|oA (EvA.mkO (c:=ah.c) ([]:List ah) [] CE Z Z Z qD Z Z)<|oN (QE.asg (hS QY 1 0 4<|([]:List ah).length) Z)<|jA ?_;refine T.jF (G:=Nat) h (λs7 gh=>True) (λs7 gh=>[(6,hS QY 1 gh 4 s7.2.2.length)]) (λs7 gh=>[QZ ⟨aJ,2,157,[[eL cY s7.1,I s7.2.1]]⟩,bE QY gh 4 120 (s7.2.2.map ah.c)]) (λs7 u22 h hg=>?_) λs7 h=>?_
 ·refine jI<|oN mv<|oN (QE.asg (hS QY 1 u22 4 s7.2.2.length) Z)<|jA<|jK ?_;obtain rfl:=QG h
  repeat (first|refine jh ?_|refine ji ?_)
  exact ⟨ai [(2,eL ah.c s7.2.2)],[QZ ⟨aJ,2,157,[(ae.c (⟨s7.1,s7.2.1⟩:ae))]⟩],n9 Z (.cons (.row<|.cons (.fz<|qC Z)<|.cons (.fz<|qC Z) .nil) .nil)<|aj (.fz<|Fz.own (g:=false) (ver:=u22) (l:=s7.2.2) Z Z Z nofun ah.isF) aF,jQ (vs:=[eL ah.c s7.2.2]) (.cons (.tmp Z) .nil) ⟨Z,Z⟩⟩
 refine jI<|oN mv<|jB h λv8 cv8 h=>oA (EvA.call Z Z Z<|(av (⟨v2.1.b,v2.1.p⟩:ae) (2:Int) aJ cv8).one 0 Z (.cons (.hp Z)<|.cons (.pF Z) .nil) (ak Z) (ak Z) Z)<|jW h λg9 h=>oN (QE.add Z Z g9)<|oN as'<|jA<|jE ?_;refine jO (S:=(LI)×Int×(List ah)×Int) (G:=Nat) mb (λs13 gh=>True) (λs13 gh=>[(7,I s13.2.2.2),(6,hS QY 1 gh 4 s13.2.2.1.length),(0,.hp 0 aJ 2 0 0)]) (λs13 gh=>[QZ ⟨aJ,2,157,[[eL cY s13.1,I s13.2.1]]⟩,bE QY gh 4 120 (s13.2.2.1.map ah.c)]) (s0:=(v8.1.b,v8.1.p,([]:List ah),(V+v8.2))) 0 h trivial (kw Z Z) λs13 u15 ws13 h hg=>?_;refine jH<|jI<|oN mv<|oN (QE.igt Z Z)<|jA ?_;refine jN Z h (λq16 h=>?_) λq16 h=>?_
 ·refine jG<|jH<|jE<|jC<|oN mv<|oN mv<|jB h λv17 cv17 h=>oA (EvA.call Z Z Z<|(av (⟨s13.1,s13.2.1⟩:ae) (3:Int) aJ cv17).one 0 Z (.cons (.hp Z)<|.cons (.pF Z) .nil) (ak Z) (ak Z) Z)<|jW h λg18 h=>oN (QE.add Z Z g18)<|oN mv<|jB h λv19 cv19 h=>oA (EvA.call Z Z Z<|(vS (⟨v17.1.b,v17.1.p⟩:ae) (3:Int) aJ cv19).one 0 Z (.cons (.hp Z)<|.cons (.pF Z) .nil) (ak Z) (ak Z) Z)<|oN (QE.build (ah.c (⟨(V+v17.2),v19.2⟩:ah)) Tryz.underlying120 Lu Em Z Z)<|oN (QE.mkF (c:=ah.c) ([(⟨(V+v17.2),(⟨v19.2.Op,v19.2.Name,v19.2.Kids⟩:aa)⟩:ah)]:List ah) [(ah.c (⟨(V+v17.2),v19.2⟩:ah))] CE Z Z Z qD ah.isF Z)<|jL h λg20 h=>?_;refine oA (EvA.app1 (g:=false) (l:=s13.2.2.1) (⟨(V+v17.2),(⟨v19.2.Op,v19.2.Name,v19.2.Kids⟩:aa)⟩:ah) CE (by kernel_rfl) Z Z Z nofun (bh.fz (l:=([(⟨(V+v17.2),(⟨v19.2.Op,v19.2.Name,v19.2.Kids⟩:aa)⟩:ah)]:List ah)) Z qD) g20)<|oN (QE.asg (hS QY 1 (u15+1) 4<|(s13.2.2.1++[(⟨(V+v17.2),(⟨v19.2.Op,v19.2.Name,v19.2.Kids⟩:aa)⟩:ah)]).length) Z)<|jA<|jC<|oN mv<|jW h λg21 h=>oN (QE.sub Z Z g21)<|oN as'<|jA ?_;obtain rfl:=QG h;exact ⟨(v19.1.b,v19.1.p,(s13.2.2.1++[(⟨(V+v17.2),(⟨v19.2.Op,v19.2.Name,v19.2.Kids⟩:aa)⟩:ah)]),(s13.2.2.2-V)),u15+1,Z,trivial,kw Z Z⟩
 refine jM<|lX h λh=>?_
 cases h
 exact ⟨u15,trivial,kw Z Z⟩
theorem wM (r_:ae) (m:List ah) (aJ:Nat) {q} (h:iO r_ m=QZ q):dX Q4 98 [.hp 0 aJ 2 0 0,eL ah.c m] [QZ ⟨aJ,2,157,[(ae.c r_)]⟩] (eL ah.c q.2) [QZ ⟨aJ,2,157,[[eL cY q.1.b,I q.1.p]]⟩]:=by
 refine aM func98 Z (by kernel_rfl) Z<|jI<|oN as'<|jA<|jI<|oA (EvA.mkO (c:=ah.c) ([]:List ah) [] CE Z Z Z qD Z Z)<|oN mv<|jL h λg1 h=>oA (EvA.appF (l:=([]:List ah)) m CE (by kernel_rfl) Z Z Z (bh.fz (l:=m) Z qD) g1)<|oN (QE.asg (hS QY 1 (0+1) 4<|(([]:List ah)++m).length) Z)<|jA ?_;refine T.jF (G:=Nat) h (λs2 gh=>True) (λs2 gh=>[(5,eL ah.c s2.2.2.2)]) (λs2 gh=>[QZ ⟨aJ,2,157,[[eL cY s2.1,I s2.2.1]]⟩]) (λs2 u21 h hg=>?_) λs2 h=>?_
 ·refine jI<|oN mv<|oN as'<|jA<|jK ?_;obtain rfl:=QG h
  repeat (first|refine jh ?_|refine ji ?_)
  exact ⟨ai [(4,eL ah.c s2.2.2.2)],[QZ ⟨aJ,2,157,[(ae.c (⟨s2.1,s2.2.1⟩:ae))]⟩],n9 Z (.cons (.row<|.cons (.fz<|qC Z)<|.cons (.fz<|qC Z) .nil) .nil)<|aj (.fz<|qC Z) aF,jQ (vs:=[eL ah.c s2.2.2.2]) (.cons (.tmp Z) .nil) ⟨Z,Z⟩⟩
 refine jI<|oN mv<|jB h λv3 cv3 h=>oA (EvA.call Z Z Z<|(av (⟨r_.b,r_.p⟩:ae) (24:Int) aJ cv3).one 0 Z (.cons (.hp Z)<|.cons (.pF Z) .nil) (ak Z) (ak Z) Z)<|jA<|jE<|jI<|oN (QE.ieq Z Z)<|oN as'<|jA ?_;refine jN Z h (λq4 h=>?_) λq4 h=>?_
 ·refine jC<|oN mv<|oN mv<|oN (QE.mkF (c:=cI) ([(0:Int),(4:Int),(2:Int)]:LI) [[I U],[I (4:Int)],[I (2:Int)]] je Z Z Z qD qD Z)<|jB h λv5 cv5 h=>oA (EvA.call Z Z Z<|(bw (⟨v3.1.b,v3.1.p⟩:ae) ([(0:Int),(4:Int),(2:Int)]:LI) aJ cv5).one 0 Z (.cons (.hp Z)<|.cons (.pF Z) .nil) (ak Z) (ak Z) Z)<|jD h λg6 h=>oN (QE.ixO (g:=false) CE Z Z nofun g6)<|oN (fa Em Z)<|oV (EvA.stO (g:=false) (l:=(([]:List ah)++m)) (cs:=[I v5.2]) ({ ((([]:List ah)++m).getD (U.toNat) QW) with Kind:=v5.2 }) QS Z Z Z nofun (bA Z g6) Z Z Z)<|jA ?_;obtain rfl:=QG h;exact ⟨0+1,trivial,n9 Z (.cons (.row<|.cons (.fz<|qC Z)<|.cons (.fz<|qC Z) .nil) .nil)<|aj (.fz<|Fz.own (g:=false) (ver:=0+1) (l:=((([]:List ah)++m).set ((0:Int).toNat)<|{ ((([]:List ah)++m).getD ((0:Int).toNat) QW) with Kind:=v5.2 })) Z Z (by simp) nofun ah.isF) aF⟩
 refine jI<|oN (QE.ieq Z Z)<|oN as'<|jA ?_;refine jN Z h (λq7 h=>?_) λq7 h=>?_
 ·refine jC<|oN mv<|oN mv<|oN mv<|jD h λg8 h=>oN (QE.ixO (g:=false) CE Z Z nofun g8)<|oN (fa Em Z)<|oA (EvA.ldO (g:=false) (l:=(([]:List ah)++m)) (.agg<|aa.c<|((([]:List ah)++m).getD (U.toNat) QW).Expr) bG Z Z nofun (bA Z g8) Z)<|jB h λv9 cv9 h=>oA (EvA.call Z Z Z<|(zV (⟨v3.1.b,v3.1.p⟩:ae) (⟨(((([]:List ah)++m).getD (U.toNat) QW).Expr).Op,(((([]:List ah)++m).getD (U.toNat) QW).Expr).Name,(((([]:List ah)++m).getD (U.toNat) QW).Expr).Kids⟩:aa) aJ cv9).one 0 Z (.cons (.hp Z)<|.cons (.pF Z) .nil) (ak Z) (ak Z) Z)<|oN (QE.ixO (g:=false) CE Z Z nofun g8)<|oN (fa Em Z)<|oV (EvA.stO (g:=false) (l:=(([]:List ah)++m)) (cs:=(aa.c v9.2)) ({ ((([]:List ah)++m).getD (U.toNat) QW) with Expr:=v9.2 }) bG Z Z Z nofun (bA Z g8) Z Z Z)<|jA ?_;obtain rfl:=QG h;exact ⟨0+1,trivial,n9 Z (.cons (.row<|.cons (.fz<|qC Z)<|.cons (.fz<|qC Z) .nil) .nil)<|aj (.fz<|Fz.own (g:=false) (ver:=0+1) (l:=((([]:List ah)++m).set ((0:Int).toNat)<|{ ((([]:List ah)++m).getD ((0:Int).toNat) QW) with Expr:=v9.2 })) Z Z (by simp) nofun ah.isF) aF⟩
 refine jI<|oN (QE.ieq Z Z)<|oN as'<|jA ?_;refine jN Z h (λq10 h=>?_) λq10 h=>?_
 ·refine jC<|oA (EvA.mkO (c:=ah.c) ([]:List ah) [] CE Z Z Z qD Z Z)<|oN (QE.asg (hS QY 2 0 4<|([]:List ah).length) Z)<|jA ?_
  cases h
  exact ⟨0+1,trivial,n9 Z (.cons (.row<|.cons (.fz<|qC Z)<|.cons (.fz<|qC Z) .nil) .nil)<|aj (.fz<|Fz.own (g:=false) (ver:=0) (l:=([]:List ah)) Z Z Z nofun ah.isF) aF⟩
 refine jI<|oN (QE.ieq Z Z)<|oN as'<|jA ?_;refine jN Z h (λq11 h=>?_) λq11 h=>?_
 ·refine jE ?_;refine jO (S:=(List ah)) (G:=Nat) (iD v3) (λs15 gh=>True) (λs15 gh=>[(5,hS QY 1 gh 4 s15.length)]) (λs15 gh=>[QZ ⟨aJ,2,157,[(ae.c v3.1)]⟩,bE QY gh 4 120 (s15.map ah.c)]) (s0:=(([]:List ah)++m)) (0+1) h trivial (kw Z Z) λs15 u17 ws15 h hg=>?_;refine jH<|jI<|oN mv<|oN (QE.lenO (g:=false) CE Z nofun)<|oN (QE.ile Z Z)<|jA ?_;refine jN Z h (λq18 h=>?_) λq18 h=>?_
  ·refine jG<|jE<|jC<|oN mv<|oN mv<|jD h λg19 h=>oN (QE.ixO (g:=false) CE Z Z nofun g19)<|oA (EvA.ldO (g:=false) (l:=s15) (.agg<|ah.c<|s15.getD (U.toNat) QW) Lt Z Z nofun (bA Z g19) Z)<|oN (QE.mkF (c:=ah.c) ([(s15.getD (U.toNat) QW)]:List ah) [(ah.c (⟨(s15.getD (U.toNat) QW).Kind,((s15.getD (U.toNat) QW).Expr)⟩:ah))] CE Z Z Z qD ah.isF Z)<|jL h λg20 h=>oA (EvA.app1 (g:=false) (l:=s15) (s15.getD (U.toNat) QW) CE (by kernel_rfl) Z Z Z nofun (bh.fz (l:=([(s15.getD (U.toNat) QW)]:List ah)) Z qD) g20)<|oN (QE.asg (hS QY 1 (u17+1) 4<|(s15++[(s15.getD (U.toNat) QW)]).length) Z)<|jA ?_;obtain rfl:=QG h;exact ⟨(s15++[(s15.getD (U.toNat) QW)]),u17+1,Z,trivial,kw Z Z⟩
  refine jM<|lX h λh=>?_;obtain rfl:=QG h;exact ⟨u17,trivial,n9 Z (.cons (.row<|.cons (.fz<|qC Z)<|.cons (.fz<|qC Z) .nil) .nil)<|aj (.fz<|Fz.own (g:=false) (ver:=u17) (l:=s15) Z Z Z nofun ah.isF) aF⟩
 refine jG ?_
 cases h
 exact ⟨0+1,trivial,n9 Z (.cons (.row<|.cons (.fz<|qC Z)<|.cons (.fz<|qC Z) .nil) .nil)<|aj (.fz<|Fz.own (g:=false) (ver:=0+1) (l:=(([]:List ah)++m)) Z Z Z nofun ah.isF) aF⟩
theorem uz (code:LI) {q} (h:ja code=QZ q):ax Q4 44 [eL cY code] (.tup [eL (cL QH.c) q.1,.agg (QI.c q.2.1),eL ah.c q.2.2]):=by
 refine pM func44 Z (by kernel_rfl) Z<|jI<|oN as'<|oA (EvA.al Gx Z Z)<|oN as'<|jA<|jI<|oN mv<|jB h λv1 cv1 h=>oA (EvA.call Z Z Z<|(AZ code cv1).fresh Z (ak Z) 1 Z)<|oN as'<|jA<|jI<|oN mv<|jB h λv2 cv2 h=>oA (EvA.call Z Z Z<|(CB (⟨v1.b,v1.p⟩:ae) 0 cv2).one 1 Z (.cons (.hp Z) .nil) (ak Z) (ak Z) Z) ?_;refine oN mv<|oN (QE.ext (eL (cL QH.c) v2.2.1) Z Z)<|oN (QE.ext (.agg<|QI.c v2.2.2) Z Z)<|oA (EvA.al Gx Z Z)<|oN as'<|oV (sr (QI.c v2.2.2) yx Z Z Z Z)<|jA<|jI<|oN mv<|oN mv<|jB h λv3 cv3 h=>oA (EvA.call Z Z Z<|(Bd (⟨v2.1.b,v2.1.p⟩:ae) 0 cv3).one 1 Z (.cons (.hp Z) .nil) (ak Z) (ak Z) Z)<|jB h λv4 cv4 h=>oA (EvA.call Z Z Z<|(wM (⟨v3.1.b,v3.1.p⟩:ae) v3.2 0 cv4).one 1 Z (.cons (.hp Z)<|.cons (.pF Z) .nil) (ak Z) (ak Z) Z)<|oN as'<|jA ?_;refine jI<|oN mv<|oN mv<|oA (lh (.agg<|QI.c v2.2.2) yx Z Z Z)<|jB h λv5 cv5 h=>oA (EvA.call Z Z Z<|(zW (⟨v4.1.b,v4.1.p⟩:ae) (⟨v2.2.2.From,v2.2.2.Order⟩:QI) 0 cv5).one 1 Z (.cons (.hp Z)<|.cons (.pF Z) .nil) (ak Z) (ak Z) Z)<|oN mv<|oN as'<|oV (sr (QI.c v5.2) yx Z Z Z Z)<|oN as'<|jA<|jK ?_;obtain rfl:=QG h
 repeat (first|refine jh ?_|refine ji ?_)
 exact jQ (vs:=[eL (cL QH.c) v2.2.1,.agg (QI.c v5.2),eL ah.c v4.2]) (.cons (.tmp Z)<|.cons (.cell (.agg<|QI.c v5.2) yx Z Z Z Z Z Z)<|.cons (.tmp Z) .nil)<|.tupL<|.cons (qC Z)<|.cons (qC Z)<|.cons (qC Z) .nil
theorem tH (code:LI) {q} (h:dK code=QZ q):ax Q4 15 [eL cY code] (.tup [eL (cL QH.c) q.1,.agg (QI.c q.2.1),eL ah.c q.2.2]):=by
 refine pM func15 Z (by kernel_rfl) Z<|jI<|oN as'<|oA (EvA.al Gx Z Z)<|oN as'<|jA<|jI<|oN mv<|oC h (λ_=>uz _) Z Z Z Z λv1 _ h=>oN (QE.ext (eL (cL QH.c) v1.1) Z Z)<|oN (QE.ext (.agg<|QI.c v1.2.1) Z Z)<|oN (QE.ext (eL ah.c v1.2.2) Z Z)<|oN as'<|oV (sr (QI.c v1.2.1) yx Z Z Z Z)<|oN as'<|jA ?_;refine jK ?_;obtain rfl:=QG h
 repeat (first|refine jh ?_|refine ji ?_)
 exact jQ (vs:=[eL (cL QH.c) v1.1,.agg (QI.c v1.2.1),eL ah.c v1.2.2]) (.cons (.tmp Z)<|.cons (.cell (.agg<|QI.c v1.2.1) yx Z Z Z Z Z Z)<|.cons (.tmp Z) .nil)<|.tupL<|.cons (qC Z)<|.cons (qC Z)<|.cons (qC Z) .nil
theorem ve (code:LI) {q} (h:db code=QZ q):ax Q4 4 [eL cY code] (Bo q):=by
 refine pM func4 Z (by kernel_rfl) Z<|jI<|oN as'<|jA<|jH<|jI<|oN mv<|oN (QE.lenL Ir Z)<|oN (QE.igt Z Z)<|jA ?_;refine jN Z h (λq1 h=>?_) λq1 h=>?_
 ·refine jI<|oN as'<|jA<|jK ?_
  cases h
  exact vq Z Z Z
 refine jG<|jI<|oN mv<|oC h (λ_=>tH _) Z Z Z Z λv2 _ h=>oN mv<|oN (QE.ext (eL (cL QH.c) v2.1) Z Z)<|oN (QE.ext (.agg<|QI.c v2.2.1) Z Z)<|oN (QE.ext (eL ah.c v2.2.2) Z Z)<|oA (EvA.al Gx Z Z)<|oN as'<|oV (sr (QI.c v2.2.1) yx Z Z Z Z)<|oN as'<|jA<|jI<|oN mv<|oA (lh (.agg<|QI.c v2.2.1) yx Z Z Z) ?_;refine oN mv<|oC h (λ_=>wL _ _ _) Z Z Z Z λv3 _ h=>oN as'<|jA<|jI<|oN mv<|oA (lh (.agg<|QI.c v2.2.1) yx Z Z Z)<|oN mv<|oC h (λ_=>xG _ _ _) Z Z Z Z λv4 _ h=>oN mv<|oN (QE.ext (I v4.1) Z Z)<|oN (QE.ext (Bo v4.2) Z Z)<|oN as'<|oN as'<|jA<|jH ?_;refine T.clean (H0:=[QZ ⟨0,2,27,[(QI.c v2.2.1)]⟩]) (e0:=ai [(8,Bo v4.2),(7,I v4.1),(6,St v3),(5,eL ah.c v2.2.2),(3,eL (cL QH.c) v2.1),(4,.hp 0 0 2 0 0)]) Z (QD Z<|QD Z<|QD Z<|QD Z<|QD Z<|QD Z wkN)<|jC<|oN mv<|oA (lh (.agg<|QI.c v2.2.1) yx Z Z Z)<|oC h (λ_=>zQ _ _) Z Z Z Z λv5 _ h=>oN mv<|oN (QE.ext (eL cI v5.1) Z Z)<|oN (QE.ext (Bo v5.2) Z Z)<|oN as'<|oN as'<|jA<|jH<|jI<|oN mv<|oN mv<|oA (lh (.agg<|QI.c v2.2.1) yx Z Z Z) ?_;refine oN mv<|oC h (λ_=>pu _ _ _) Z Z Z Z λv6 _ h=>oN (QE.sne Z Z)<|oN mv ?_;refine TO.jB h 3 (λs7=>[(46,Bo s7),(10,Bo v5.2),(7,I v4.1),(6,St v3),(5,eL ah.c v2.2.2),(3,eL (cL QH.c) v2.1),(4,.hp 0 0 2 0 0)]) (λs7=>[QZ ⟨0,2,27,[(QI.c v2.2.1)]⟩]) (λs7 q8 h js7=>?_) (λs7 q8 h js7=>?_) λs7 h=>?_
 ·refine gS Z q8<|gS Z q8<|oN (QE.pickT Z q8 (Bo QX) Z) ?_
  cases h
  exact js7 _ _<|kw Z Z
 ·refine gN Z q8 mv<|gN Z q8 (QE.not Z)<|oN (QE.pickF Z q8 (Bo<|!v4.2) Z) ?_
  cases h
  exact js7 _ _<|kw Z Z
 refine jA ?_;refine jN Z h (λq9 h=>?_) λq9 h=>?_
 ·refine jI<|oN mv<|oN mv<|oA (lh (.agg<|QI.c v2.2.1) yx Z Z Z)<|oN mv<|oC h (λ_=>pu _ _ _) Z Z Z Z λv10 _ h=>oN (QE.seq Z Z)<|oN mv ?_;refine TO.jB h 3 (λs11=>[(56,Bo s11)]) (λs11=>[QZ ⟨0,2,27,[(QI.c v2.2.1)]⟩]) (λs11 q12 h js11=>?_) (λs11 q12 h js11=>?_) λs11 h=>?_
  ·refine gN Z q12 mv<|gN Z q12 (QE.seq Z Z)<|oN (QE.pickT Z q12 (Bo<|Q3<|v3=(⟨#[]⟩:BA)) Z) ?_
   cases h
   exact js11 _ _<|kw Z Z
  ·refine gS Z q12<|gS Z q12<|oN (QE.pickF Z q12 (Bo QY) Z) ?_
   cases h
   exact js11 _ _<|kw Z Z
  refine oN as'<|jA<|jK ?_
  cases h
  exact vq Z Z Z
 refine jG<|jI<|oN mv<|oN (QE.seq Z Z)<|oN mv<|oN mv ?_;refine TO.jB h 3 (λs13=>[(63,Bo s13),(58,Bo<|Q3<|v3=(⟨#[97,108,108,111,119,101,100]⟩:BA)),(10,Bo v5.2),(6,St v3)]) (λs13=>[QZ ⟨0,2,27,[(QI.c v2.2.1)]⟩]) (λs13 q14 h js13=>?_) (λs13 q14 h js13=>?_) λs13 h=>?_
 ·refine gN Z q14 mv<|gN Z q14 (QE.ieq Z Z)<|oN (QE.pickT Z q14 (Bo<|v4.1==(-1:Int)) Z) ?_
  cases h
  exact js13 _ _<|kw Z Z
 ·refine gS Z q14<|gS Z q14<|oN (QE.pickF Z q14 (Bo QY) Z) ?_
  cases h
  exact js13 _ _<|kw Z Z
 refine oN (QE.beq bt4 Z Z)<|oN mv ?_;refine TO.jB h 6 (λs15=>[(71,Bo s15)]) (λs15=>[QZ ⟨0,2,27,[(QI.c v2.2.1)]⟩]) (λs15 q16 h js15=>?_) (λs15 q16 h js15=>?_) λs15 h=>?_
 ·refine gN Z q16 mv<|gN Z q16 (QE.seq Z Z)<|gN Z q16 mv<|gN Z q16 (QE.not Z)<|gN Z q16 (QE.beq bt4 Z Z)<|oN (QE.pickT Z q16 (Bo<|(Q3<|v3=(⟨#[118,97,108,117,101,115]⟩:BA))==(!v5.2)) Z) ?_
  cases h
  exact js15 _ _<|kw Z Z
 ·refine gS Z q16<|gS Z q16<|gS Z q16<|gS Z q16<|gS Z q16<|oN (QE.pickF Z q16 (Bo QY) Z) ?_
  cases h
  exact js15 _ _<|kw Z Z
 refine oN as'<|jA<|jK ?_
 cases h
 exact vq Z Z Z
open Go.ChangeShapes Go.WideShapes Go.ChangeAt Go.RowKit Go.WideElems
def Kw (P:Program) (ns:List String):Bool:=ns.all λn=>((P.globalNamed n).bind (P.globals[·]?)).all λgl=>P.readableRec gl.type&&Q3 (gl.type<P.types.size)
theorem wZ {H:Type} {enc:TypeId×Value->H} {P:Program} (hl:laidOutB P=QX) {W W':World} (hb:Below W.heap.size W W') {sp:Nat->Bool} :
  ∀ {ns:List String} {gs:List (DataW H)} {ps:List MemPlace},Kw P ns=QX->DataW.TrodVars enc P W (λ_=>QX) ns gs ps->(∀ x∈ps,sp x.block=QX)->DataW.TrodVars enc P W' sp ns gs ps
 | [],[],_,_,h,_=>h
 | [],_::_,_,_,h,_=>h.elim
 | _::_,[],_,_,h,_=>h.elim
 | n::ns,d::ds,ps,hv,h,hsp=>by
  have hlt:=h.lt;obtain ⟨g,t,cs,fuel,p,q,h1,h2,h3,h4,hs,e⟩:=h;simp only [Kw,List.all_cons,bae] at hv;have ht:P.readableRec t=QX/\t<P.types.size:=by
   have := hv.1;rw [h1] at this
   cases hg:P.globals[g]? with
   | none=>simp_all
   | some gl=>
    simp_all
  have hp:∀ x∈p,x.block<W.heap.size:=λx hx=>hlt x (by simp_all);have h3':W'.var? P n=QZ cs:=by
   unfold World.var? at h3 ⊢;rw [h1] at h3 ⊢;simp only [Option.bind_some] at h3 ⊢;have hg:g<W.heap.size:=by
    cases hh:W.heap[g]? with
    | none=>simp_all
    | some o=>grind
   rw [hb.block g hg];exact h3
  exact ⟨g,t,cs,fuel,p,q,h1,h2,h3',DataW.trod_stays (kids_book hl ht.1) (book_sized ht.1) (λh=>by cases h) ⟨ht.2,book_self t⟩ h4 (λx hx=>hb.same (hp x hx)) (λx hx=>hsp x (by simp_all)),
   wZ hl hb (by simpa [Kw] using hv.2) hs (λx hx=>hsp x (by simp_all)),e⟩
theorem Ky {P:Program} {W:World} {n:String} {d:DataW Unit} {g t e:Nat} {ss:List BA} {l:List (String×DataW Unit)} (hm:laidMetH P l W) (hf:(l.filter λx=>x.1==n)=[(n,d)]) (hn:d.handleName?.isNone=QX)
  (hg:P.globalNamed n=QZ g) (ht:(P.globals[g]?).map (·.type)=QZ t) (hu:P.underlying t=QZ (.array ss.length e)) (hs:P.underlying e=QZ .string) (hc:P.cellsOf e=1) (hd:d = .agg (ss.map λs => .lit<|.string s.data.toList)) :
  ∀ j,j<ss.length->W.cell? ⟨g,j,Q0⟩=(ss[j]?).map .string:=by
 have h1:=hm.filter λx=>x.1==n;rw [hf,MakeChecks.laidMetH_plain _ _ _ (by simp [hn])] at h1;obtain ⟨ps,⟨g',t',cs,fuel,p,q,hg',ht',hv,hr,_,_⟩,_,_⟩:=h1;obtain rfl:=osl<|hg.symm.trans hg';obtain rfl:=osl<|ht.symm.trans ht';obtain ⟨xs,m,_,ex,hlen,hl,hel⟩:=DataW.trod_array hu hr;intro j hj;have hE:=hel j hj;rw [hc,Nat.mul_one,geq (by omega)] at hE;obtain ⟨s,e1,e2,_⟩:=DataW.trod_string hs hE;have e3:xs.map (·.1)=ss.map λs => .lit (.string s.data.toList):=by
  have := (Prod.mk.inj ex).1;rw [hd] at this;exact (DataW.agg.inj this).symm
 have e4:(xs.map (·.1))[j]? = (ss.map λs=>(DataW.lit (.string s.data.toList):DataW Unit))[j]? := by rw [e3]
 rw [List.getElem?_map,List.getElem?_map,geq (by omega:j<xs.length),geq hj,e2] at e4;simp only [Option.map_some,sie,DataW.lit.injEq,Lit.string.injEq] at e4;have e5:s=ss[j]:=by
  cases s with | mk a=>cases hb:ss[j] with | mk b=>rw [hb] at e4;exact congrArg _<|Array.toList_inj.1 e4
 rw [World.var?_cell hg hv j,geq hj,<- e5];have h0:((cs.toList.drop j).take 1)[0]? = QZ (.string s):=by rw [e1];rfl
 grind
theorem NA {W:World} {g:Nat} {ss:List BA} (h:∀ j,j<ss.length->W.cell? ⟨g,j,Q0⟩=(ss[j]?).map .string) (h0:0<ss.length) :
  FRel W (λg=>g<W.heap.size) (.fp (ss.map λs => .v<|.string s) 0) (.pointer<|QZ ⟨g,0,Q0⟩):=by
 have hlt:g<W.heap.size:=World.block_lt_of_cell? W ⟨g,0,Q0⟩ (u:=.string ss[0]) (by simp_all);have hrow:∀ (j:Nat) (c:AV),(ss.map λs=>AV.v<|.string s)[j]? = QZ c->∃ hj:j<ss.length,c = .v (.string ss[j]):=λj c hc=>by
  grind
 refine .fp (o:=0) (λj => .string<|ss[j]?.getD ByteArray.empty) hlt hlt (λj c hc=>?_) (λj c hc=>rfl) λj c hc=>?_
 ·grind
 obtain ⟨hj,rfl⟩:=hrow j c hc;rw [geq hj];exact .v rfl
end
end Go.Proofs.YtabfkkjdfhbngaaGreatDoor
