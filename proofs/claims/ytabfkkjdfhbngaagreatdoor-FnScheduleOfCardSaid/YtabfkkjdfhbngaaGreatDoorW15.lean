/- Texts joined. No conditions. -/
import Derived.OpenShut
import Derived.Carry
import Derived.ChangeOld
import Derived.RowKit
import Derived.LaidMore
import Derived.LaidSub
import Derived.MakeChecks
import Derived.Test.YtabfkkjdfhbngaaGreatDoorW14
namespace Go.Proofs.YtabfkkjdfhbngaaGreatDoor
noncomputable section
open _root_.Bool renaming true -> Ri
open _root_.Option renaming some -> Rk
open _root_.Option renaming none -> Rl
open _root_.Go.Proofs.Tryz
open _root_.Go.Proofs.Tryz renaming prog -> Rn
set_option maxHeartbeats 4000000
open Go.RowKit
set_option maxRecDepth 100000
attribute [local irreducible] T TO TF TG TX QR EvA
theorem AZ {q} (h:nX=Rk q):ax Rn 193 [] (eL cS q):=by
 refine ax.mkT func193 Z (by kernel_rfl) Z (by kernel_rfl) (e0:=ai []) QP<|jI ?_;refine go h λ_ h=>?_;refine oN (QR.mkF (c:=cS) ([(⟨#[120,61,49,59,97,61,121,124,121,61,49,59,97,61,120]⟩:BA),(⟨#[120,61,49,59,102,101,110,99,101,59,97,61,121,124,121,61,49,59,102,101,110,99,101,59,97,61,120]⟩:BA),(⟨#[120,61,49,59,121,61,49,124,97,61,121,59,98,61,120]⟩:BA),(⟨#[120,61,49,59,121,61,49,124,97,61,121,59,102,101,110,99,101,59,98,61,120]⟩:BA),(⟨#[120,61,49,59,102,101,110,99,101,59,121,61,49,124,97,61,121,59,98,61,120]⟩:BA),(⟨#[97,61,120,59,121,61,49,124,97,61,121,59,120,61,49]⟩:BA),(⟨#[97,61,120,59,121,61,97,124,97,61,121,59,120,61,97]⟩:BA),(⟨#[120,61,49,124,120,61,50,124,97,61,120,59,98,61,120]⟩:BA),(⟨#[120,61,49,124,121,61,49,124,97,61,120,59,98,61,121,124,97,61,121,59,98,61,120]⟩:BA),(⟨#[120,61,49,124,97,61,120,59,121,61,49,124,97,61,121,59,98,61,120]⟩:BA),(⟨#[120,61,49,124,121,61,49,124,97,61,120,59,98,61,121]⟩:BA),(⟨#[97,61,120,58,49,124,97,61,120,58,50,124,120,61,51]⟩:BA),(⟨#[120,61,49,59,97,61,120,59,98,61,121,124,121,61,49,59,97,61,121,59,98,61,120]⟩:BA),(⟨#[120,61,50,59,121,61,49,124,121,61,50,59,120,61,49]⟩:BA),(⟨#[97,61,120,58,49,59,98,61,121,124,97,61,121,58,49,59,98,61,120]⟩:BA),(⟨#[120,61,49,59,120,61,50,124,97,61,120,59,98,61,120]⟩:BA),(⟨#[120,61,49,59,121,61,49,59,97,61,122,124,122,61,49,59,97,61,121,59,98,61,120]⟩:BA),(⟨#[97,61,120,58,49,124,98,61,120,58,49]⟩:BA),(⟨#[102,101,110,99,101]⟩:BA),(⟨#[]⟩:BA),(⟨#[120,61,49,59,97,61,121,124,121,61,49,59,102,101,110,99,101,59,97,61,120]⟩:BA)]:List BA) [[St (⟨#[120,61,49,59,97,61,121,124,121,61,49,59,97,61,120]⟩:BA)],[St (⟨#[120,61,49,59,102,101,110,99,101,59,97,61,121,124,121,61,49,59,102,101,110,99,101,59,97,61,120]⟩:BA)],[St (⟨#[120,61,49,59,121,61,49,124,97,61,121,59,98,61,120]⟩:BA)],[St (⟨#[120,61,49,59,121,61,49,124,97,61,121,59,102,101,110,99,101,59,98,61,120]⟩:BA)],[St (⟨#[120,61,49,59,102,101,110,99,101,59,121,61,49,124,97,61,121,59,98,61,120]⟩:BA)],[St (⟨#[97,61,120,59,121,61,49,124,97,61,121,59,120,61,49]⟩:BA)],[St (⟨#[97,61,120,59,121,61,97,124,97,61,121,59,120,61,97]⟩:BA)],[St (⟨#[120,61,49,124,120,61,50,124,97,61,120,59,98,61,120]⟩:BA)],[St (⟨#[120,61,49,124,121,61,49,124,97,61,120,59,98,61,121,124,97,61,121,59,98,61,120]⟩:BA)],[St (⟨#[120,61,49,124,97,61,120,59,121,61,49,124,97,61,121,59,98,61,120]⟩:BA)],[St (⟨#[120,61,49,124,121,61,49,124,97,61,120,59,98,61,121]⟩:BA)],[St (⟨#[97,61,120,58,49,124,97,61,120,58,50,124,120,61,51]⟩:BA)],[St (⟨#[120,61,49,59,97,61,120,59,98,61,121,124,121,61,49,59,97,61,121,59,98,61,120]⟩:BA)],[St (⟨#[120,61,50,59,121,61,49,124,121,61,50,59,120,61,49]⟩:BA)],[St (⟨#[97,61,120,58,49,59,98,61,121,124,97,61,121,58,49,59,98,61,120]⟩:BA)],[St (⟨#[120,61,49,59,120,61,50,124,97,61,120,59,98,61,120]⟩:BA)],[St (⟨#[120,61,49,59,121,61,49,59,97,61,122,124,122,61,49,59,97,61,121,59,98,61,120]⟩:BA)],[St (⟨#[97,61,120,58,49,124,98,61,120,58,49]⟩:BA)],[St (⟨#[102,101,110,99,101]⟩:BA)],[St (⟨#[]⟩:BA)],[St (⟨#[120,61,49,59,97,61,121,124,121,61,49,59,102,101,110,99,101,59,97,61,120]⟩:BA)]] Pk Z Z Z qD qD Z) ?_;exact gz h
theorem vO (s:BA) (c:Int) {q} (h:mQ s c=some q):ax Tryz.prog 229 [St s,Y c] (eL cS q):=by
 refine pM Tryz.func229 Z (by kernel_rfl) Z<|go h λ_ h=>?_;refine oA (EvA.mkO (c:=cS) ([]:List BA) [] Pk Z Z Z qD Z Z)<|go h λ_ h=>?_;refine tJ h (λs1 gh=>[(5,hS false 0 gh 1 s1.length)]) (λs1 gh=>[bE false gh 1 9 (s1.map cS)]) (λs1 u19 h=>?_) λs1 h=>?_
 ·exact gf h
 refine go h λ_ h=>?_;refine tT h 0 (λs5 gh=>[(7,I s5.2.1),(6,I s5.2.2),(5,hS false 0 gh 1 s5.1.length),(0,St s),(1,Y c)]) (λs5 gh=>[bE false gh 1 9 (s5.1.map cS)]) λs5 u7 ws5 h=>?_;refine Rb h (λ_ q8 h=>?_) λ_ q8 h=>?_
 ·refine go h λ_ h=>?_;refine tJ h (λs9 gh=>[(6,I s9.2),(5,hS false 0 gh 1 s9.1.length),(7,I s5.2.1),(0,St s),(1,Y c)]) (λs9 gh=>[bE false gh 1 9 (s9.1.map cS)]) (λs9 u17 h=>?_) λs9 h=>?_
  ·refine go h λ_ h=>?_;obtain rfl:=QU h;exact ⟨(s9.1,(s5.2.1+V),s9.2),u17,Z,trivial,Re⟩
  refine go h λ_ h=>?_;refine TO.jB h 6 (λs10=>[(25,Bo s10),(7,I s5.2.1),(6,I s5.2.2),(5,hS false 0 u7 1 s5.1.length),(0,St s),(1,Y c)]) (λs10=>[bE false u7 1 9 (s5.1.map cS)]) (λs10 q11 h js10=>?_) (λs10 q11 h js10=>?_) λs10 h=>?_
  ·exact gj h js10
  ·exact gj h js10
  refine gi h (λ_ q13 h=>?_) λ_ q13 h=>?_
  ·refine gk h λ_ _ h=>?_
   cases h
   exact ⟨u7+1,trivial,Re⟩
  refine go h λ_ h=>?_
  cases h
  exact ⟨u7,trivial,Re⟩
 refine jM<|lX h λh=>?_
 cases h
 exact ⟨u7,trivial,Re⟩
theorem cO (s:BA) (at_:Int) (from_:Int) (most:Int) {q} (h:bP s at_ from_ most=some q):ax Tryz.prog 275 [St s,I at_,Y from_,I most] (I q):=by
 refine pM Tryz.func275 Z (by kernel_rfl) Z<|go h λ_ h=>?_;refine gs h λ_ h=>?_;refine TO.jB h 6 (λs1=>[(19,Bo s1),(0,St s),(1,I at_),(2,Y from_),(3,I most)]) (λs1=>[]) (λs1 q2 h js1=>?_) (λs1 q2 h js1=>?_) λs1 h=>?_
 ·exact gj h js1
 ·exact gj h js1
 refine go h λ_ h=>?_;refine TO.jB h 9 (λs4=>[(29,Bo s4),(0,St s),(1,I at_),(2,Y from_)]) (λs4=>[]) (λs4 q5 h js4=>?_) (λs4 q5 h js4=>?_) λs4 h=>?_
 ·exact gj h js4
 ·exact gj h js4
 refine gi h (λ_ q9 h=>?_) λ_ q9 h=>?_
 ·exact gz h
 exact gz h
theorem A7 (s:BA) {q} (h:nY s=some q):ax Tryz.prog 247 [St s] (.agg<|QV.c q):=by
 refine pM Tryz.func247 Z (by kernel_rfl) Z<|go h λ_ h=>?_;refine Rb h (λ_ q1 h=>?_) λ_ q1 h=>?_
 ·exact gf h
 refine go h λ_ h=>?_;refine oC h (λ_=>cO _ _ _ _) Z Z Z Z λv2 _ h=>(go h λ_ h=>?_);refine oC h (λ_=>cO _ _ _ _) Z Z Z Z λv3 _ h=>(go h λ_ h=>?_);refine gs h λ_ h=>?_;refine TO.jB h 4 (λs4=>[(18,Bo s4),(4,I v3),(3,I v2),(2,.hp 0 0 4 0 0),(0,St s)]) (λs4=>[some ⟨0,4,79,[[I U,I U,I U,I U]]⟩]) (λs4 q5 h js4=>?_) (λs4 q5 h js4=>?_) λs4 h=>?_
 ·exact gj h js4
 ·exact gj h js4
 refine gi h (λ_ q6 h=>?_) λ_ q6 h=>?_
 ·refine go h λ_ h=>?_;refine oC h (λ_=>cO _ _ _ _) Z Z Z Z λv7 _ h=>?_;exact gf h
 refine go h λ_ h=>?_;refine gs h λ_ h=>?_;refine TO.jB h 4 (λs8=>[(29,Bo s8),(4,I v3),(3,I v2),(2,.hp 0 0 4 0 0),(0,St s)]) (λs8=>[some ⟨0,4,79,[[I U,I U,I U,I U]]⟩]) (λs8 q9 h js8=>?_) (λs8 q9 h js8=>?_) λs8 h=>?_
 ·exact gj h js8
 ·exact gj h js8
 refine gi h (λ_ q10 h=>?_) λ_ q10 h=>?_
 ·refine go h λ_ h=>?_;refine oC h (λ_=>cO _ _ _ _) Z Z Z Z λv11 _ h=>(go h λ_ h=>?_);refine oC h (λ_=>cO _ _ _ _) Z Z Z Z λv12 _ h=>?_;exact gf h
 refine go h λ_ h=>?_;refine gs h λ_ h=>?_;refine TO.jB h 4 (λs13=>[(42,Bo s13),(4,I v3),(2,.hp 0 0 4 0 0),(0,St s)]) (λs13=>[some ⟨0,4,79,[[I U,I U,I U,I U]]⟩]) (λs13 q14 h js13=>?_) (λs13 q14 h js13=>?_) λs13 h=>?_
 ·refine go h λ_ h=>?_;refine jB h λv15 cv15 h=>gN Z q14 (QR.call Z Z Z (cO s (2:Int) (97:Int) (2:Int) cv15) Z) ?_;exact gj h js13
 ·exact gj h js13
 refine gi h (λ_ q16 h=>?_) λ_ q16 h=>?_
 ·refine go h λ_ h=>?_;refine oC h (λ_=>cO _ _ _ _) Z Z Z Z λv17 _ h=>?_;exact gf h
 refine go h λ_ h=>?_;refine oC h (λ_=>cO _ _ _ _) Z Z Z Z λv18 _ h=>?_;exact gf h
theorem yQ (p:List<|List QV) {q} (h:lw p=some q):ax Tryz.prog 248 [eL (cL QV.c) p] (St q):=by
 refine pM Tryz.func248 Z (by kernel_rfl) Z<|go h λ_ h=>?_;refine T.jU h (λs1=>[(3,St s1)]) (λs1=>[]) (λs1 h=>?_) λs1 h=>?_
 ·exact gz h
 refine go h λ_ h=>?_;refine tU h (λs4=>[(4,I s4.1),(3,St s4.2),(0,eL (cL QV.c) p)]) (λs4=>[]) λs4 ws4 h=>?_;refine Rb h (λ_ q6 h=>?_) λ_ q6 h=>?_
 ·refine go h λ_ h=>?_;refine T.jU h (λs7=>[(3,St s7),(4,I s4.1),(0,eL (cL QV.c) p)]) (λs7=>[]) (λs7 h=>?_) λs7 h=>?_
  ·refine go h λ_ h=>?_;exact lE h Re
  refine go h λ_ h=>?_;refine T.jU h (λs8=>[(3,St s8),(4,I s4.1),(0,eL (cL QV.c) p)]) (λs8=>[]) (λs8 h=>?_) λs8 h=>?_
  ·refine go h λ_ h=>?_;refine tU h (λs13=>[(5,I s13.1),(3,St s13.2),(4,I s4.1),(0,eL (cL QV.c) p)]) (λs13=>[]) λs13 ws13 h=>?_;refine gs h λf h=>?_;obtain ⟨g15,_⟩:=f;refine jN Z h (λq16 h=>?_) λq16 h=>?_
   ·refine go h λ_ h=>?_;refine gs h λ_ h=>?_;refine T.jU h (λs17=>[(3,St s17),(5,I s13.1),(4,I s4.1),(0,eL (cL QV.c) p)]) (λs17=>[]) (λs17 h=>?_) λs17 h=>?_
    ·refine go h λ_ h=>?_;refine oC h (λ_=>Cw _) Z Z Z Z λv21 _ h=>(go h λ_ h=>?_);exact lE h Re
    refine gi h (λ_ q18 h=>?_) λ_ q18 h=>?_
    ·refine go h λ_ h=>?_
     cases h
     exact ⟨(),trivial,Re⟩
    refine go h λ_ h=>?_
    cases h
    exact ⟨(),trivial,Re⟩
   refine jM<|lX h λh=>?_
   cases h
   exact ⟨(),trivial,Re⟩
  refine gi h (λ_ q9 h=>?_) λ_ q9 h=>?_
  ·refine go h λ_ h=>?_
   cases h
   exact ⟨(),trivial,Re⟩
  refine go h λ_ h=>?_
  cases h
  exact ⟨(),trivial,Re⟩
 refine jM<|lX h λh=>?_
 cases h
 exact ⟨(),trivial,Re⟩
theorem vP (text:BA) {q} (h:eO text=some q):ax Tryz.prog 187 [St text] (.tup [eL (cL QV.c) q.1,Bo q.2]):=by
 refine pM Tryz.func187 Z (by kernel_rfl) Z<|go h λ_ h=>?_;refine oA (EvA.mkO (c:=(cL QV.c)) ([]:List<|List QV) [] Ah Z Z Z qD Z Z)<|go h λ_ h=>?_;refine oC h (λ_=>vO _ _) Z Z Z Z λv1 _ h=>(go h λ_ h=>?_);refine tJ h (λs2 gh=>[(4,hS false 0 gh 1 s2.length),(0,St text)]) (λs2 gh=>[bE false gh 1 73 (s2.map<|cL QV.c)]) (λs2 u35 h=>?_) λs2 h=>?_
 ·refine gs h λ_ h=>?_;refine jB h λv36 cv36 h=>oA (EvA.callT Z Z (ko s2 cv36) (.cons (Fz.own (g:=false) (ver:=u35) (l:=s2) Z Z Z nofun qD) .nil) Z)<|go h λ_ h=>?_;refine TO.jB h 5 (λs37=>[(66,Bo s37),(4,hS false 0 u35 1 s2.length)]) (λs37=>[bE false u35 1 73 (s2.map<|cL QV.c)]) (λs37 q38 h js37=>?_) (λs37 q38 h js37=>?_) λs37 h=>?_
  ·exact gj h js37
  ·refine go h λ_ h=>?_;refine jB h λv39 cv39 h=>gA Z q38 (EvA.callT Z Z (yQ s2 cv39) (.cons (Fz.own (g:=false) (ver:=u35) (l:=s2) Z Z Z nofun qD) .nil) Z) ?_;exact gj h js37
  refine gi h (λ_ q40 h=>?_) λ_ q40 h=>?_
  ·refine go h λ_ h=>?_;refine oN (QR.mkF (c:=(cL QV.c)) ([]:List<|List QV) [] Ah Z Z Z qD qD Z)<|go h λ_ h=>?_;obtain rfl:=QU h
   repeat (first|refine n9 ?_|refine og ?_)
   exact jQ (vs:=[eL (cL QV.c) ([]:List<|List QV),Bo false]) (.cons (.tmp Z)<|.cons (.tmp Z) .nil)<|.tupL<|.cons (qC Z)<|.cons (qC Z) .nil
  refine go h λ_ h=>?_;obtain rfl:=QU h
  repeat (first|refine n9 ?_|refine og ?_)
  exact jQ (vs:=[hS false 0 u35 1 s2.length,Bo true]) (.cons (.tmp Z)<|.cons (.tmp Z) .nil)<|.tupL<|.cons (Fz.own (g:=false) (ver:=u35) (l:=s2) Z Z Z nofun qD)<|.cons (qC Z) .nil
 refine go h λ_ h=>?_;refine tT h 0 (λs6 gh=>[(6,I s6.2),(5,eL cS v1),(4,hS false 0 gh 1 s6.1.length),(0,St text)]) (λs6 gh=>[bE false gh 1 73 (s6.1.map<|cL QV.c)]) λs6 u8 ws6 h=>?_;refine gs h λ_ h=>?_;refine TO.jB h 3 (λs9=>[(20,Bo s9),(6,I s6.2),(5,eL cS v1),(4,hS false 0 u8 1 s6.1.length),(0,St text)]) (λs9=>[bE false u8 1 73 (s6.1.map<|cL QV.c)]) (λs9 q10 h js9=>?_) (λs9 q10 h js9=>?_) λs9 h=>?_
 ·exact gj h js9
 ·exact gj h js9
 refine gi h (λ_ q11 h=>?_) λ_ q11 h=>?_
 ·refine go h λ_ h=>?_;refine tJ h (λs12 gh=>[(4,hS false 0 gh 1 s12.length),(6,I s6.2),(5,eL cS v1),(0,St text)]) (λs12 gh=>[bE false gh 1 73 (s12.map<|cL QV.c)]) (λs12 u33 h=>?_) λs12 h=>?_
  ·refine go h λ_ h=>?_;obtain rfl:=QU h;exact ⟨(s12,(s6.2+V)),u33,Z,trivial,Re⟩
  refine go h λ_ h=>?_;refine oA (EvA.mkO (c:=QV.c) ([]:List QV) [] Ek Z Z Z qD Z Z)<|go h λf h=>?_;obtain ⟨g13,_⟩:=f;refine oC h (λ_=>vO _ _) Z Z Z Z λv14 _ h=>(go h λ_ h=>?_);refine tJ h (λs15 gh=>[(7,hS false 1 gh 4 s15.length),(6,I s6.2),(5,eL cS v1),(4,hS false 0 u8 1 s6.1.length),(0,St text)]) (λs15 gh=>[bE false u8 1 73 (s6.1.map<|cL QV.c),bE false gh 4 79 (s15.map QV.c)]) (λs15 u31 h=>?_) λs15 h=>?_
  ·refine go h λ_ h=>?_;refine oA (EvA.mkR [[hS false 1 u31 4 s15.length]] Ah Z Z Z Z)<|jL h λg32 h=>oA (EvA.appR (g:=false) (rows:=s6.1.map<|cL QV.c) (rows':=s6.1.map (cL QV.c)++[[hS false 1 u31 4 s15.length]]) (n':=s6.1.length+1) Ah (by kernel_rfl) Z Z (by simp) nofun (bL.raw (rows:=[[hS false 1 u31 4 s15.length]]) Z Z Z) g32 Z Z) ?_;refine go h λ_ h=>?_;obtain rfl:=QU h;exact ⟨u8+1,trivial,uY Z (.cons (.snoc qD<|.cons (.cons (.fz<|Fz.own (g:=false) (ver:=u31) (l:=s15) Z Z Z nofun QV.isF) .nil) .nil) .nil)<|au (.eqv (congrArg (hS false 0 (u8+1) 1) (by simp:(s6.1.length+1)=(s6.1++[s15]).length))<|.hS (g:=false) (b:=0) (ver:=u8+1) (s:=1) (n:=(s6.1++[s15]).length) Z)<|au (.fz<|qC Z)<|au (.fz<|qC Z)<|au (.fz<|qC Z) bB⟩
  refine go h λ_ h=>?_;refine tT h 0 (λs19 gh=>[(9,I s19.2),(8,eL cS v14),(7,hS false 1 gh 4 s19.1.length),(6,I s6.2),(5,eL cS v1),(4,hS false 0 u8 1 s6.1.length),(0,St text)]) (λs19 gh=>[bE false u8 1 73 (s6.1.map<|cL QV.c),bE false gh 4 79 (s19.1.map QV.c)]) λs19 u21 ws19 h=>?_;refine gs h λ_ h=>?_;refine TO.jB h 3 (λs22=>[(36,Bo s22),(9,I s19.2),(8,eL cS v14),(7,hS false 1 u21 4 s19.1.length),(6,I s6.2),(5,eL cS v1),(4,hS false 0 u8 1 s6.1.length),(0,St text)]) (λs22=>[bE false u8 1 73 (s6.1.map<|cL QV.c),bE false u21 4 79 (s19.1.map QV.c)]) (λs22 q23 h js22=>?_) (λs22 q23 h js22=>?_) λs22 h=>?_
  ·exact gj h js22
  ·exact gj h js22
  refine go h λ_ h=>?_;refine TO.jB h 6 (λs24=>[(43,Bo s24),(9,I s19.2),(8,eL cS v14),(7,hS false 1 u21 4 s19.1.length),(6,I s6.2),(5,eL cS v1),(4,hS false 0 u8 1 s6.1.length),(0,St text)]) (λs24=>[bE false u8 1 73 (s6.1.map<|cL QV.c),bE false u21 4 79 (s19.1.map QV.c)]) (λs24 q25 h js24=>?_) (λs24 q25 h js24=>?_) λs24 h=>?_
  ·exact gj h js24
  ·exact gj h js24
  refine gi h (λ_ q26 h=>?_) λ_ q26 h=>?_
  ·refine go h λ_ h=>?_;refine gs h λ_ h=>?_;refine oC h (λ_=>A7 _) Z Z Z Z λv28 _ h=>oN (QR.mkF (c:=QV.c) ([v28]:List QV) [(QV.c v28)] Ek Z Z Z qD QV.isF Z)<|go h λ_ h=>?_;obtain rfl:=QU h;exact ⟨((s19.1++[v28]),(s19.2+V)),u21+1,Z,trivial,Re⟩
  refine jM<|lX h λh=>?_
  cases h
  exact ⟨u21,trivial,Re⟩
 refine jM<|lX h λh=>?_
 cases h
 exact ⟨u8,trivial,Re⟩
theorem uP (r_:ah) (aG:Nat) {q} (h:fT r_=some q):dS Tryz.prog 194 [.hp 0 aG 2 0 0] [some ⟨aG,2,157,[(ah.c r_)]⟩] (.agg<|QV.c q.2) [some ⟨aG,2,157,[(ah.c q.1)]⟩]:=by
 refine aM Tryz.func194 Z (by kernel_rfl) Z<|go h λ_ h=>?_;refine jB h λv1 cv1 h=>oA (EvA.call Z Z Z<|(aC (⟨r_.b,r_.p⟩:ah) (2:Int) aG cv1).one 0 Z (.cons (.hp Z)<|.cons (.pF Z) .nil) (ak Z) (ak Z) Z)<|go h λ_ h=>?_;refine gs h λ_ h=>?_;refine jB h λv2 cv2 h=>oA (EvA.call Z Z Z<|(aC (⟨v1.1.b,v1.1.p⟩:ah) (7:Int) aG cv2).one 0 Z (.cons (.hp Z)<|.cons (.pF Z) .nil) (ak Z) (ak Z) Z) ?_;refine gi h (λ_ q3 h=>?_) λ_ q3 h=>?_
 ·refine go h λ_ h=>?_;obtain rfl:=QU h
  repeat (first|refine n9 ?_|refine og ?_)
  exact ⟨ai [(2,.fp (QV.c (⟨(4:Int),U,U,U⟩:QV)) 0)],[some ⟨aG,2,157,[(ah.c (⟨v2.1.b,v2.1.p⟩:ah))]⟩],Re,jQ (vs:=[.agg (QV.c (⟨(4:Int),U,U,U⟩:QV))]) (.cons (.cellF (.agg<|QV.c (⟨(4:Int),U,U,U⟩:QV)) Hu Z Z) .nil) ⟨Z,Z⟩⟩
 refine gi h (λ_ q4 h=>?_) λ_ q4 h=>?_
 ·refine go h λ_ h=>?_;refine jB h λv5 cv5 h=>oA (EvA.call Z Z Z<|(aC (⟨v2.1.b,v2.1.p⟩:ah) (2:Int) aG cv5).one 0 Z (.cons (.hp Z)<|.cons (.pF Z) .nil) (ak Z) (ak Z) Z)<|go h λ_ h=>?_;obtain rfl:=QU h
  repeat (first|refine n9 ?_|refine og ?_)
  exact ⟨ai [(2,.fp (QV.c (⟨(3:Int),v1.2,v5.2,U⟩:QV)) 0)],[some ⟨aG,2,157,[(ah.c (⟨v5.1.b,v5.1.p⟩:ah))]⟩],Re,jQ (vs:=[.agg (QV.c (⟨(3:Int),v1.2,v5.2,U⟩:QV))]) (.cons (.cellF (.agg<|QV.c (⟨(3:Int),v1.2,v5.2,U⟩:QV)) Hu Z Z) .nil) ⟨Z,Z⟩⟩
 refine gi h (λ_ q6 h=>?_) λ_ q6 h=>?_
 ·refine go h λ_ h=>?_;refine jB h λv7 cv7 h=>oA (EvA.call Z Z Z<|(aC (⟨v2.1.b,v2.1.p⟩:ah) (2:Int) aG cv7).one 0 Z (.cons (.hp Z)<|.cons (.pF Z) .nil) (ak Z) (ak Z) Z)<|go h λ_ h=>?_;refine jB h λv8 cv8 h=>oA (EvA.call Z Z Z<|(aC (⟨v7.1.b,v7.1.p⟩:ah) (3:Int) aG cv8).one 0 Z (.cons (.hp Z)<|.cons (.pF Z) .nil) (ak Z) (ak Z) Z)<|go h λ_ h=>?_;obtain rfl:=QU h
  repeat (first|refine n9 ?_|refine og ?_)
  exact ⟨ai [(2,.fp (QV.c (⟨(5:Int),v1.2,v7.2,(V+v8.2)⟩:QV)) 0)],[some ⟨aG,2,157,[(ah.c (⟨v8.1.b,v8.1.p⟩:ah))]⟩],Re,jQ (vs:=[.agg (QV.c (⟨(5:Int),v1.2,v7.2,(V+v8.2)⟩:QV))]) (.cons (.cellF (.agg<|QV.c (⟨(5:Int),v1.2,v7.2,(V+v8.2)⟩:QV)) Hu Z Z) .nil) ⟨Z,Z⟩⟩
 refine T.jU h (λs10=>[(26,Bo s10),(3,I v1.2),(2,.hp 1 0 4 0 0),(0,.hp 0 aG 2 0 0)]) (λs10=>[some ⟨aG,2,157,[(ah.c v2.1)]⟩,some ⟨0,4,79,[[I U,I U,I U,I U]]⟩]) (λs10 h=>?_) λs10 h=>?_
 ·refine jN Z h (λq12 h=>?_) λq12 h=>?_
  ·refine go h λ_ h=>?_;refine jB h λv13 cv13 h=>oA (EvA.call Z Z Z<|(aC (⟨v2.1.b,v2.1.p⟩:ah) (3:Int) aG cv13).one 0 Z (.cons (.hp Z)<|.cons (.pF Z) .nil) (ak Z) (ak Z) Z)<|go h λ_ h=>?_;obtain rfl:=QU h
   repeat (first|refine n9 ?_|refine og ?_)
   exact ⟨ai [(2,.fp (QV.c (⟨(2:Int),v1.2,U,(V+v13.2)⟩:QV)) 0)],[some ⟨aG,2,157,[(ah.c (⟨v13.1.b,v13.1.p⟩:ah))]⟩],Re,jQ (vs:=[.agg (QV.c (⟨(2:Int),v1.2,U,(V+v13.2)⟩:QV))]) (.cons (.cellF (.agg<|QV.c (⟨(2:Int),v1.2,U,(V+v13.2)⟩:QV)) Hu Z Z) .nil) ⟨Z,Z⟩⟩
  refine go h λ_ h=>?_;refine jB h λv15 cv15 h=>oA (EvA.call Z Z Z<|(aC (⟨v2.1.b,v2.1.p⟩:ah) (2:Int) aG cv15).one 0 Z (.cons (.hp Z)<|.cons (.pF Z) .nil) (ak Z) (ak Z) Z)<|go h λ_ h=>?_;obtain rfl:=QU h
  repeat (first|refine n9 ?_|refine og ?_)
  exact ⟨ai [(2,.fp (QV.c (⟨V,v1.2,v15.2,U⟩:QV)) 0)],[some ⟨aG,2,157,[(ah.c (⟨v15.1.b,v15.1.p⟩:ah))]⟩],Re,jQ (vs:=[.agg (QV.c (⟨V,v1.2,v15.2,U⟩:QV))]) (.cons (.cellF (.agg<|QV.c (⟨V,v1.2,v15.2,U⟩:QV)) Hu Z Z) .nil) ⟨Z,Z⟩⟩
 refine gi h (λ_ q11 h=>?_) λ_ q11 h=>?_
 ·refine go h λ_ h=>?_
  cases h
  exact ⟨(),trivial,Re⟩
 refine go h λ_ h=>?_
 cases h
 exact ⟨(),trivial,Re⟩
theorem Cz (r_:ah) (aG:Nat) {q} (h:qm r_=some q):dS Tryz.prog 124 [.hp 0 aG 2 0 0] [some ⟨aG,2,157,[(ah.c r_)]⟩] (eL (cL QV.c) q.2) [some ⟨aG,2,157,[(ah.c q.1)]⟩]:=by
 refine aM Tryz.func124 Z (by kernel_rfl) Z<|go h λ_ h=>?_;refine oC h (λ_=>AZ) Z Z Z Z λv1 _ h=>(go h λ_ h=>?_);obtain ⟨Ks2,es2,ws2,h,ks2⟩:=sumL h;refine T.join (S:=(LI)×Int) (G:=Unit) (λs2=>Ks2 s2=some q) (λs2 gh=>True) (λs2 gh=>[(0,.hp 0 aG 2 0 0)]) (λs2 gh=>[some ⟨aG,2,157,[[eL cY s2.1,I s2.2]]⟩]) (λs2 gh h hg=>?_) ?_
 ·clear ks2;subst es2;refine go h λ_ h=>?_;refine oA (EvA.mkO (c:=(cL QV.c)) ([]:List<|List QV) [] Ah Z Z Z qD Z Z)<|go h λ_ h=>?_;refine tJ h (λs9 gh=>[(6,hS false 1 gh 1 s9.2.2.length),(0,.hp 0 aG 2 0 0)]) (λs9 gh=>[some ⟨aG,2,157,[[eL cY s9.1,I s9.2.1]]⟩,bE false gh 1 73 (s9.2.2.map<|cL QV.c)]) (λs9 u35 h=>?_) λs9 h=>?_
  ·refine gs h λ_ h=>?_;refine jB h λv36 cv36 h=>oA (EvA.callT Z Z (ko s9.2.2 cv36) (.cons (Fz.own (g:=false) (ver:=u35) (l:=s9.2.2) Z Z Z nofun qD) .nil) Z) ?_;refine gi h (λ_ q37 h=>?_) λ_ q37 h=>?_
   ·refine go h λ_ h=>?_;obtain rfl:=QU h
    repeat (first|refine n9 ?_|refine og ?_)
    exact ⟨ai [(2,eL (cL QV.c) s9.2.2)],[some ⟨aG,2,157,[(ah.c (⟨s9.1,s9.2.1⟩:ah))]⟩],uY Z (.cons (.row<|.cons (.fz<|qC Z)<|.cons (.fz<|qC Z) .nil) .nil)<|au (.fz<|Fz.own (g:=false) (ver:=u35) (l:=s9.2.2) Z Z Z nofun qD) bB,jQ (vs:=[eL (cL QV.c) s9.2.2]) (.cons (.tmp Z) .nil) ⟨Z,Z⟩⟩
   refine go h λ_ h=>?_;refine jB h λv38 cv38 h=>oA (EvA.call Z Z Z<|(uP (⟨s9.1,s9.2.1⟩:ah) aG cv38).one 0 Z (.cons (.hp Z) .nil) (ak Z) (ak Z) Z)<|oN (QR.mkF (c:=QV.c) ([v38.2]:List QV) [(QV.c v38.2)] Ek Z Z Z qD QV.isF Z) ?_;refine gk h λ_ _ h=>?_;obtain rfl:=QU h
   repeat (first|refine n9 ?_|refine og ?_)
   exact ⟨ai [(2,eL (cL QV.c) ([([v38.2]:List QV)]:List<|List QV))],[some ⟨aG,2,157,[(ah.c (⟨v38.1.b,v38.1.p⟩:ah))]⟩],uY Z (.cons (.row<|.cons (.fz<|qC Z)<|.cons (.fz<|qC Z) .nil) .nil)<|au (.fz<|qC Z) bB,jQ (vs:=[eL (cL QV.c) ([([v38.2]:List QV)]:List<|List QV)]) (.cons (.tmp Z) .nil) ⟨Z,Z⟩⟩
  refine go h λ_ h=>?_;refine oN (QR.mkF (c:=cI) ([(2:Int),(3:Int),V]:LI) [[I (2:Int)],[I (3:Int)],[I V]] iI Z Z Z qD qD Z)<|jB h λv10 cv10 h=>oA (EvA.call Z Z Z<|(cE (⟨s2.1,s2.2⟩:ah) ([(2:Int),(3:Int),V]:LI) aG cv10).one 0 Z (.cons (.hp Z)<|.cons (.pF Z) .nil) (ak Z) (ak Z) Z) ?_;refine go h λ_ h=>?_;refine tT h 0 (λs14 gh=>[(7,I s14.2.2.2),(6,hS false 1 gh 1 s14.2.2.1.length),(0,.hp 0 aG 2 0 0)]) (λs14 gh=>[some ⟨aG,2,157,[[eL cY s14.1,I s14.2.1]]⟩,bE false gh 1 73 (s14.2.2.1.map<|cL QV.c)]) λs14 u16 ws14 h=>?_;refine Rb h (λ_ q17 h=>?_) λ_ q17 h=>?_
  ·refine go h λ_ h=>?_;refine tJ h (λs18 gh=>[(6,hS false 1 gh 1 s18.2.2.length),(7,I s14.2.2.2),(0,.hp 0 aG 2 0 0)]) (λs18 gh=>[some ⟨aG,2,157,[[eL cY s18.1,I s18.2.1]]⟩,bE false gh 1 73 (s18.2.2.map<|cL QV.c)]) (λs18 u33 h=>?_) λs18 h=>?_
   ·refine go h λ_ h=>?_;obtain rfl:=QU h;exact ⟨(s18.1,s18.2.1,s18.2.2,(s14.2.2.2-V)),u33,Z,trivial,Re⟩
   refine go h λ_ h=>?_;refine oA (EvA.mkO (c:=QV.c) ([]:List QV) [] Ek Z Z Z qD Z Z)<|go h λ_ h=>?_;refine tJ h (λs19 gh=>[(8,hS false 2 gh 4 s19.2.2.length),(7,I s14.2.2.2),(6,hS false 1 u16 1 s14.2.2.1.length),(0,.hp 0 aG 2 0 0)]) (λs19 gh=>[some ⟨aG,2,157,[[eL cY s19.1,I s19.2.1]]⟩,bE false u16 1 73 (s14.2.2.1.map<|cL QV.c),bE false gh 4 79 (s19.2.2.map QV.c)]) (λs19 u31 h=>?_) λs19 h=>?_
   ·refine go h λ_ h=>?_;refine oA (EvA.mkR [[hS false 2 u31 4 s19.2.2.length]] Ah Z Z Z Z)<|jL h λg32 h=>oA (EvA.appR (g:=false) (rows:=s14.2.2.1.map<|cL QV.c) (rows':=s14.2.2.1.map (cL QV.c)++[[hS false 2 u31 4 s19.2.2.length]]) (n':=s14.2.2.1.length+1) Ah (by kernel_rfl) Z Z (by simp) nofun (bL.raw (rows:=[[hS false 2 u31 4 s19.2.2.length]]) Z Z Z) g32 Z Z) ?_;refine go h λ_ h=>?_;obtain rfl:=QU h;exact ⟨u16+1,trivial,uY Z (.cons (.row<|.cons (.fz<|qC Z)<|.cons (.fz<|qC Z) .nil)<|.cons (.snoc qD<|.cons (.cons (.fz<|Fz.own (g:=false) (ver:=u31) (l:=s19.2.2) Z Z Z nofun QV.isF) .nil) .nil) .nil)<|au (.eqv (congrArg (hS false 1 (u16+1) 1) (by simp:(s14.2.2.1.length+1)=(s14.2.2.1++[s19.2.2]).length))<|.hS (g:=false) (b:=1) (ver:=u16+1) (s:=1) (n:=(s14.2.2.1++[s19.2.2]).length) Z)<|au (.fz<|qC Z)<|au (.hp<|nlb Z) bB⟩
   refine go h λ_ h=>?_;refine oN (QR.mkF (c:=cI) ([(2:Int),V,(3:Int),(2:Int),U]:LI) [[I (2:Int)],[I V],[I (3:Int)],[I (2:Int)],[I U]] iI Z Z Z qD qD Z)<|jB h λv20 cv20 h=>oA (EvA.call Z Z Z<|(cE (⟨s14.1,s14.2.1⟩:ah) ([(2:Int),V,(3:Int),(2:Int),U]:LI) aG cv20).one 0 Z (.cons (.hp Z)<|.cons (.pF Z) .nil) (ak Z) (ak Z) Z) ?_;refine go h λ_ h=>?_;refine tT h 0 (λs24 gh=>[(9,I s24.2.2.2),(8,hS false 2 gh 4 s24.2.2.1.length),(7,I s14.2.2.2),(6,hS false 1 u16 1 s14.2.2.1.length),(0,.hp 0 aG 2 0 0)]) (λs24 gh=>[some ⟨aG,2,157,[[eL cY s24.1,I s24.2.1]]⟩,bE false u16 1 73 (s14.2.2.1.map<|cL QV.c),bE false gh 4 79 (s24.2.2.1.map QV.c)]) λs24 u26 ws24 h=>?_;refine Rb h (λ_ q27 h=>?_) λ_ q27 h=>?_
   ·refine go h λ_ h=>?_;refine gs h λ_ h=>?_;refine jB h λv28 cv28 h=>oA (EvA.call Z Z Z<|(uP (⟨s24.1,s24.2.1⟩:ah) aG cv28).one 0 Z (.cons (.hp Z) .nil) (ak Z) (ak Z) Z)<|oN (QR.mkF (c:=QV.c) ([v28.2]:List QV) [(QV.c v28.2)] Ek Z Z Z qD QV.isF Z) ?_;refine go h λ_ h=>?_;obtain rfl:=QU h;exact ⟨(v28.1.b,v28.1.p,(s24.2.2.1++[v28.2]),(s24.2.2.2-V)),u26+1,Z,trivial,Re⟩
   refine jM<|lX h λh=>?_
   cases h
   exact ⟨u26,trivial,Re⟩
  refine jM<|lX h λh=>?_
  cases h
  exact ⟨u16,trivial,Re⟩
 refine go h λ_ h=>?_;refine jB h λv3 cv3 h=>oA (EvA.call Z Z Z<|(aC (⟨r_.b,r_.p⟩:ah) (3:Int) aG cv3).one 0 Z (.cons (.hp Z)<|.cons (.pF Z) .nil) (ak Z) (ak Z) Z) ?_;refine gi h (λ_ q4 h=>?_) λ_ q4 h=>?_
 ·refine go h λ_ h=>?_;refine jB h λv5 cv5 h=>oA (EvA.call Z Z Z<|(aC (⟨v3.1.b,v3.1.p⟩:ah) (v1.length:Int) aG cv5).one 0 Z (.cons (.hp Z)<|.cons (.pF Z) .nil) (ak Z) (ak Z) Z)<|go h λ_ h=>?_;refine oC h (λ_=>vP _) Z Z Z Z λv7 _ h=>?_;refine gi h (λ_ q8 h=>?_) λ_ q8 h=>?_
  ·refine go h λ_ h=>?_;obtain rfl:=QU h;replace h:=congrArg some (show _=_ from ks2);obtain rfl:=QU h
   repeat (first|refine n9 ?_|refine og ?_)
   exact ⟨ai [(2,eL (cL QV.c) v7.1)],[some ⟨aG,2,157,[(ah.c (⟨v5.1.b,v5.1.p⟩:ah))]⟩],Re,jQ (vs:=[eL (cL QV.c) v7.1]) (.cons (.tmp Z) .nil) ⟨Z,Z⟩⟩
  refine go h λ_ h=>?_;obtain rfl:=QU h;exact ⟨(v5.1.b,v5.1.p),(),ks2,trivial,Re⟩
 refine go h λ_ h=>?_;obtain rfl:=QU h;exact ⟨(v3.1.b,v3.1.p),(),ks2,trivial,Re⟩
theorem CB (r_:ah) (aG:Nat) {q} (h:qx r_=some q):dS Tryz.prog 63 [.hp 0 aG 2 0 0] [some ⟨aG,2,157,[(ah.c r_)]⟩] (.tup [eL (cL QV.c) q.2.1,.agg (QW.c q.2.2)]) [some ⟨aG,2,157,[(ah.c q.1)]⟩]:=by
 refine aM Tryz.func63 Z (by kernel_rfl) Z<|jI<|oN as'<|oA (EvA.al Ej Z Z)<|jA<|jI<|oN mv<|jB h λv1 cv1 h=>oA (EvA.call Z Z Z<|(Cz (⟨r_.b,r_.p⟩:ah) aG cv1).one 0 Z (.cons (.hp Z) .nil) (ak Z) (ak Z) Z)<|oN as'<|jA<|jI<|oN mv<|oC h (λ_=>CP _) Z Z Z Z λv2 _ h=>oN as'<|jA ?_;refine jH<|jP (dG [dF,dF,dF,dF,dF,([0],true),dF,dF,dF,([1],true)]) (by kernel_rfl) (by kernel_rfl)<|fN Z mv<|fN Z mv<|fN Z mv<|fN Z mv<|fN Z (QR.lenL Pm Z)<|jB h λv3 cv3 h=>fW 0 [] Z Z (λG hG=>EvA.call Z Z Z<|(aC (⟨v1.1.b,v1.1.p⟩:ah) (v2.length:Int) aG cv3).one 0 (hG.a0 Z) (.cons (.hp Z)<|.cons (.pF Z) .nil) (ak Z) (ak Z) Z)<|jD h λg4 h=>fN Z (QR.ixL Pm Z Z g4 qD)<|fN Z (lf (.agg<|QW.c<|J v2 v3.2) vH Z)<|fN Z as'<|fV 1 [] Z Z (λG hG=>EvA.st (cs:=(QW.c<|J v2 v3.2)) ⟨0,2,27,[(QW.c<|J v2 v3.2)]⟩ vH Z Z (hG.a0 Z) Z Z Z Z Z Z)<|jR<|jK ?_;obtain rfl:=QU h
 repeat (first|refine n9 ?_|refine og ?_)
 exact ⟨ai [(2,eL (cL QV.c) v1.2),(3,.fp (QW.c (⟨(J v2 v3.2).From,(J v2 v3.2).Order⟩:QW)) 0)],[some ⟨aG,2,157,[(ah.c (⟨v3.1.b,v3.1.p⟩:ah))]⟩],uY Z (.cons (.row<|.cons (.fz<|qC Z)<|.cons (.fz<|qC Z) .nil) .nil)<|au (.fz<|qC Z)<|au (.fz<|Fz.fpL (ver:=0) (s:=2) (ty:=27) (rows:=[[eL cI ((J v2 v3.2).From),eL (cL cI) ((J v2 v3.2).Order)]]) Z Z Z<|.cons (qC Z)<|.cons (qC Z) .nil) bB,jQ (vs:=[eL (cL QV.c) v1.2,.agg (QW.c (⟨(J v2 v3.2).From,(J v2 v3.2).Order⟩:QW))]) (.cons (.tmp Z)<|.cons (.cellF (.agg<|QW.c (⟨(J v2 v3.2).From,(J v2 v3.2).Order⟩:QW)) vH Z Z) .nil) ⟨Z,Z⟩⟩
theorem uW (code:LI) {q} (h:kO code=some q):ax Tryz.prog 24 [eL cY code] (.tup [eL (cL QV.c) q.1,.agg (QW.c q.2)]):=by
 refine pM Tryz.func24 Z (by kernel_rfl) Z<|jI<|oN as'<|oA (EvA.al Ej Z Z)<|jA<|jI<|oN mv<|jB h λv1 cv1 h=>oA (EvA.call Z Z Z<|(Ay code cv1).fresh Z (ak Z) 1 Z)<|oN as'<|jA<|jI<|oN mv<|jB h λv2 cv2 h=>oA (EvA.call Z Z Z<|(CB (⟨v1.b,v1.p⟩:ah) 0 cv2).one 1 Z (.cons (.hp Z) .nil) (ak Z) (ak Z) Z)<|oN mv ?_;refine oN (QR.ext (eL (cL QV.c) v2.2.1) Z Z)<|oN (QR.ext (.agg<|QW.c v2.2.2) Z Z)<|oA (EvA.al Ej Z Z)<|oN as'<|oV (sr (QW.c v2.2.2) vH Z Z Z Z)<|jA<|jH<|jP (dG [dF,dF,([1],true),dF,([2],false),([1],true),dF,([0],true)]) (by kernel_rfl) (by kernel_rfl)<|fN Z mv<|fN Z mv<|jB h λv3 cv3 h=>fW 1 [] Z Z (λG hG=>EvA.call Z Z Z<|(zY (⟨v2.1.b,v2.1.p⟩:ah) v2.2.1 0 cv3).one 1 (hG.a0 Z) (.cons (.hp Z)<|.cons (.pF Z) .nil) (ak Z) (ak Z) Z)<|fN Z mv<|fR [2] Z (λG hG=>EvA.loadhp (.agg<|QW.c v2.2.2) vH Z (hG.a0 Z) Z Z Z Z)<|jB h λv4 cv4 h=>fW 1 [] Z Z (λG hG=>EvA.call Z Z Z<|(zX (⟨v3.1.b,v3.1.p⟩:ah) (⟨v2.2.2.From,v2.2.2.Order⟩:QW) 0 cv4).one 1 (hG.a0 Z) (.cons (.hp Z)<|.cons (.pF Z) .nil) (ak Z) (ak Z) Z) ?_;refine fN Z as'<|fV 0 [] Z Z (λG hG=>EvA.st (cs:=(QW.c v4.2)) ⟨0,2,27,[(QW.c v4.2)]⟩ vH Z Z (hG.a0 Z) Z Z Z Z Z Z)<|jR<|jK ?_;obtain rfl:=QU h
 repeat (first|refine n9 ?_|refine og ?_)
 exact jQ (vs:=[eL (cL QV.c) v3.2,.agg (QW.c v4.2)]) (.cons (.tmp Z)<|.cons (.cell (.agg<|QW.c v4.2) vH Z Z Z Z Z Z) .nil)<|.tupL<|.cons (qC Z)<|.cons (qC Z) .nil
theorem uE (code:LI) {q} (h:fG code=some q):ax Tryz.prog 6 [eL cY code] (.tup [eL (cL QV.c) q.1,.agg (QW.c q.2)]):=by
 refine pM Tryz.func6 Z (by kernel_rfl) Z<|jI<|oN as'<|oA (EvA.al Ej Z Z)<|jA<|jI<|oN mv<|oC h (λ_=>uW _) Z Z Z Z λv1 _ h=>oN (QR.ext (eL (cL QV.c) v1.1) Z Z)<|oN (QR.ext (.agg<|QW.c v1.2) Z Z)<|oN as'<|oV (sr (QW.c v1.2) vH Z Z Z Z)<|jA<|jK ?_;obtain rfl:=QU h
 repeat (first|refine n9 ?_|refine og ?_)
 exact jQ (vs:=[eL (cL QV.c) v1.1,.agg (QW.c v1.2)]) (.cons (.tmp Z)<|.cons (.cell (.agg<|QW.c v1.2) vH Z Z Z Z Z Z) .nil)<|.tupL<|.cons (qC Z)<|.cons (qC Z) .nil
theorem vQ (a:LI) (b:LI) {q} (h:kG a b=some q):ax Tryz.prog 9 [eL cI a,eL cI b] (Bo q):=by
 refine pM Tryz.func9 Z (by kernel_rfl) Z<|jI<|oN as'<|jA<|jH<|jI<|oN mv<|oN (QR.lenL iI Z)<|oN mv<|oN (QR.lenL iI Z)<|oN (QR.ine Z Z)<|jA ?_;refine jN Z h (λq1 h=>?_) λq1 h=>?_
 ·refine jI<|oN as'<|jA<|jK ?_
  cases h
  exact FZ Z Z Z
 refine jG ?_;obtain ⟨Ks2,es2,ws2,h,ks2⟩:=sumL h;refine T.join (S:=Unit) (G:=Unit) (λs2=>Ks2 s2=some q) (λs2 gh=>True) (λs2 gh=>[]) (λs2 gh=>[]) (λs2 gh h hg=>?_) ?_
 ·clear ks2;subst es2;refine jI<|oN as'<|jA<|jK ?_
  cases h
  exact FZ Z Z Z
 refine jI<|oN as'<|jA<|jE ?_;refine T.lU h (λs5=>[(5,I s5),(0,eL cI a),(1,eL cI b)]) (λs5=>[]) (kw Z Z) λs5 ws5 h=>?_;refine jH<|jI<|oN mv<|oN mv<|oN (QR.lenL iI Z)<|oN (QR.ilt Z Z)<|jA ?_;refine jN Z h (λq7 h=>?_) λq7 h=>?_
 ·refine jG<|jH<|jE<|jH<|jP (λ_=>([],false)) (by kernel_rfl) (by kernel_rfl)<|fN Z mv<|fN Z mv<|jD h λg8 h=>fN Z (QR.ixL iI Z Z g8 qD)<|fN Z (lf (I<|J a s5) Ra Z)<|fN Z mv<|fN Z mv<|jD h λg9 h=>fN Z (QR.ixL iI Z Z g9 qD)<|fN Z (lf (I<|J b s5) Ra Z)<|fN Z (QR.ine Z Z) ?_;refine jR ?_;refine jN Z h (λq10 h=>?_) λq10 h=>?_
  ·refine jH<|T.clean (H0:=[]) (e0:=ai []) Z QP<|jC<|oN as'<|jA<|jK<|lX h λh=>?_;obtain rfl:=QU h;replace h:=congrArg some (show _=_ from ks2)
   cases h
   exact FZ Z Z Z
  refine jG<|jC<|oN mv<|jW h λg11 h=>oN (QR.add Z Z g11)<|oN as'<|jA ?_;exact lE h<|kw Z Z
 refine jM<|lX h λh=>?_
 cases h
 exact ⟨(),(),ks2,trivial,kw Z Z⟩
theorem vR (code:LI) {q} (h:eT code=some q):ax Tryz.prog 3 [eL cY code] (Bo q):=by
 refine pM Tryz.func3 Z (by kernel_rfl) Z<|jI<|oN as'<|jA<|jH<|jI<|oN mv<|oN (QR.lenL Iz Z)<|oN (QR.igt Z Z)<|jA ?_;refine jN Z h (λq1 h=>?_) λq1 h=>?_
 ·refine jI<|oN as'<|jA<|jK ?_
  cases h
  exact FZ Z Z Z
 refine jG<|jI<|oN mv<|oC h (λ_=>uE _) Z Z Z Z λv2 _ h=>oN mv<|oN (QR.ext (eL (cL QV.c) v2.1) Z Z)<|oN (QR.ext (.agg<|QW.c v2.2) Z Z)<|oA (EvA.al Ej Z Z)<|oN as'<|oV (sr (QW.c v2.2) vH Z Z Z Z)<|jA<|jI<|oN mv<|oA (lh (.agg<|QW.c v2.2) vH Z Z Z)<|oC h (λ_=>xm _ _) Z Z Z Z λv3 _ h=>oN mv ?_;refine oN (QR.ext (eL cI v3.1) Z Z)<|oN (QR.ext (Bo v3.2) Z Z)<|oN as'<|oN as'<|jA<|jH<|T.clean (H0:=[some ⟨0,2,27,[(QW.c v2.2)]⟩]) (e0:=ai [(6,Bo v3.2),(5,eL cI v3.1),(3,eL (cL QV.c) v2.1),(4,.hp 0 0 2 0 0)]) Z (QQ Z<|QQ Z<|QQ Z<|QQ Z QP)<|jC<|oN mv<|oA (lh (.agg<|QW.c v2.2) vH Z Z Z)<|oC h (λ_=>xn _ _) Z Z Z Z λv4 _ h=>oN mv<|oN (QR.ext (eL cI v4.1) Z Z)<|oN (QR.ext (Bo v4.2) Z Z)<|oN as'<|oN as' ?_;refine jA<|jH<|jI<|oN mv<|oN mv<|oN (QR.bne bt4 Z Z)<|oN mv ?_;refine TO.jB h 5 (λs5=>[(43,Bo s5),(8,Bo v4.2),(7,eL cI v4.1),(6,Bo v3.2),(5,eL cI v3.1),(3,eL (cL QV.c) v2.1),(4,.hp 0 0 2 0 0)]) (λs5=>[some ⟨0,2,27,[(QW.c v2.2)]⟩]) (λs5 q6 h js5=>?_) (λs5 q6 h js5=>?_) λs5 h=>?_
 ·refine gS Z q6<|gS Z q6<|gS Z q6<|gS Z q6<|oN (QR.pickT Z q6 (Bo true) Z) ?_
  cases h
  exact js5 _ _<|kw Z Z
 ·refine gN Z q6 mv<|gN Z q6 mv<|jB h λv7 cv7 h=>gN Z q6 (QR.call Z Z Z (vQ v3.1 v4.1 cv7) Z)<|gN Z q6 (QR.not Z)<|oN (QR.pickF Z q6 (Bo<|!v7) Z) ?_
  cases h
  exact js5 _ _<|kw Z Z
 refine oN mv ?_;refine TO.jB h 5 (λs8=>[(49,Bo s8),(8,Bo v4.2),(7,eL cI v4.1),(6,Bo v3.2),(5,eL cI v3.1),(3,eL (cL QV.c) v2.1),(4,.hp 0 0 2 0 0)]) (λs8=>[some ⟨0,2,27,[(QW.c v2.2)]⟩]) (λs8 q9 h js8=>?_) (λs8 q9 h js8=>?_) λs8 h=>?_
 ·refine gS Z q9<|gS Z q9<|gS Z q9<|gS Z q9<|oN (QR.pickT Z q9 (Bo true) Z) ?_
  cases h
  exact js8 _ _<|kw Z Z
 ·refine gN Z q9 mv<|gA Z q9 (lh (.agg<|QW.c v2.2) vH Z Z Z)<|jB h λv10 cv10 h=>gN Z q9 (QR.call Z Z Z (m6 v2.1 (⟨v2.2.From,v2.2.Order⟩:QW) cv10) Z)<|gN Z q9 (QR.not Z)<|oN (QR.pickF Z q9 (Bo<|!v10) Z) ?_
  cases h
  exact js8 _ _<|kw Z Z
 refine jA ?_;refine jN Z h (λq11 h=>?_) λq11 h=>?_
 ·refine jI<|oN mv<|oN mv<|oN (QR.beq bt4 Z Z)<|oN mv ?_;refine TO.jB h 4 (λs12=>[(57,Bo s12)]) (λs12=>[some ⟨0,2,27,[(QW.c v2.2)]⟩]) (λs12 q13 h js12=>?_) (λs12 q13 h js12=>?_) λs12 h=>?_
  ·refine gN Z q13 mv<|gN Z q13 mv<|jB h λv14 cv14 h=>gN Z q13 (QR.call Z Z Z (vQ v3.1 v4.1 cv14) Z)<|oN (QR.pickT Z q13 (Bo v14) Z) ?_
   cases h
   exact js12 _ _<|kw Z Z
  ·refine gS Z q13<|gS Z q13<|gS Z q13<|oN (QR.pickF Z q13 (Bo false) Z) ?_
   cases h
   exact js12 _ _<|kw Z Z
  refine oN as'<|jA<|jK ?_
  cases h
  exact FZ Z Z Z
 refine jG<|jI<|oC h (λ_=>AO _) Z Z Z Z λv15 _ h=>oN mv<|oN (QR.ext (eL aj.c v15.1) Z Z)<|oN (QR.ext (Bo v15.2) Z Z)<|oN as'<|oN as'<|jA<|jI<|oN mv<|oA (lh (.agg<|QW.c v2.2) vH Z Z Z)<|oN mv<|oC h (λ_=>xC _ _ _) Z Z Z Z λv16 _ h=>oN mv<|oN (QR.ext (I v16.1) Z Z) ?_;refine oN (QR.ext (Bo v16.2) Z Z)<|oN as'<|oN as'<|jA<|jI<|oN mv<|oN mv<|oC h (λ_=>Cv _ _) Z Z Z Z λv17 _ h=>oN mv<|oN (QR.ext (.agg<|QW.c v17.1) Z Z)<|oN (QR.ext (Bo v17.2) Z Z)<|oA (EvA.al Ej Z Z)<|oV (sr (QW.c v17.1) vH Z Z Z Z)<|oN as'<|jA<|jH ?_;refine T.clean (H0:=[some ⟨0,2,27,[(QW.c v2.2)]⟩,some ⟨0,2,27,[(QW.c v17.1)]⟩]) (e0:=ai [(14,Bo v17.2),(13,.hp 1 0 2 0 0),(12,Bo v16.2),(11,I v16.1),(10,Bo v15.2),(6,Bo v3.2),(4,.hp 0 0 2 0 0)]) Z (QQ Z<|QQ Z<|QQ Z<|QQ Z<|QQ Z<|QQ Z<|QQ Z QP)<|jC<|oN mv<|oN mv ?_;refine TO.jB h 2 (λs18=>[(78,Bo s18),(14,Bo v17.2),(13,.hp 1 0 2 0 0),(11,I v16.1),(6,Bo v3.2),(4,.hp 0 0 2 0 0)]) (λs18=>[some ⟨0,2,27,[(QW.c v2.2)]⟩,some ⟨0,2,27,[(QW.c v17.1)]⟩]) (λs18 q19 h js18=>?_) (λs18 q19 h js18=>?_) λs18 h=>?_
 ·refine gN Z q19 mv<|oN (QR.pickT Z q19 (Bo v16.2) Z) ?_
  cases h
  exact js18 _ _<|kw Z Z
 ·refine gS Z q19<|oN (QR.pickF Z q19 (Bo false) Z) ?_
  cases h
  exact js18 _ _<|kw Z Z
 refine oN mv ?_;refine TO.jB h 5 (λs20=>[(84,Bo s20),(14,Bo v17.2),(13,.hp 1 0 2 0 0),(6,Bo v3.2),(4,.hp 0 0 2 0 0)]) (λs20=>[some ⟨0,2,27,[(QW.c v2.2)]⟩,some ⟨0,2,27,[(QW.c v17.1)]⟩]) (λs20 q21 h js20=>?_) (λs20 q21 h js20=>?_) λs20 h=>?_
 ·refine gN Z q21 mv<|gN Z q21 mv<|gN Z q21 (QR.ieq Z Z)<|gN Z q21 (QR.beq bt4 Z Z)<|oN (QR.pickT Z q21 (Bo<|v3.2==(v16.1==(-1:Int))) Z) ?_
  cases h
  exact js20 _ _<|kw Z Z
 ·refine gS Z q21<|gS Z q21<|gS Z q21<|gS Z q21<|oN (QR.pickF Z q21 (Bo false) Z) ?_
  cases h
  exact js20 _ _<|kw Z Z
 refine oN mv ?_;refine TO.jB h 11 (λs22=>[(96,Bo s22)]) (λs22=>[some ⟨0,2,27,[(QW.c v2.2)]⟩,some ⟨0,2,27,[(QW.c v17.1)]⟩]) (λs22 q23 h js22=>?_) (λs22 q23 h js22=>?_) λs22 h=>?_
 ·refine gN Z q23 mv<|gN Z q23 (QR.not Z)<|gN Z q23 mv ?_;refine TO.jB h 7 (λs24=>[(95,Bo s24),(85,Bo s20)]) (λs24=>[some ⟨0,2,27,[(QW.c v2.2)]⟩,some ⟨0,2,27,[(QW.c v17.1)]⟩]) (λs24 q25 h js24=>?_) (λs24 q25 h js24=>?_) λs24 h=>?_
  ·refine gS Z q25<|gS Z q25<|gU Z<|gU Z<|gU Z<|gS Z q25<|gN Z q23 (QR.pickT Z q25 (Bo true) Z) ?_
   cases h
   exact js24 _ _<|kw Z Z
  ·refine gN Z q25 mv<|gN Z q25 mv ?_;refine TO.jB h 4 (λs26=>[(94,Bo s26),(88,Bo<|!v3.2),(85,Bo s20)]) (λs26=>[some ⟨0,2,27,[(QW.c v2.2)]⟩,some ⟨0,2,27,[(QW.c v17.1)]⟩]) (λs26 q27 h js26=>?_) (λs26 q27 h js26=>?_) λs26 h=>?_
   ·refine gA Z q27 (lh (.agg<|QW.c v2.2) vH Z Z Z)<|gA Z q27 (lh (.agg<|QW.c v17.1) vH Z Z Z)<|jB h λv28 cv28 h=>gN Z q27 (QR.call Z Z Z (zT (⟨v2.2.From,v2.2.Order⟩:QW) (⟨v17.1.From,v17.1.Order⟩:QW) cv28) Z)<|gN Z q25 (QR.pickT Z q27 (Bo v28) Z) ?_
    cases h
    exact js26 _ _<|kw Z Z
   ·refine gS Z q27<|gS Z q27<|gS Z q27<|gN Z q25 (QR.pickF Z q27 (Bo false) Z) ?_
    cases h
    exact js26 _ _<|kw Z Z
   refine gN Z q23 (QR.pickF Z q25 (Bo s26) Z) ?_
   cases h
   exact js24 _ _<|kw Z Z
  refine oN (QR.pickT Z q23 (Bo s24) Z) ?_
  cases h
  exact js22 _ _<|kw Z Z
 ·refine gS Z q23<|gS Z q23<|gS Z q23<|gU Z<|gU Z<|gU Z<|gU Z<|gU Z<|gU Z<|gS Z q23<|oN (QR.pickF Z q23 (Bo false) Z) ?_
  cases h
  exact js22 _ _<|kw Z Z
 refine oN as'<|jA<|jK ?_
 cases h
 exact FZ Z Z Z
open Go.ChangeShapes Go.WideShapes Go.ChangeAt Go.RowKit Go.WideElems
def KS (P:Program) (ns:List String):Bool:=ns.all λn=>((P.globalNamed n).bind (P.globals[·]?)).all λgl=>P.readableRec gl.type&&decide (gl.type<P.types.size)
theorem wM {H:Type} {enc:TypeId×Value->H} {P:Program} (hl:laidOutB P=Ri) {W W':World} (hb:Below W.heap.size W W') {sp:Nat->Bool} :
  ∀ {ns:List String} {gs:List (DataW H)} {ps:List MemPlace},KS P ns=Ri->DataW.TrodVars enc P W (λ_=>Ri) ns gs ps->(∀ x∈ps,sp x.block=Ri)->DataW.TrodVars enc P W' sp ns gs ps
 | [],[],_,_,h,_=>h
 | [],_::_,_,_,h,_=>h.elim
 | _::_,[],_,_,h,_=>h.elim
 | n::ns,d::ds,ps,hv,h,hsp=>by
  have hlt:=h.lt;obtain ⟨g,t,cs,fuel,p,q,h1,h2,h3,h4,hs,e⟩:=h;simp only [KS,List.all_cons,bae] at hv;have ht:P.readableRec t=Ri/\t<P.types.size:=by
   have := hv.1;rw [h1] at this
   cases hg:P.globals[g]? with
   | none=>simp_all
   | some gl=>
    simp_all
  have hp:∀ x∈p,x.block<W.heap.size:=λx hx=>hlt x (by simp_all);have h3':W'.var? P n=Rk cs:=by
   unfold World.var? at h3 ⊢;rw [h1] at h3 ⊢;simp only [Option.bind_some] at h3 ⊢;have hg:g<W.heap.size:=by
    cases hh:W.heap[g]? with
    | none=>simp_all
    | some o=>grind
   rw [hb.block g hg];exact h3
  exact ⟨g,t,cs,fuel,p,q,h1,h2,h3',DataW.trod_stays (kids_book hl ht.1) (book_sized ht.1) (λh=>by cases h) ⟨ht.2,book_self t⟩ h4 (λx hx=>hb.same (hp x hx)) (λx hx=>hsp x (by simp_all)),
   wM hl hb (by simpa [KS] using hv.2) hs (λx hx=>hsp x (by simp_all)),e⟩
theorem Ft {P:Program} {W:World} {n:String} {d:DataW Unit} {g t e:Nat} {ss:List BA} {l:List (String×DataW Unit)} (hm:laidMetH P l W) (hf:(l.filter λx=>x.1==n)=[(n,d)]) (hn:d.handleName?.isNone=Ri)
  (hg:P.globalNamed n=Rk g) (ht:(P.globals[g]?).map (·.type)=Rk t) (hu:P.underlying t=Rk (.array ss.length e)) (hs:P.underlying e=Rk .string) (hc:P.cellsOf e=1) (hd:d = .agg (ss.map λs => .lit<|.string s.data.toList)) :
  ∀ j,j<ss.length->W.cell? ⟨g,j,Rl⟩=(ss[j]?).map .string:=by
 have h1:=hm.filter λx=>x.1==n;rw [hf,MakeChecks.laidMetH_plain _ _ _ (by simp [hn])] at h1;obtain ⟨ps,⟨g',t',cs,fuel,p,q,hg',ht',hv,hr,_,_⟩,_,_⟩:=h1;obtain rfl:=osl<|hg.symm.trans hg';obtain rfl:=osl<|ht.symm.trans ht';obtain ⟨xs,m,_,ex,hlen,hl,hel⟩:=DataW.trod_array hu hr;intro j hj;have hE:=hel j hj;rw [hc,Nat.mul_one,geq (by omega)] at hE;obtain ⟨s,e1,e2,_⟩:=DataW.trod_string hs hE;have e3:xs.map (·.1)=ss.map λs => .lit (.string s.data.toList):=by
  have := (Prod.mk.inj ex).1;rw [hd] at this;exact (DataW.agg.inj this).symm
 have e4:(xs.map (·.1))[j]? = (ss.map λs=>(DataW.lit (.string s.data.toList):DataW Unit))[j]? := by rw [e3]
 rw [List.getElem?_map,List.getElem?_map,geq (by omega:j<xs.length),geq hj,e2] at e4;simp only [Option.map_some,sie,DataW.lit.injEq,Lit.string.injEq] at e4;have e5:s=ss[j]:=by
  cases s with | mk a=>cases hb:ss[j] with | mk b=>rw [hb] at e4;exact congrArg _<|Array.toList_inj.1 e4
 rw [World.var?_cell hg hv j,geq hj,<- e5];have h0:((cs.toList.drop j).take 1)[0]? = Rk (.string s):=by rw [e1];rfl
 grind
theorem KT {W:World} {g:Nat} {ss:List BA} (h:∀ j,j<ss.length->W.cell? ⟨g,j,Rl⟩=(ss[j]?).map .string) (h0:0<ss.length) :
  FRel W (λg=>g<W.heap.size) (.fp (ss.map λs => .v<|.string s) 0) (.pointer<|Rk ⟨g,0,Rl⟩):=by
 have hlt:g<W.heap.size:=World.block_lt_of_cell? W ⟨g,0,Rl⟩ (u:=.string ss[0]) (by simp_all);have hrow:∀ (j:Nat) (c:AV),(ss.map λs=>AV.v<|.string s)[j]? = Rk c->∃ hj:j<ss.length,c = .v (.string ss[j]):=λj c hc=>by
  grind
 refine .fp (o:=0) (λj => .string<|ss[j]?.getD ByteArray.empty) hlt hlt (λj c hc=>?_) (λj c hc=>rfl) λj c hc=>?_
 ·grind
 obtain ⟨hj,rfl⟩:=hrow j c hc;rw [geq hj];exact .v rfl
end
end Go.Proofs.YtabfkkjdfhbngaaGreatDoor
